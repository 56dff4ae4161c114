/- Items that were seen: the document's All. -/
import Derived.Test.YtboomdjkgheonaaRef2
namespace Go.Proofs.Ytboomdjkgheonaa.PSeenPlays
open Go.RowKit Go.Proofs.YtboomdjkgheonaaW.PrintWords Go.Proofs.YtboomdjkgheonaaW.PrintLast Go.Proofs.YtboomdjkgheonaaW.PrintMore
open Go.Proofs.YtboomdjkgheonaaO
attribute [local go_sem] max2_int min2_int max_two min_two max_three min_three max_four min_four
set_option linter.unusedVariables false
set_option linter.unusedSimpArgs false
theorem C_takeN {w : World} {A : Option Addr} {n : Nat} {xs : List S71} (h : Kd.C k71 w A n xs) {m : Nat} (hm : m ≤ n) : Kd.C k71 w A m (xs.take m) := by
  have hn := h.1
  subst hn
  have := Kd.C_take h hm
  rwa [show (xs.take m).length = m by rw [List.length_take]; omega] at this
theorem C_dropN {w : World} {A : Option Addr} {n c : Nat} {xs : List S71} (h : Kd.C k71 w A n xs) {m : Nat} (hm : m ≤ n) (hc : n ≤ c) : Kd.C k71 w (if c = m then A else A.map (·.add (m * 3))) (n - m) (xs.drop m) := by
  have hn := h.1
  subst hn
  have := Kd.C_drop h hm hc
  rwa [List.length_drop] at this
def ltR (p x : S71) : Prop := p.f0 < x.f0 ∨ p.f0 = x.f0 ∧ p.f1 < x.f1
def AllI (lo : Nat → Int) (l out : List S71) : Prop := out.Pairwise ltR ∧ ∀ x, x ∈ out ↔ x ∈ l ∧ ¬ x.f1 < lo x.f0.toNat
/-- What the document's list may be: right sources, each number once. -/
def RList (L : List S71) : Prop := (∀ x ∈ L, 0 ≤ x.f0 ∧ x.f0 < 4) ∧ L.Pairwise (fun p q => ¬ (p.f0 = q.f0 ∧ p.f1 = q.f1))
theorem ltR_trans {a b c : S71} (h1 : ltR a b) (h2 : ltR b c) : ltR a c := by
  unfold ltR at *
  omega
theorem all_skip {lo : Nat → Int} {L out : List S71} {i : Nat} {x : S71} (h : AllI lo (L.take i) out) (hx : L[i]? = some x) (hs : x.f1 < lo x.f0.toNat) : AllI lo (L.take (i + 1)) out := by
  obtain ⟨hi, rfl⟩ := List.getElem?_eq_some_iff.1 hx
  refine ⟨h.1, fun y => ?_⟩
  rw [List.take_succ_eq_append_getElem hi, List.mem_append, List.mem_singleton, h.2 y]
  constructor
  · rintro ⟨a, b⟩; exact ⟨.inl a, b⟩
  · rintro ⟨a | rfl, b⟩
    · exact ⟨a, b⟩
    · exact absurd hs b
theorem all_put {lo : Nat → Int} {L out : List S71} {i at_ : Nat} {x : S71} (hL : RList L) (h : AllI lo (L.take i) out) (hx : L[i]? = some x) (hs : ¬ x.f1 < lo x.f0.toNat) (hat : at_ ≤ out.length) (hgt : ∀ j p, at_ ≤ j → out[j]? = some p → ltR x p) (hle : ∀ p, 0 < at_ → out[at_ - 1]? = some p → ¬ ltR x p) : AllI lo (L.take (i + 1)) (out.take at_ ++ [x] ++ out.drop at_) := by
  obtain ⟨hi, rfl⟩ := List.getElem?_eq_some_iff.1 hx
  have hne : ∀ p ∈ out, ¬ (p.f0 = L[i].f0 ∧ p.f1 = L[i].f1) := fun p hp => by
    obtain ⟨hp1, _⟩ := (h.2 p).1 hp
    obtain ⟨j, hj⟩ := List.getElem?_of_mem hp1
    rw [List.getElem?_take] at hj
    split at hj
    · rename_i hji
      obtain ⟨hj2, rfl⟩ := List.getElem?_eq_some_iff.1 hj
      exact List.pairwise_iff_getElem.1 hL.2 j i hj2 hi hji
    · simp at hj
  have hlast : ∀ p, 0 < at_ → out[at_ - 1]? = some p → ltR p L[i] := fun p h0 hp => by
    have h1 := hle p h0 hp
    have h2 := hne p (List.mem_of_getElem? hp)
    unfold ltR at *
    omega
  have hlt : ∀ p ∈ out.take at_, ltR p L[i] := fun p hp => by
    obtain ⟨j, hj⟩ := List.getElem?_of_mem hp
    rw [List.getElem?_take] at hj
    split at hj
    · rename_i hja
      obtain ⟨hj2, rfl⟩ := List.getElem?_eq_some_iff.1 hj
      have hl := hlast (out[at_ - 1]'(by omega)) (by omega) (List.getElem?_eq_getElem _)
      by_cases e : j = at_ - 1
      · subst e; exact hl
      · exact ltR_trans (List.pairwise_iff_getElem.1 h.1 j (at_ - 1) hj2 (by omega) (by omega)) hl
    · simp at hj
  have hgt2 : ∀ p ∈ out.drop at_, ltR L[i] p := fun p hp => by
    obtain ⟨j, hj⟩ := List.getElem?_of_mem hp
    rw [List.getElem?_drop] at hj
    exact hgt _ p (by omega) hj
  refine ⟨?_, fun y => ?_⟩
  · rw [List.pairwise_append, List.pairwise_append]
    refine ⟨⟨h.1.sublist (List.take_sublist _ _), List.pairwise_singleton _ _, fun a ha b hb => ?_⟩, h.1.sublist (List.drop_sublist _ _), fun a ha b hb => ?_⟩
    · rw [List.mem_singleton] at hb; subst hb; exact hlt a ha
    · rcases List.mem_append.1 ha with ha | ha
      · exact ltR_trans (hlt a ha) (hgt2 b hb)
      · rw [List.mem_singleton] at ha; subst ha; exact hgt2 b hb
  · have hm : y ∈ out ↔ y ∈ out.take at_ ∨ y ∈ out.drop at_ := by rw [← List.mem_append, List.take_append_drop]
    rw [List.take_succ_eq_append_getElem hi, List.mem_append, List.mem_append, List.mem_append, List.mem_singleton]
    constructor
    · rintro ((a | rfl) | a)
      · have := (h.2 y).1 (hm.2 (.inl a)); exact ⟨.inl this.1, this.2⟩
      · exact ⟨.inr rfl, hs⟩
      · have := (h.2 y).1 (hm.2 (.inr a)); exact ⟨.inl this.1, this.2⟩
    · rintro ⟨a | rfl, b⟩
      · rcases hm.1 ((h.2 y).2 ⟨a, b⟩) with c | c
        · exact .inl (.inl c)
        · exact .inr c
      · exact .inl (.inr rfl)
theorem sub_lenR : ∀ (M L : List S71), M.Nodup → (∀ x ∈ M, x ∈ L) → M.length ≤ L.length
  | [], L, _, _ => Nat.zero_le _
  | x :: M, L, hn, hs => by
    obtain ⟨L1, L2, rfl⟩ := List.append_of_mem (hs x (List.mem_cons_self ..))
    rw [List.nodup_cons] at hn
    have := sub_lenR M (L1 ++ L2) hn.2 fun y hy => by
      have h1 := hs y (List.mem_cons_of_mem _ hy)
      rcases List.mem_append.1 h1 with h1 | h1
      · exact List.mem_append_left _ h1
      · rcases List.mem_cons.1 h1 with rfl | h1
        · exact absurd hy hn.1
        · exact List.mem_append_right _ h1
    simp only [List.length_append, List.length_cons] at this ⊢
    omega
theorem all_len {lo : Nat → Int} {l out : List S71} (h : AllI lo l out) (hl : l.Pairwise (fun p q => ¬ (p.f0 = q.f0 ∧ p.f1 = q.f1))) : out.length ≤ l.length := by
  have hnd : out.Nodup := h.1.imp fun {a b} hab e => by subst e; unfold ltR at hab; omega
  have hsub : ∀ x ∈ out, x ∈ l := fun x hx => ((h.2 x).1 hx).1
  exact sub_lenR out l hnd hsub
section
variable {w0 w w' : World} {R : List Asn} {A : Option Addr} {n c : Nat} {L : List S71} {lo : Nat → Int}
set_option maxHeartbeats 8000000 in
set_option maxRecDepth 100000 in
theorem RefAll (h : Own w0 w (Row k71 71 (.slice A L.length c) L :: R)) (hL : RList L) (hl : L.length ≤ 1000000) :
    Calls Try.prog 31 #[.agg #[.int .i64 (lo 0), .int .i64 (lo 1), .int .i64 (lo 2), .int .i64 (lo 3), .slice A L.length c]] w fun e w' => ∃ A' c' out, e = .returned (.slice A' out.length c') ∧ AllI lo L out ∧ Own w0 w' (Row k71 71 (.slice A' out.length c') out :: Row k71 71 (.slice A L.length c) L :: R) := by
  have H := Aside0.mk h
  have HL := Aside0.mk hL
  have HLN := Aside0.mk (fun (i : Nat) (out : List S71) (h : AllI lo (L.take i) out) => show out.length ≤ 1000000 from by
    have h1 := all_len h (hL.2.sublist (List.take_sublist _ _))
    rw [List.length_take] at h1
    omega)
  clear h hL
  go_enter Try.func31, Try.ntmps31
  go_wp2_with (((with_reducible refine gate_dst (N := 1) rfl ?_); refine box_event ?hg (N := 1) ?hd (cs := #[.int .i64 (lo 0), .int .i64 (lo 1), .int .i64 (lo 2), .int .i64 (lo 3), .slice A L.length c]) (t := 49) ?hr ?_; (case hd => rfl); (case hg => rfl); (case hr => first | (go_simp; done) | (go_simp; rfl)); intro gs hg W1 hbox hbb; have H2 := Aside0.mk (H.out.box hg hbox hbb); clear hg hbb hbox; skip))
  have H3 := Aside0.mk (H2.out.row_nil k71 71)
  go_loopw [3, 4] (fun v3 v4 wr => ∃ (i : Nat) (out : List S71) (A3 : Option Addr) (c3 : Nat), i ≤ L.length ∧ v4 = .int .i64 i ∧ v3 = .slice A3 out.length c3 ∧ (A3 = none → out = [] ∧ c3 = 0) ∧ Aside0 (AllI lo (L.take i) out) ∧ Aside0 (Own w0 wr (Row k71 71 (.slice A3 out.length c3) out :: Blk gs (.cells #[.int .i64 (lo 0), .int .i64 (lo 1), .int .i64 (lo 2), .int .i64 (lo 3), .slice A L.length c] 49 (0, 0)) :: Row k71 71 (.slice A L.length c) L :: R))) (fun _ v4 _ => L.length - (RowKit.intOf v4).toNat)
  case atStart => exact ⟨0, [], none, 0, Nat.zero_le _, rfl, rfl, fun _ => ⟨rfl, rfl⟩, ⟨List.Pairwise.nil, fun x => by simp⟩, H3⟩
  case round =>
    obtain ⟨i, out, A3, c3, hi, rfl, rfl, hnone, HI, HO⟩ := hrel
    have z4 : wr.cell? ⟨gs, 4, none⟩ = some (.slice A L.length c) := (blk_cell HO.out.at1 4).trans rfl
    by_cases hlt : i < L.length
    · have hgx := List.getElem?_eq_getElem hlt
      obtain ⟨x, hx⟩ : ∃ x, L[i] = x := ⟨_, rfl⟩
      rw [hx] at hgx
      obtain ⟨f0, f1, f2⟩ := x
      have HGX := Aside0.mk hgx
      have hxr := HL.out.1 _ (List.mem_of_getElem? hgx)
      have j0 : 0 ≤ f0 := hxr.1
      have j1 : f0 < 4 := hxr.2
      have j2 : f0.toNat < 4 := by omega
      obtain ⟨ad, rfl, y0, y1, y2⟩ := own_ref_at HO.out.r2 i f0 f1 f2 hgx
      rcases A3 with _ | a3
      · obtain ⟨rfl, rfl⟩ := hnone rfl
        clear hnone
        clear hgx hx hxr
        go_wp2
        have h4 := (HO.out.alloc (.cells #[.int .i64 f0, .int .i64 f1, .int .i64 f2] 71)).r1
        obtain ⟨W, hW⟩ : ∃ W, W = wr.alloc (.cells #[.int .i64 f0, .int .i64 f1, .int .i64 f2] 71) := ⟨_, rfl⟩
        rw [← hW] at h4 ⊢
        obtain ⟨bx, hbx⟩ : ∃ bx, bx = wr.heap.size := ⟨_, rfl⟩
        rw [← hbx] at h4 ⊢
        have H4 := Aside0.mk h4
        clear h4 hW hbx y0 y1 y2 z4
        have x0 : W.cell? ⟨bx, 0, none⟩ = some (.int .i64 f0) := (blk_cell H4.out.at1 0).trans rfl
        have x1 : W.cell? ⟨bx, 1, none⟩ = some (.int .i64 f1) := (blk_cell H4.out.at1 1).trans rfl
        have z := four_cell H4.out.at2 f0.toNat j2
        by_cases hs : f1 < lo f0.toNat
        · have e1 : decide (f1 < lo f0.toNat) = true := decide_eq_true hs
          have HI2 := Aside0.mk (all_skip HI.out HGX.out hs)
          clear hs
          go_quiet (fail)
          go_wp2
          go_roundw
          case rel => exact ⟨i + 1, [], none, 0, by omega, by first | rfl | go_num, rfl, fun _ => ⟨rfl, rfl⟩, HI2, ⟨(H4.out.drewN _).r1.tail⟩⟩
          case measure => first | (simp [RowKit.intOf]; done) | (simp [RowKit.intOf]; omega)
        · have e1 : decide (f1 < lo f0.toNat) = false := decide_eq_false hs
          have HS := Aside0.mk hs
          clear hs
          go_quiet (fail)
          go_wp2
          clear x0 x1 z e1
          refine wp_loop_rounds 1 ?_
          rw [rounds_succ]
          go_wp2
          have HQ5 := Aside0.mk (H4.out.drewN nq)
          obtain ⟨W5, hW5⟩ : ∃ W5, W5 = W.drewN nq := ⟨_, rfl⟩
          rw [← hW5] at HQ5 ⊢
          clear hW5
          go_quiet (fail)
          have HQ2 := Aside0.mk (HQ5.out.drewN nq)
          obtain ⟨W3, hW3⟩ : ∃ W3, W3 = W5.drewN nq := ⟨_, rfl⟩
          rw [← hW3] at HQ2 ⊢
          clear hW3
          go_wp2_with (first
            | ((with_reducible refine gate_dst (N := 67) rfl ?_); refine Own.litNil k71 71 ?hg (N := 67) ?hd ?hr HQ2.out ?_; (case hd => rfl); (case hg => rfl); (case hr => first | (go_simp; done) | (go_simp; rfl)); intro A6 c6 w6 h6; have H6 := Aside0.mk h6; clear h6)
            | ((with_reducible refine gate_dst (N := 71) rfl ?_); go_loud (refine Own.appendRows k71 rfl (.tmp 67) (.tmp 70) 45 71 (.agg #[.int .i64 0, .int .i64 0, .int .i64 0]) 24 rfl Try.underlying45 infoR rfl (by decide) (by omega) (.slice A6 0 c6) [] [] none 0 _ rfl rfl (Kd.C_nil _ _) (fun x cs h => by rw [k71_open h]; exact k71_mkM _ _ _ x) H6.out (by simp) ?_); intro A7 c7 w7 h7; have H7 := Aside0.mk h7; clear h7; rw [List.nil_append] at H7; rw [List.nil_append]; have x0 := (blk_cell H7.out.at2 0).trans rfl; have x1 := (blk_cell H7.out.at2 1).trans rfl; have x2 := (blk_cell H7.out.at2 2).trans rfl)
            | ((with_reducible refine gate_builtin (b := .append) (xs := #[.tmp 72, .tmp 74]) rfl ?_); at_builtin; go_loud (refine Own.append k71 rfl (.tmp 72) (.tmp 74) 45 71 (.agg #[.int .i64 0, .int .i64 0, .int .i64 0]) 24 rfl Try.underlying45 infoR rfl (by decide) (by omega) (.slice A7 0 c7) [] ⟨f0, f1, f2⟩ [.int .i64 f0, .int .i64 f1, .int .i64 f2] rfl rfl (fun _ => k71_mkM _ _ _ _) H7.out (by simp) ?_); intro A8 c8 w8 h8; have H8 := Aside0.mk h8; clear h8)
            | ((with_reducible refine gate_dst (N := 80) rfl ?_); go_loud (refine Own.appendRows k71 rfl (.tmp 76) (.tmp 79) 45 71 (.agg #[.int .i64 0, .int .i64 0, .int .i64 0]) 24 rfl Try.underlying45 infoR rfl (by decide) (by omega) (.slice A8 1 c8) [⟨f0, f1, f2⟩] [] none 0 _ rfl rfl (Kd.C_nil _ _) (fun x cs h => by rw [k71_open h]; exact k71_mkM _ _ _ x) H8.out (by simp) ?_); intro A9 c9 w9 h9; have H9 := Aside0.mk h9; clear h9))
          have HI2 := Aside0.mk (all_put (out := []) (at_ := 0) HL.out HI.out HGX.out (show ¬ f1 < lo f0.toNat by have := HS.out; omega) (Nat.le_refl _) (fun j p _ hp => by simp at hp) (fun p hp => absurd hp (by omega)))
          have HN9 := Aside0.mk (show ∀ A : Option Addr, A = A9 → A = none → [(⟨f0, f1, f2⟩ : S71)] = [] ∧ c9 = 0 from fun A e1 e2 => by
            subst e2
            obtain ⟨ad9, e3, _⟩ := (ref_reads H9.out).2.2.2.2 (by simp)
            rw [← e1] at e3
            cases e3)
          go_roundw
          case rel => exact ⟨i + 1, [⟨f0, f1, f2⟩], A9, c9, by omega, by first | rfl | go_num, rfl, HN9.out A9 rfl, HI2, ⟨H9.out.drop1.drop1⟩⟩
          case measure => first | (simp [RowKit.intOf]; done) | (simp [RowKit.intOf]; omega)
      clear hnone
      have hol := HLN.out i out HI.out
      clear hgx hx hxr
      go_wp2
      have h4 := (HO.out.alloc (.cells #[.int .i64 f0, .int .i64 f1, .int .i64 f2] 71)).r1
      obtain ⟨W, hW⟩ : ∃ W, W = wr.alloc (.cells #[.int .i64 f0, .int .i64 f1, .int .i64 f2] 71) := ⟨_, rfl⟩
      rw [← hW] at h4 ⊢
      obtain ⟨bx, hbx⟩ : ∃ bx, bx = wr.heap.size := ⟨_, rfl⟩
      rw [← hbx] at h4 ⊢
      have H4 := Aside0.mk h4
      clear h4 hW hbx y0 y1 y2 z4
      have x0 : W.cell? ⟨bx, 0, none⟩ = some (.int .i64 f0) := (blk_cell H4.out.at1 0).trans rfl
      have x1 : W.cell? ⟨bx, 1, none⟩ = some (.int .i64 f1) := (blk_cell H4.out.at1 1).trans rfl
      have z := four_cell H4.out.at2 f0.toNat j2
      by_cases hs : f1 < lo f0.toNat
      · have e1 : decide (f1 < lo f0.toNat) = true := decide_eq_true hs
        have HI2 := Aside0.mk (all_skip HI.out HGX.out hs)
        clear hs
        go_quiet (fail)
        go_wp2
        go_roundw
        case rel => exact ⟨i + 1, out, some a3, c3, by omega, by first | rfl | go_num, rfl, (fun q => by cases q), HI2, ⟨(H4.out.drewN _).r1.tail⟩⟩
        case measure => first | (simp [RowKit.intOf]; done) | (simp [RowKit.intOf]; omega)
      · have e1 : decide (f1 < lo f0.toNat) = false := decide_eq_false hs
        have HS := Aside0.mk hs
        clear hs
        go_quiet (fail)
        go_wp2
        have H5 := Aside0.mk (H4.out.drewN nq)
        clear x0 x1 z e1
        rename World => wo
        go_loopw [6] (fun v6 wr => ∃ at_ : Nat, at_ ≤ out.length ∧ v6 = .int .i64 at_ ∧ Aside0 (∀ j p, at_ ≤ j → out[j]? = some p → ltR ⟨f0, f1, f2⟩ p) ∧ Aside0 (Own w0 wr (Row k71 71 (.slice (some a3) out.length c3) out :: Blk bx (.cells #[.int .i64 f0, .int .i64 f1, .int .i64 f2] 71 (0, 0)) :: Blk gs (.cells #[.int .i64 (lo 0), .int .i64 (lo 1), .int .i64 (lo 2), .int .i64 (lo 3), .slice (some ad) L.length c] 49 (0, 0)) :: Row k71 71 (.slice (some ad) L.length c) L :: R))) (fun v6 _ => (RowKit.intOf v6).toNat)
        case atStart => exact ⟨out.length, Nat.le_refl _, rfl, ⟨fun j p hj hp => absurd (List.getElem?_eq_some_iff.1 hp).1 (by omega)⟩, H5⟩
        case round =>
          obtain ⟨at_, hat, rfl, HG, HQ⟩ := hrel
          have x0 : wr.cell? ⟨bx, 0, none⟩ = some (.int .i64 f0) := (blk_cell HQ.out.at1 0).trans rfl
          have x1 : wr.cell? ⟨bx, 1, none⟩ = some (.int .i64 f1) := (blk_cell HQ.out.at1 1).trans rfl
          have x2 : wr.cell? ⟨bx, 2, none⟩ = some (.int .i64 f2) := (blk_cell HQ.out.at1 2).trans rfl
          by_cases hz : at_ = 0
          · have i0 : decide ((at_ : Int) > 0) = false := decide_eq_false (by omega)
            have i1 : decide (0 < (at_ : Int)) = false := decide_eq_false (by omega)
            have i1n : decide (0 < at_) = false := decide_eq_false (by omega)
            have HLE : Aside0 (∀ p, 0 < at_ → out[at_ - 1]? = some p → ¬ ltR ⟨f0, f1, f2⟩ p) := ⟨fun p hp => absurd hp (by omega)⟩
            clear hz
            have LT := Lib.hid (show (out.take at_).length = at_ by rw [List.length_take]; omega)
            have hcap := (ref_reads HQ.out).2.1
            have hac : at_ ≤ c3 := by omega
            go_wp2
            go_quiet (fail)
            have HQ2 := Aside0.mk (HQ.out.drewN nq)
            obtain ⟨W3, hW3⟩ : ∃ W3, W3 = wr.drewN nq := ⟨_, rfl⟩
            rw [← hW3] at HQ2 ⊢
            clear hW3 x0 x1 x2
            go_wp2_with (first
              | ((with_reducible refine gate_dst (N := 67) rfl ?_); refine Own.litNil k71 71 ?hg (N := 67) ?hd ?hr HQ2.out ?_; (case hd => rfl); (case hg => rfl); (case hr => first | (go_simp; done) | (go_simp; rfl)); intro A6 c6 w6 h6; have H6 := Aside0.mk h6; clear h6; obtain ⟨_, hc6, hC6⟩ := ref_reads H6.out.r1; have HC6 := Aside0.mk hC6; clear hC6)
              | ((with_reducible refine gate_dst (N := 71) rfl ?_); go_loud (refine Own.appendRows k71 rfl (.tmp 67) (.tmp 70) 45 71 (.agg #[.int .i64 0, .int .i64 0, .int .i64 0]) 24 rfl Try.underlying45 infoR rfl (by decide) (by omega) (.slice A6 0 c6) [] (out.take at_) (some a3) at_ c3 rfl rfl (C_takeN HC6.out hat) (fun x cs h => by rw [k71_open h]; exact k71_mkM _ _ _ x) H6.out (by simp; omega) ?_); intro A7 c7 w7 h7; have H7 := Aside0.mk h7; clear h7; rw [List.nil_append, LT.out] at H7; rw [List.nil_append, LT.out]; have x0 := (blk_cell H7.out.at2 0).trans rfl; have x1 := (blk_cell H7.out.at2 1).trans rfl; have x2 := (blk_cell H7.out.at2 2).trans rfl)
              | ((with_reducible refine gate_builtin (b := .append) (xs := #[.tmp 72, .tmp 74]) rfl ?_); at_builtin; refine Own.append k71 rfl (.tmp 72) (.tmp 74) 45 71 (.agg #[.int .i64 0, .int .i64 0, .int .i64 0]) 24 rfl Try.underlying45 infoR rfl (by decide) (by omega) (.slice A7 at_ c7) (out.take at_) ⟨f0, f1, f2⟩ [.int .i64 f0, .int .i64 f1, .int .i64 f2] rfl rfl (fun _ => k71_mkM _ _ _ _) (by rw [← LT.out]; rw [← LT.out] at H7; exact H7.out) (by rw [LT.out]; omega) ?_; intro A8 c8 w8 h8; have H8 := Aside0.mk h8; clear h8; rw [LT.out] at H8; rw [LT.out]; obtain ⟨_, hc8, hC8⟩ := ref_reads H8.out.r1; have HC8 := Aside0.mk hC8; clear hC8)
              | ((with_reducible refine gate_dst (N := 80) rfl ?_); go_loud (refine Own.appendRows k71 rfl (.tmp 76) (.tmp 79) 45 71 (.agg #[.int .i64 0, .int .i64 0, .int .i64 0]) 24 rfl Try.underlying45 infoR rfl (by decide) (by omega) (.slice A8 (at_ + 1) c8) (out.take at_ ++ [⟨f0, f1, f2⟩]) (out.drop at_) _ (out.length - at_) (c3 - at_) rfl rfl (C_dropN HC8.out hat hc8) (fun x cs h => by rw [k71_open h]; exact k71_mkM _ _ _ x) (by have h9 := H8.out; exact h9) (by rw [List.length_append, LT.out]; simp; omega) ?_); intro A9 c9 w9 h9; have H9 := Aside0.mk h9; clear h9))
            have HI2 := Aside0.mk (all_put HL.out HI.out HGX.out (show ¬ f1 < lo f0.toNat by have := HS.out; omega) hat HG.out HLE.out)
            have HN9 := Aside0.mk (show ∀ A : Option Addr, A = A9 → A = none → (out.take at_ ++ [(⟨f0, f1, f2⟩ : S71)] ++ out.drop at_) = [] ∧ c9 = 0 from fun A e1 e2 => by
              subst e2
              obtain ⟨ad9, e3, _⟩ := (ref_reads H9.out).2.2.2.2 (by simp only [List.length_append, List.length_singleton]; omega)
              rw [← e1] at e3
              cases e3)
            have HL9 := Lib.hid (show (out.take at_ ++ [(⟨f0, f1, f2⟩ : S71)] ++ out.drop at_).length = at_ + (out.length - at_ + 1) by simp only [List.length_append, List.length_take, List.length_drop, List.length_singleton]; omega)
            go_roundw
            case rel => exact ⟨i + 1, _, A9, c9, by omega, by first | rfl | go_num, by rw [HL9.out], HN9.out A9 rfl, HI2, ⟨H9.out.drop1.drop1⟩⟩
            case measure => first | (simp [RowKit.intOf]; done) | (simp [RowKit.intOf]; omega)
          · obtain ⟨k, hk1⟩ : ∃ k, at_ = k + 1 := ⟨at_ - 1, by omega⟩
            have hk : k < out.length := by omega
            have hgp := List.getElem?_eq_getElem hk
            obtain ⟨p, hp⟩ : ∃ p, out[k] = p := ⟨_, rfl⟩
            rw [hp] at hgp
            obtain ⟨p0, p1, p2⟩ := p
            have HGP := Aside0.mk hgp
            obtain ⟨ap, e9, w0', w1', w2'⟩ := own_ref_at HQ.out k p0 p1 p2 hgp
            cases e9
            have i0 : decide ((at_ : Int) > 0) = true := decide_eq_true (by omega)
            have i1 : decide (0 < (at_ : Int)) = true := decide_eq_true (by omega)
            have i1n : decide (0 < at_) = true := decide_eq_true (by omega)
            have hpos : 0 < at_ := by omega
            have i3 : (at_ : Int) - 1 = (k : Int) := by omega
            have i4 : wrap64 (k : Int) = (k : Int) := by unfold wrap64; omega
            have i5 : (k : Int) < (out.length : Int) := by omega
            have HK1 := Aside0.mk hk1
            clear hgp hp w2' hk1 hz
            by_cases g0 : p0 > f0
            · have g0a : decide (p0 > f0) = true := decide_eq_true g0
              have g0b : decide (f0 < p0) = true := decide_eq_true g0
              have HNX : ltR ⟨f0, f1, f2⟩ ⟨p0, p1, p2⟩ := .inl g0
              have HG2 : Aside0 (∀ j p, k ≤ j → out[j]? = some p → ltR ⟨f0, f1, f2⟩ p) := ⟨fun j p hj hp => by
                by_cases e : j = k
                · subst e
                  obtain rfl := Option.some.inj (HGP.out.symm.trans hp)
                  exact HNX
                · exact HG.out j p (by have := HK1.out; omega) hp⟩
              have HKM := Lib.hid (show k < at_ by have := HK1.out; omega)
              clear HNX
              go_wp2
              go_quiet (fail)
              go_wp2
              go_roundw
              case rel => exact ⟨k, by omega, by first | rfl | go_num, HG2, ⟨HQ.out.drewN _⟩⟩
              case measure => have := HKM.out; first | (simp [RowKit.intOf]; done) | (simp [RowKit.intOf]; omega)
            · have g0a : decide (p0 > f0) = false := decide_eq_false g0
              have g0b : decide (f0 < p0) = false := decide_eq_false g0
              by_cases g1 : p0 = f0
              · have g1a : (p0 == f0) = true := beq_iff_eq.2 g1
                by_cases g2 : p1 > f1
                · have g2a : decide (p1 > f1) = true := decide_eq_true g2
                  have g2b : decide (f1 < p1) = true := decide_eq_true g2
                  have HNX : ltR ⟨f0, f1, f2⟩ ⟨p0, p1, p2⟩ := .inr ⟨g1.symm, g2⟩
                  have HG2 : Aside0 (∀ j p, k ≤ j → out[j]? = some p → ltR ⟨f0, f1, f2⟩ p) := ⟨fun j p hj hp => by
                    by_cases e : j = k
                    · subst e
                      obtain rfl := Option.some.inj (HGP.out.symm.trans hp)
                      exact HNX
                    · exact HG.out j p (by have := HK1.out; omega) hp⟩
                  have HKM := Lib.hid (show k < at_ by have := HK1.out; omega)
                  clear HNX
                  go_wp2
                  go_quiet (fail)
                  go_wp2
                  go_roundw
                  case rel => exact ⟨k, by omega, by first | rfl | go_num, HG2, ⟨HQ.out.drewN _⟩⟩
                  case measure => have := HKM.out; first | (simp [RowKit.intOf]; done) | (simp [RowKit.intOf]; omega)
                · have g2a : decide (p1 > f1) = false := decide_eq_false g2
                  have g2b : decide (f1 < p1) = false := decide_eq_false g2
                  have HNX : ¬ ltR ⟨f0, f1, f2⟩ ⟨p0, p1, p2⟩ := fun q => by unfold ltR at q; simp only at q; omega
                  have HLE : Aside0 (∀ p, 0 < at_ → out[at_ - 1]? = some p → ¬ ltR ⟨f0, f1, f2⟩ p) := ⟨fun p hp0 hp => by
                    rw [HK1.out] at hp
                    obtain rfl := Option.some.inj (HGP.out.symm.trans hp)
                    exact HNX⟩
                  clear HNX
                  have LT := Lib.hid (show (out.take at_).length = at_ by rw [List.length_take]; omega)
                  have hcap := (ref_reads HQ.out).2.1
                  have hac : at_ ≤ c3 := by omega
                  go_wp2
                  go_quiet (fail)
                  have HQ2 := Aside0.mk (HQ.out.drewN nq)
                  obtain ⟨W3, hW3⟩ : ∃ W3, W3 = wr.drewN nq := ⟨_, rfl⟩
                  rw [← hW3] at HQ2 ⊢
                  clear hW3 x0 x1 x2
                  go_wp2_with (first
                    | ((with_reducible refine gate_dst (N := 67) rfl ?_); refine Own.litNil k71 71 ?hg (N := 67) ?hd ?hr HQ2.out ?_; (case hd => rfl); (case hg => rfl); (case hr => first | (go_simp; done) | (go_simp; rfl)); intro A6 c6 w6 h6; have H6 := Aside0.mk h6; clear h6; obtain ⟨_, hc6, hC6⟩ := ref_reads H6.out.r1; have HC6 := Aside0.mk hC6; clear hC6)
                    | ((with_reducible refine gate_dst (N := 71) rfl ?_); go_loud (refine Own.appendRows k71 rfl (.tmp 67) (.tmp 70) 45 71 (.agg #[.int .i64 0, .int .i64 0, .int .i64 0]) 24 rfl Try.underlying45 infoR rfl (by decide) (by omega) (.slice A6 0 c6) [] (out.take at_) (some a3) at_ c3 rfl rfl (C_takeN HC6.out hat) (fun x cs h => by rw [k71_open h]; exact k71_mkM _ _ _ x) H6.out (by simp; omega) ?_); intro A7 c7 w7 h7; have H7 := Aside0.mk h7; clear h7; rw [List.nil_append, LT.out] at H7; rw [List.nil_append, LT.out]; have x0 := (blk_cell H7.out.at2 0).trans rfl; have x1 := (blk_cell H7.out.at2 1).trans rfl; have x2 := (blk_cell H7.out.at2 2).trans rfl)
                    | ((with_reducible refine gate_builtin (b := .append) (xs := #[.tmp 72, .tmp 74]) rfl ?_); at_builtin; refine Own.append k71 rfl (.tmp 72) (.tmp 74) 45 71 (.agg #[.int .i64 0, .int .i64 0, .int .i64 0]) 24 rfl Try.underlying45 infoR rfl (by decide) (by omega) (.slice A7 at_ c7) (out.take at_) ⟨f0, f1, f2⟩ [.int .i64 f0, .int .i64 f1, .int .i64 f2] rfl rfl (fun _ => k71_mkM _ _ _ _) (by rw [← LT.out]; rw [← LT.out] at H7; exact H7.out) (by rw [LT.out]; omega) ?_; intro A8 c8 w8 h8; have H8 := Aside0.mk h8; clear h8; rw [LT.out] at H8; rw [LT.out]; obtain ⟨_, hc8, hC8⟩ := ref_reads H8.out.r1; have HC8 := Aside0.mk hC8; clear hC8)
                    | ((with_reducible refine gate_dst (N := 80) rfl ?_); go_loud (refine Own.appendRows k71 rfl (.tmp 76) (.tmp 79) 45 71 (.agg #[.int .i64 0, .int .i64 0, .int .i64 0]) 24 rfl Try.underlying45 infoR rfl (by decide) (by omega) (.slice A8 (at_ + 1) c8) (out.take at_ ++ [⟨f0, f1, f2⟩]) (out.drop at_) _ (out.length - at_) (c3 - at_) rfl rfl (C_dropN HC8.out hat hc8) (fun x cs h => by rw [k71_open h]; exact k71_mkM _ _ _ x) (by have h9 := H8.out; exact h9) (by rw [List.length_append, LT.out]; simp; omega) ?_); intro A9 c9 w9 h9; have H9 := Aside0.mk h9; clear h9))
                  have HI2 := Aside0.mk (all_put HL.out HI.out HGX.out (show ¬ f1 < lo f0.toNat by have := HS.out; omega) hat HG.out HLE.out)
                  have HN9 := Aside0.mk (show ∀ A : Option Addr, A = A9 → A = none → (out.take at_ ++ [(⟨f0, f1, f2⟩ : S71)] ++ out.drop at_) = [] ∧ c9 = 0 from fun A e1 e2 => by
                    subst e2
                    obtain ⟨ad9, e3, _⟩ := (ref_reads H9.out).2.2.2.2 (by simp only [List.length_append, List.length_singleton]; omega)
                    rw [← e1] at e3
                    cases e3)
                  have HL9 := Lib.hid (show (out.take at_ ++ [(⟨f0, f1, f2⟩ : S71)] ++ out.drop at_).length = at_ + (out.length - at_ + 1) by simp only [List.length_append, List.length_take, List.length_drop, List.length_singleton]; omega)
                  go_roundw
                  case rel => exact ⟨i + 1, _, A9, c9, by omega, by first | rfl | go_num, by rw [HL9.out], HN9.out A9 rfl, HI2, ⟨H9.out.drop1.drop1⟩⟩
                  case measure => first | (simp [RowKit.intOf]; done) | (simp [RowKit.intOf]; omega)
              · have g1a : (p0 == f0) = false := beq_eq_false_iff_ne.2 g1
                have HNX : ¬ ltR ⟨f0, f1, f2⟩ ⟨p0, p1, p2⟩ := fun q => by unfold ltR at q; simp only at q; omega
                have HLE : Aside0 (∀ p, 0 < at_ → out[at_ - 1]? = some p → ¬ ltR ⟨f0, f1, f2⟩ p) := ⟨fun p hp0 hp => by
                  rw [HK1.out] at hp
                  obtain rfl := Option.some.inj (HGP.out.symm.trans hp)
                  exact HNX⟩
                clear HNX
                have LT := Lib.hid (show (out.take at_).length = at_ by rw [List.length_take]; omega)
                have hcap := (ref_reads HQ.out).2.1
                have hac : at_ ≤ c3 := by omega
                go_wp2
                go_quiet (fail)
                have HQ2 := Aside0.mk (HQ.out.drewN nq)
                obtain ⟨W3, hW3⟩ : ∃ W3, W3 = wr.drewN nq := ⟨_, rfl⟩
                rw [← hW3] at HQ2 ⊢
                clear hW3 x0 x1 x2
                go_wp2_with (first
                  | ((with_reducible refine gate_dst (N := 67) rfl ?_); refine Own.litNil k71 71 ?hg (N := 67) ?hd ?hr HQ2.out ?_; (case hd => rfl); (case hg => rfl); (case hr => first | (go_simp; done) | (go_simp; rfl)); intro A6 c6 w6 h6; have H6 := Aside0.mk h6; clear h6; obtain ⟨_, hc6, hC6⟩ := ref_reads H6.out.r1; have HC6 := Aside0.mk hC6; clear hC6)
                  | ((with_reducible refine gate_dst (N := 71) rfl ?_); go_loud (refine Own.appendRows k71 rfl (.tmp 67) (.tmp 70) 45 71 (.agg #[.int .i64 0, .int .i64 0, .int .i64 0]) 24 rfl Try.underlying45 infoR rfl (by decide) (by omega) (.slice A6 0 c6) [] (out.take at_) (some a3) at_ c3 rfl rfl (C_takeN HC6.out hat) (fun x cs h => by rw [k71_open h]; exact k71_mkM _ _ _ x) H6.out (by simp; omega) ?_); intro A7 c7 w7 h7; have H7 := Aside0.mk h7; clear h7; rw [List.nil_append, LT.out] at H7; rw [List.nil_append, LT.out]; have x0 := (blk_cell H7.out.at2 0).trans rfl; have x1 := (blk_cell H7.out.at2 1).trans rfl; have x2 := (blk_cell H7.out.at2 2).trans rfl)
                  | ((with_reducible refine gate_builtin (b := .append) (xs := #[.tmp 72, .tmp 74]) rfl ?_); at_builtin; refine Own.append k71 rfl (.tmp 72) (.tmp 74) 45 71 (.agg #[.int .i64 0, .int .i64 0, .int .i64 0]) 24 rfl Try.underlying45 infoR rfl (by decide) (by omega) (.slice A7 at_ c7) (out.take at_) ⟨f0, f1, f2⟩ [.int .i64 f0, .int .i64 f1, .int .i64 f2] rfl rfl (fun _ => k71_mkM _ _ _ _) (by rw [← LT.out]; rw [← LT.out] at H7; exact H7.out) (by rw [LT.out]; omega) ?_; intro A8 c8 w8 h8; have H8 := Aside0.mk h8; clear h8; rw [LT.out] at H8; rw [LT.out]; obtain ⟨_, hc8, hC8⟩ := ref_reads H8.out.r1; have HC8 := Aside0.mk hC8; clear hC8)
                  | ((with_reducible refine gate_dst (N := 80) rfl ?_); go_loud (refine Own.appendRows k71 rfl (.tmp 76) (.tmp 79) 45 71 (.agg #[.int .i64 0, .int .i64 0, .int .i64 0]) 24 rfl Try.underlying45 infoR rfl (by decide) (by omega) (.slice A8 (at_ + 1) c8) (out.take at_ ++ [⟨f0, f1, f2⟩]) (out.drop at_) _ (out.length - at_) (c3 - at_) rfl rfl (C_dropN HC8.out hat hc8) (fun x cs h => by rw [k71_open h]; exact k71_mkM _ _ _ x) (by have h9 := H8.out; exact h9) (by rw [List.length_append, LT.out]; simp; omega) ?_); intro A9 c9 w9 h9; have H9 := Aside0.mk h9; clear h9))
                have HI2 := Aside0.mk (all_put HL.out HI.out HGX.out (show ¬ f1 < lo f0.toNat by have := HS.out; omega) hat HG.out HLE.out)
                have HN9 := Aside0.mk (show ∀ A : Option Addr, A = A9 → A = none → (out.take at_ ++ [(⟨f0, f1, f2⟩ : S71)] ++ out.drop at_) = [] ∧ c9 = 0 from fun A e1 e2 => by
                  subst e2
                  obtain ⟨ad9, e3, _⟩ := (ref_reads H9.out).2.2.2.2 (by simp only [List.length_append, List.length_singleton]; omega)
                  rw [← e1] at e3
                  cases e3)
                have HL9 := Lib.hid (show (out.take at_ ++ [(⟨f0, f1, f2⟩ : S71)] ++ out.drop at_).length = at_ + (out.length - at_ + 1) by simp only [List.length_append, List.length_take, List.length_drop, List.length_singleton]; omega)
                go_roundw
                case rel => exact ⟨i + 1, _, A9, c9, by omega, by first | rfl | go_num, by rw [HL9.out], HN9.out A9 rfl, HI2, ⟨H9.out.drop1.drop1⟩⟩
                case measure => first | (simp [RowKit.intOf]; done) | (simp [RowKit.intOf]; omega)
    · obtain rfl : i = L.length := by omega
      have HZ := Aside0.mk (show AllI lo L out by have := HI.out; rwa [List.take_length] at this)
      go_wp2
      go_ret
      exact ⟨A3, c3, out, rfl, HZ.out, HO.out.r1.tail⟩
end
end Go.Proofs.Ytboomdjkgheonaa.PSeenPlays
