/- Items that were seen: the table beside the document's. -/
import Derived.Test.YtboomdjkgheonaaRef4
import Derived.Test.YtboomdjkgheonaaHSeenTwin
namespace Go.Proofs.Ytboomdjkgheonaa.PSeenPlays
open Go.RowKit Go.Proofs.YtboomdjkgheonaaW.PrintWords Go.Proofs.YtboomdjkgheonaaW.PrintLast Go.Proofs.YtboomdjkgheonaaW.PrintMore
open Go.Proofs.YtboomdjkgheonaaO
attribute [local go_sem] max2_int min2_int max_two min_two max_three min_three max_four min_four
set_option linter.unusedVariables false
set_option linter.unusedSimpArgs false
theorem given_l0 (l : List S71) (hm : l.length ≤ 1000000) : ∀ (d i k : Nat) (acc : List S33), i + d = l.length → d < k → acc.length = i → meterlaw11_given.l0 k l acc (i : Int) = some (acc ++ (l.drop i).map cvE) := by
  intro d
  induction d with
  | zero =>
    intro i k acc h hk _
    obtain ⟨k, rfl⟩ : ∃ z, k = z + 1 := ⟨k - 1, by omega⟩
    simp only [meterlaw11_given.l0]
    rw [if_neg (by omega), List.drop_of_length_le (by omega)]
    simp
  | succ d ih =>
    intro i k acc h hk ha
    obtain ⟨k, rfl⟩ : ∃ z, k = z + 1 := ⟨k - 1, by omega⟩
    have hi : i < l.length := by omega
    have e1 : rd_T71 l (i : Int) = l[i] := by
      unfold rd_T71
      rw [Int.toNat_natCast, List.getD_eq_getElem?_getD, List.getElem?_eq_getElem hi]
      rfl
    have hn := ih (i + 1) k (acc ++ [cvE l[i]]) (by omega) (by omega) (by simp [ha])
    simp only [meterlaw11_given.l0]
    rw [if_pos (by omega), if_pos (by omega), if_pos (by omega), e1, show wrap64 ((i : Int) + 1) = ((i + 1 : Nat) : Int) by unfold wrap64; omega]
    rw [show (⟨l[i].f0, l[i].f1, l[i].f2⟩ : S33) = cvE l[i] from rfl, hn, List.drop_eq_getElem_cons hi, List.map_cons, List.append_assoc]
    rfl
theorem given_f (l : List S71) (hm : l.length ≤ 1000000) : meterlaw11_given.f (l.length + 1) l = some (l.map cvE) := by
  have := given_l0 l hm l.length 0 (l.length + 1) [] (by omega) (by omega) rfl
  simpa [meterlaw11_given.f] using this
/-- The table holds what the document's list holds, as far as that is not old. -/
structure RefOk (lo : Nat → Int) (co : Nat → Int → Option Int) (L : List S71) : Prop where
  list : RList L
  is : ∀ j : Nat, j < 4 → ∀ k n, co j k = some n ↔ lo j ≤ k ∧ (⟨(j : Int), k, n⟩ : S71) ∈ L
theorem refok_new : RefOk (fun _ => 1) (fun _ _ => none) [] := ⟨⟨fun x hx => by simp at hx, List.Pairwise.nil⟩, fun j _ k n => by simp⟩
theorem mem_key {L : List S71} (h : RList L) {x y : S71} (hx : x ∈ L) (hy : y ∈ L) (h0 : x.f0 = y.f0) (h1 : x.f1 = y.f1) : x = y := by
  obtain ⟨i, hi⟩ := List.getElem?_of_mem hx
  obtain ⟨j, hj⟩ := List.getElem?_of_mem hy
  obtain ⟨hi2, rfl⟩ := List.getElem?_eq_some_iff.1 hi
  obtain ⟨hj2, rfl⟩ := List.getElem?_eq_some_iff.1 hj
  rcases Nat.lt_trichotomy i j with q | q | q
  · exact absurd ⟨h0, h1⟩ (List.pairwise_iff_getElem.1 h.2 i j hi2 hj2 q)
  · subst q; rfl
  · exact absurd ⟨h0.symm, h1.symm⟩ (List.pairwise_iff_getElem.1 h.2 j i hj2 hi2 q)
theorem rkey_iff {src seq : Int} {x : S71} : rkey src seq x = true ↔ x.f0 = src ∧ x.f1 = seq := by unfold rkey; simp
theorem ref_ask {lo : Nat → Int} {co : Nat → Int → Option Int} {L : List S71} (h : RefOk lo co L) (src seq low : Int) : raskR lo L src seq low = askR lo co src seq low := by
  unfold raskR askR
  by_cases hb : src < 0 ∨ 4 ≤ src ∨ low < 1 ∨ seq < low ∨ 1099511627776 < seq ∨ 16 ≤ seq - low
  · rw [if_pos hb, if_pos hb]
  · rw [if_neg hb, if_neg hb]
    by_cases h1 : seq < lo src.toNat
    · rw [if_pos h1, if_pos h1]
    · rw [if_neg h1, if_neg h1]
      have hj : ((src.toNat : Nat) : Int) = src := by omega
      have hco := h.is src.toNat (by omega) seq
      cases hf : L.find? (rkey src seq) with
      | some x =>
        have h2 := List.find?_some hf
        have h3 := List.mem_of_find?_eq_some hf
        obtain ⟨e0, e1⟩ := rkey_iff.1 h2
        have : co src.toNat seq = some x.f2 := (hco x.f2).2 ⟨by omega, by rw [hj]; obtain ⟨a, b, c⟩ := x; simp only at e0 e1; subst e0 e1; exact h3⟩
        rw [this]
      | none =>
        cases hc : co src.toNat seq with
        | none => rfl
        | some n =>
          have h2 := ((hco n).1 hc).2
          have h3 := List.find?_eq_none.1 hf _ h2
          exact absurd (rkey_iff.2 ⟨hj, rfl⟩) h3
theorem ref_note {lo : Nat → Int} {co : Nat → Int → Option Int} {L : List S71} (h : RefOk lo co L) (src seq low n : Int) : rnoteE lo L src seq low n = noteE lo co src seq low n := by unfold rnoteE noteE; rw [ref_ask h]
theorem ref_step {lo : Nat → Int} {co : Nat → Int → Option Int} {L : List S71} (h : RefOk lo co L) {src seq low n : Int} (h0 : noteE lo co src seq low n = 0) : RefOk (upLo lo src.toNat low) (upCo lo co src.toNat seq low n) (L ++ [⟨src, seq, n⟩]) := by
  obtain ⟨hb, hc, h3⟩ := note_zero h0
  have hj : ((src.toNat : Nat) : Int) = src := by omega
  have hno : ∀ x ∈ L, ¬ (x.f0 = src ∧ x.f1 = seq) := fun x hx q => by
    rw [← ref_ask h] at h3
    unfold raskR at h3
    rw [if_neg (by omega)] at h3
    by_cases h1 : seq < lo src.toNat
    · rw [if_pos h1] at h3; simp at h3
    · rw [if_neg h1] at h3
      cases hf : L.find? (rkey src seq) with
      | some y => rw [hf] at h3; simp at h3
      | none => exact absurd (rkey_iff.2 q) (List.find?_eq_none.1 hf x hx)
  refine ⟨⟨fun x hx => ?_, ?_⟩, fun j hj4 k m => ?_⟩
  · rcases List.mem_append.1 hx with hx | hx
    · exact h.list.1 x hx
    · rw [List.mem_singleton] at hx; subst hx; exact ⟨hb.1, hb.2.1⟩
  · rw [List.pairwise_append]
    refine ⟨h.list.2, List.pairwise_singleton _ _, fun a ha b hb => ?_⟩
    rw [List.mem_singleton] at hb; subst hb
    exact hno a ha
  · rw [List.mem_append, List.mem_singleton]
    unfold upCo upLo
    by_cases e : j = src.toNat
    · subst e
      rw [if_pos rfl, if_pos rfl, hj]
      by_cases e2 : k < max (lo src.toNat) low
      · rw [if_pos e2]
        exact ⟨fun q => by simp at q, fun q => by omega⟩
      · rw [if_neg e2]
        unfold updI
        by_cases e3 : k = seq
        · subst e3
          rw [if_pos rfl]
          constructor
          · intro q
            obtain rfl := Option.some.inj q
            exact ⟨by omega, .inr rfl⟩
          · rintro ⟨_, q | q⟩
            · exact absurd ⟨rfl, rfl⟩ (hno _ q)
            · injection q with _ _ q; rw [q]
        · rw [if_neg e3, h.is src.toNat hj4 k m, hj]
          constructor
          · rintro ⟨a, b⟩; exact ⟨by omega, .inl b⟩
          · rintro ⟨a, b | b⟩
            · exact ⟨by omega, b⟩
            · injection b with _ b _; exact absurd b e3
    · rw [if_neg e, if_neg e, h.is j hj4 k m]
      constructor
      · rintro ⟨a, b⟩; exact ⟨a, .inl b⟩
      · rintro ⟨a, b | b⟩
        · exact ⟨a, b⟩
        · injection b with b _ _; exact absurd (by omega) e
theorem ref_of {lows : List Int} {l : List S71} (h : OfOk lows (l.map cvE)) : RefOk (lowsF lows) (ofCo (l.map cvE)) l := by
  have hat : ∀ i x, l[i]? = some x → okE (lowsF lows) (cvE x) := fun i x hx => ((h.2.2 i) _ (map_at hx)).1
  have hlt : ∀ i x y, l[i]? = some x → l[i + 1]? = some y → ltR x y := fun i x y hx hy => by
    have := ((h.2.2 (i + 1)) _ (map_at hy)).2 _ (by omega) (map_at hx)
    exact this
  have hpw : ∀ d i x y, l[i]? = some x → l[i + d + 1]? = some y → ltR x y := fun d => by
    induction d with
    | zero => exact fun i x y hx hy => hlt i x y hx hy
    | succ d ih =>
      intro i x y hx hy
      have hd : i + d + 1 < l.length := by have := (List.getElem?_eq_some_iff.1 hy).1; omega
      exact ltR_trans (ih i x _ hx (List.getElem?_eq_getElem hd)) (hlt (i + d + 1) _ _ (List.getElem?_eq_getElem hd) hy)
  have hr : RList l := by
    refine ⟨fun x hx => ?_, List.pairwise_iff_getElem.2 fun i j hi hj hij q => ?_⟩
    · obtain ⟨i, hi⟩ := List.getElem?_of_mem hx
      have := hat i x hi
      exact ⟨this.1, this.2.1⟩
    · have := hpw (j - i - 1) i _ _ (List.getElem?_eq_getElem hi) (by rw [show i + (j - i - 1) + 1 = j by omega]; exact List.getElem?_eq_getElem hj)
      unfold ltR at this
      omega
  refine ⟨hr, fun j hj k n => ?_⟩
  have hkey : ∀ x ∈ l, (cvE x).f0.toNat = j → (cvE x).f1 = k → x.f0 = (j : Int) ∧ x.f1 = k := fun x hx h0 h1 => by
    have := (hr.1 x hx).1
    have e0 : x.f0.toNat = j := h0
    exact ⟨by omega, h1⟩
  constructor
  · intro hc
    by_cases hex : ∃ x ∈ l, x.f0 = (j : Int) ∧ x.f1 = k
    · obtain ⟨x, hx, h0, h1⟩ := hex
      have h2 := (ofCo_is (l.map cvE) j k).1 x.f2 ⟨cvE x, List.mem_map.2 ⟨x, hx, rfl⟩, by show x.f0.toNat = j; omega, h1⟩ fun y hy a b => by
        obtain ⟨z, hz, rfl⟩ := List.mem_map.1 hy
        obtain ⟨c0, c1⟩ := hkey z hz a b
        have := mem_key hr hz hx (by omega) (by omega)
        subst this; rfl
      rw [hc] at h2
      obtain rfl := Option.some.inj h2
      obtain ⟨i, hi⟩ := List.getElem?_of_mem hx
      have h3 := (hat i x hi).2.2.2.1
      have h4 : lowsF lows x.f0.toNat ≤ x.f1 := h3
      rw [show x.f0.toNat = j by omega] at h4
      refine ⟨by omega, ?_⟩
      obtain ⟨a, b, c⟩ := x
      simp only at h0 h1
      subst h0 h1
      exact hx
    · have h2 := (ofCo_is (l.map cvE) j k).2 fun y hy q => by
        obtain ⟨z, hz, rfl⟩ := List.mem_map.1 hy
        exact hex ⟨z, hz, hkey z hz q.1 q.2⟩
      rw [hc] at h2
      simp at h2
  · rintro ⟨_, hx⟩
    refine (ofCo_is (l.map cvE) j k).1 n ⟨cvE ⟨j, k, n⟩, List.mem_map.2 ⟨_, hx, rfl⟩, Int.toNat_natCast j, rfl⟩ fun y hy a b => ?_
    obtain ⟨z, hz, rfl⟩ := List.mem_map.1 hy
    obtain ⟨c0, c1⟩ := hkey z hz a b
    have := mem_key hr hz hx c0 c1
    subst this; rfl
theorem ltE_uniq : ∀ {M N : List S33}, M.Pairwise ltE → N.Pairwise ltE → (∀ x, x ∈ M ↔ x ∈ N) → M = N
  | [], [], _, _, _ => rfl
  | [], y :: N, _, _, h => absurd ((h y).2 (List.mem_cons_self ..)) (by simp)
  | x :: M, [], _, _, h => absurd ((h x).1 (List.mem_cons_self ..)) (by simp)
  | x :: M, y :: N, h1, h2, h => by
    rw [List.pairwise_cons] at h1 h2
    have irr : ∀ a : S33, ¬ ltE a a := fun a q => by unfold ltE at q; omega
    have asy : ∀ a b : S33, ltE a b → ¬ ltE b a := fun a b p q => by unfold ltE at p q; omega
    have hxy : x = y := by
      rcases List.mem_cons.1 ((h x).1 (List.mem_cons_self ..)) with e | a1
      · exact e
      rcases List.mem_cons.1 ((h y).2 (List.mem_cons_self ..)) with e | a2
      · exact e.symm
      exact absurd (h1.1 y a2) (asy _ _ (h2.1 x a1))
    subst hxy
    congr 1
    refine ltE_uniq h1.2 h2.2 fun z => ⟨fun hz => ?_, fun hz => ?_⟩
    · rcases List.mem_cons.1 ((h z).1 (List.mem_cons_of_mem _ hz)) with e | q
      · subst e; exact absurd (h1.1 z hz) (irr z)
      · exact q
    · rcases List.mem_cons.1 ((h z).2 (List.mem_cons_of_mem _ hz)) with e | q
      · subst e; exact absurd (h2.1 z hz) (irr z)
      · exact q
theorem four_atR (lo : Nat → Int) (n : Nat) (hn : n < 4) : [lo 0, lo 1, lo 2, lo 3][n]? = some (lo n) := by
  rcases (show n = 0 ∨ n = 1 ∨ n = 2 ∨ n = 3 by omega) with rfl | rfl | rfl | rfl <;> rfl
theorem all_same {lo : Nat → Int} {co : Nat → Int → Option Int} {L out : List S71} {Ms : Nat → List Int} (h : RefOk lo co L) (hM : ∀ j, j < 4 → KeysIs (co j) (Ms j)) (ho : AllI lo L out) : allP co Ms 4 = out.map cvE := by
  refine ltE_uniq (allP_asc hM 4 (Nat.le_refl _)) (List.pairwise_map.2 (ho.1.imp fun h => h)) fun y => ?_
  constructor
  · intro hy
    obtain ⟨j, hj, h0, h1⟩ := allP_co hM y hy
    obtain ⟨h2, h3⟩ := (h.is j hj _ _).1 h1
    refine List.mem_map.2 ⟨⟨j, y.f1, y.f2⟩, (ho.2 _).2 ⟨h3, ?_⟩, by obtain ⟨a, b, c⟩ := y; simp only at h0; subst h0; rfl⟩
    show ¬ y.f1 < lo ((j : Int)).toNat
    rw [Int.toNat_natCast]; omega
  · intro hy
    obtain ⟨x, hx, rfl⟩ := List.mem_map.1 hy
    obtain ⟨h1, h2⟩ := (ho.2 x).1 hx
    have hr := h.list.1 x h1
    have hj : ((x.f0.toNat : Nat) : Int) = x.f0 := by omega
    have hc : co x.f0.toNat x.f1 = some x.f2 := (h.is x.f0.toNat (by omega) _ _).2 ⟨by omega, by rw [hj]; exact h1⟩
    refine (allP_mem 4 _).2 ⟨x.f0.toNat, by omega, by rw [hj]; rfl, ?_, ?_⟩
    · exact ((hM x.f0.toNat (by omega)).2 x.f1).2 (by rw [hc]; rfl)
    · show x.f2 = _
      rw [show (cvE x).f1 = x.f1 from rfl, hc]; rfl
section
variable {w0 w w' : World} {R : List Asn} {g N c : Nat} {A : Option Addr} {lo : Nat → Int} {co : Nat → Int → Option Int} {L : List S71}
set_option maxHeartbeats 8000000 in
set_option maxRecDepth 100000 in
theorem alike_calls (h : Own w0 w (SeenA g N lo co :: Row k71 71 (.slice A L.length c) L :: R)) (hN : N ≤ 1000000) (hl : L.length ≤ 1000000) (hok : RefOk lo co L) :
    Calls Try.prog 18 #[.pointer (some ⟨g, 0, none⟩), .agg #[.int .i64 (lo 0), .int .i64 (lo 1), .int .i64 (lo 2), .int .i64 (lo 3), .slice A L.length c]] w fun e w' => e = .returned (.bool true) ∧ Own w0 w' (SeenA g N lo co :: Row k71 71 (.slice A L.length c) L :: R) := by
  obtain ⟨Ms, hM, hms⟩ := seen_keys h
  have H := Aside0.mk h
  have HM := Aside0.mk hM
  have HOK := Aside0.mk hok
  have HN := Aside0.mk (show N ≤ 1000000000 by omega)
  have HLE := Aside0.mk hl
  have HMS := Aside0.mk hms
  clear h hM hok hms
  go_enter Try.func18, Try.ntmps18
  go_wp2_with (first
    | ((with_reducible refine gate_dst (N := 3) rfl ?_); refine box_event ?hg (N := 3) ?hd (cs := #[.int .i64 (lo 0), .int .i64 (lo 1), .int .i64 (lo 2), .int .i64 (lo 3), .slice A L.length c]) (t := 49) ?hr ?_; (case hd => rfl); (case hg => rfl); (case hr => first | (go_simp; done) | (go_simp; rfl)); intro gs hg W1 hbox hbb; have H1 := Aside0.mk (H.out.box hg hbox hbb); clear hg hbb hbox)
    | (go_at_call 11; ((with_reducible refine (SeenLows H1.out.r1).mono ?_)); rintro e w2 ⟨A2, c2, rfl, h⟩; have H2 := Aside0.mk h; clear h)
    | (go_at_call 14; ((with_reducible refine (SeenAll H2.out.r1 HN.out Ms HM.out).mono ?_)); rintro e w3 ⟨A3, c3, rfl, h⟩; have H3 := Aside0.mk h; clear h; have y0 := (blk_cell (H3.out.get 3 rfl).1 0).trans rfl; have y1 := (blk_cell (H3.out.get 3 rfl).1 1).trans rfl; have y2 := (blk_cell (H3.out.get 3 rfl).1 2).trans rfl; have y3 := (blk_cell (H3.out.get 3 rfl).1 3).trans rfl; have y4 := (blk_cell (H3.out.get 3 rfl).1 4).trans rfl)
    | (go_at_call 31; ((with_reducible refine (RefAll H3.out.r4 HOK.out.list HLE.out).mono ?_)); rintro e w4 ⟨A4, c4, out, rfl, hai, h⟩; have hsm := all_same HOK.out HM.out hai; have hlen : (allP co Ms 4).length = out.length := (by rw [hsm, List.length_map]); rw [hlen, hsm] at h; rw [hlen]; have H4 := Aside0.mk h; have HB := Aside0.mk (show out.length ≤ 4000000 from (by have := HMS.out; rw [hlen] at this; omega)); clear h hsm hai hlen y0 y1 y2 y3 y4))
  clear hl
  have hlb := HB.out
  go_loopw [8] (fun v8 wr => ∃ i : Nat, i ≤ 4 ∧ v8 = .int .i64 i ∧ Aside0 (Own w0 wr (Row k71 71 (.slice A4 out.length c4) out :: Row k71 71 (.slice A L.length c) L :: Row k33 33 (.slice A3 out.length c3) (out.map cvE) :: SeenA g N lo co :: Row (Kd.int .i64) 3 (.slice A2 4 c2) [lo 0, lo 1, lo 2, lo 3] :: Blk gs (.cells #[.int .i64 (lo 0), .int .i64 (lo 1), .int .i64 (lo 2), .int .i64 (lo 3), .slice A L.length c] 49 (0, 0)) :: R))) (fun v8 _ => 4 - (RowKit.intOf v8).toNat)
  case atStart => exact ⟨0, by decide, rfl, H4⟩
  case round =>
    obtain ⟨i, hi, rfl, HO⟩ := hrel
    by_cases hlt : i < 4
    · obtain ⟨ad, e2, y⟩ := own_int_at HO.out.r4 i _ (four_atR lo i hlt)
      subst e2
      have z := four_cell (HO.out.get 5 rfl).1 i hlt
      have i1 : (i : Int) < 4 := by omega
      go_wp2
      go_quiet (fail)
      go_wp2
      go_roundw
      case rel => exact ⟨i + 1, by omega, by first | rfl | go_num, ⟨HO.out.drewN _⟩⟩
      case measure => first | (simp [RowKit.intOf]; done) | (simp [RowKit.intOf]; omega)
    · obtain rfl : i = 4 := by omega
      clear hlt hi
      go_wp2
      rename World => wo
      go_loopw [9] (fun v9 wr => ∃ i : Nat, i ≤ out.length ∧ v9 = .int .i64 i ∧ Aside0 (Own w0 wr (Row k71 71 (.slice A4 out.length c4) out :: Row k71 71 (.slice A L.length c) L :: Row k33 33 (.slice A3 out.length c3) (out.map cvE) :: SeenA g N lo co :: Row (Kd.int .i64) 3 (.slice A2 4 c2) [lo 0, lo 1, lo 2, lo 3] :: Blk gs (.cells #[.int .i64 (lo 0), .int .i64 (lo 1), .int .i64 (lo 2), .int .i64 (lo 3), .slice A L.length c] 49 (0, 0)) :: R))) (fun v9 _ => out.length - (RowKit.intOf v9).toNat)
      case atStart => exact ⟨0, Nat.zero_le _, rfl, HO⟩
      case round =>
        obtain ⟨i, hi, rfl, HQ⟩ := hrel
        by_cases hlt : i < out.length
        · have hgx := List.getElem?_eq_getElem hlt
          obtain ⟨x, hx⟩ : ∃ x, out[i] = x := ⟨_, rfl⟩
          rw [hx] at hgx
          obtain ⟨f0, f1, f2⟩ := x
          obtain ⟨ad, e2, y0, y1, y2⟩ := own_ref_at HQ.out i f0 f1 f2 hgx
          subst e2
          obtain ⟨ae, e3, z0, z1, z2⟩ := own_entry_at HQ.out.r2 i f0 f1 f2 (map_at hgx)
          subst e3
          have i1 : (i : Int) < (out.length : Int) := by omega
          clear hgx hx
          go_wp2
          go_quiet (fail)
          go_wp2
          go_roundw
          case rel => exact ⟨i + 1, by omega, by first | rfl | go_num, ⟨HQ.out.drewN _⟩⟩
          case measure => first | (simp [RowKit.intOf]; done) | (simp [RowKit.intOf]; omega)
        · obtain rfl : i = out.length := by omega
          go_wp2
          go_ret
          exact ⟨rfl, HQ.out.tail.drop1.r1.r3.tail.r2.tail⟩
end
end Go.Proofs.Ytboomdjkgheonaa.PSeenPlays
