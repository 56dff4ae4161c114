/- Items that were seen: the document's Ask. -/
import Derived.Test.YtboomdjkgheonaaSeen10
namespace Go.Proofs.Ytboomdjkgheonaa.PSeenPlays
open Go.RowKit Go.Proofs.YtboomdjkgheonaaW.PrintWords Go.Proofs.YtboomdjkgheonaaW.PrintLast Go.Proofs.YtboomdjkgheonaaW.PrintMore
open Go.Proofs.YtboomdjkgheonaaO
attribute [local go_sem] max2_int min2_int max_two min_two max_three min_three max_four min_four
set_option linter.unusedVariables false
set_option linter.unusedSimpArgs false
section
variable {P : Program} {ops : Array Oper} {rest : List Oper} {o : Oper} {a : Act} {Q : Exit → Act → World → Prop} {α : Type}
/-- append(v, ys...). -/
theorem _root_.Go.Proofs.YtboomdjkgheonaaO.Own.appendRows {w0 W : World} {L : List Asn} (d : Kd α) (hgd : o.guard = none) (s x : Operand) (t e : TypeId) (z : Value) (bytes : Nat)
    (ho : o.op = .call { callee := .builtin .append, args := #[s, x], argTypes := #[t, t] })
    (ht : P.underlying t = some (.slice e)) (hinfo : (P.info? e).map (fun i => (i.zero, i.size, i.bytes)) = some (some z, d.sz, bytes)) (hz : z.cells.size = d.sz) (hs0 : 0 < d.sz) (hb0 : 0 < bytes)
    (v : Value) (xs ys : List α) (A : Option Addr) (m c : Nat) (hs : a.eval s = v) (hx : a.eval x = .slice A m c) (HR : Kd.C d W A m ys) (hKM : ∀ x cs, d.K W x cs → d.M W w0.heap.size (fun _ => False) x cs)
    (h : Own w0 W (Row d e v xs :: L)) (hl : (xs.length + m) * bytes ≤ 140737488355328)
    (hK : ∀ A c w1, Own w0 w1 (Row d e (.slice A (xs ++ ys).length c) (xs ++ ys) :: L) → wpList P ops Q rest (a.put o.dst (.slice A (xs ++ ys).length c)) w1) :
    wpList P ops Q (o :: rest) a W := by
  obtain ⟨F, h1, h2, h3⟩ := h.open1
  refine Kd.R_append_rows d (w0 := w0) w0.heap.size hgd s x t e z bytes ho ht hinfo hz hs0 hb0 v xs ys A m c (fun k => F k ∨ W.heap.size ≤ k) (fun _ => False) hs hx (Kd.R_mono h1.1 fun k hk => .inl hk) HR hKM (fun _ hk => hk.elim) (fun k hk => .inr hk) h.bel h.bel.size hl ?_
  intro v1 w1 hr hb hg hat
  obtain ⟨A, c, e1⟩ := Kd.R_slice hr
  subst e1
  refine hK A c w1 (h3 w1 _ ⟨hg.os, hg.tape, hg.output, hg.size, fun k hk hn => hg.block k hk (fun e => hn (h1.1.1 k e.symm)), _, ⟨Kd.R_bound hr, fun k hk => hk.2.2.1⟩, fun k hk => hk.1⟩)
end
theorem _root_.Go.Proofs.YtboomdjkgheonaaO.Own.box {w0 w w1 : World} {L : List Asn} {g : Nat} {cs : Array Value} {t : Nat} (h : Own w0 w L) (hg : g = w.heap.size) (hb : w1.heap[g]? = some (.cells cs t (0, 0))) (hbb : Below w.heap.size w w1) : Own w0 w1 (Blk g (.cells cs t (0, 0)) :: L) :=
  h.make hbb ⟨fun k => k = g, ⟨hb, fun _ => Iff.rfl⟩, fun k hk => by omega⟩
theorem four_cell {w : World} {g : Nat} {lo : Nat → Int} {v : Value} {t : Nat} (h : w.heap[g]? = some (.cells #[.int .i64 (lo 0), .int .i64 (lo 1), .int .i64 (lo 2), .int .i64 (lo 3), v] t (0, 0))) (n : Nat) (hn : n < 4) : w.cell? ⟨g, n, none⟩ = some (.int .i64 (lo n)) := by
  rcases (show n = 0 ∨ n = 1 ∨ n = 2 ∨ n = 3 by omega) with rfl | rfl | rfl | rfl
  · exact (blk_cell h 0).trans rfl
  · exact (blk_cell h 1).trans rfl
  · exact (blk_cell h 2).trans rfl
  · exact (blk_cell h 3).trans rfl
theorem no_next {L : List S71} {i : Nat} {p : S71 → Bool} {x : S71} (h : ∀ j x, j < i → L[j]? = some x → p x = false) (hx : L[i]? = some x) (hk : p x = false) : ∀ j x, j < i + 1 → L[j]? = some x → p x = false := fun j y hj hy => by
  by_cases e : j = i
  · subst e
    obtain rfl := Option.some.inj (hx.symm.trans hy)
    exact hk
  · exact h j y (by omega) hy
theorem infoR : (Try.prog.info? 71).map (fun i => (i.zero, i.size, i.bytes)) = some (some (.agg #[.int .i64 0, .int .i64 0, .int .i64 0]), 3, 24) := by kernel_rfl
def rkey (src seq : Int) (x : S71) : Bool := (x.f0 == src) && (x.f1 == seq)
/-- What the document's table answers. -/
def raskR (lo : Nat → Int) (L : List S71) (src seq low : Int) : Int × Int :=
  if src < 0 ∨ 4 ≤ src ∨ low < 1 ∨ seq < low ∨ 1099511627776 < seq ∨ 16 ≤ seq - low then (0, 0) else if seq < lo src.toNat then (1, 0) else match L.find? (rkey src seq) with | some x => (2, x.f2) | none => (3, 0)
theorem own_ref_at {w0 w : World} {R : List Asn} {A : Option Addr} {n c : Nat} {l : List S71} {e : TypeId} (h : Own w0 w (Row k71 e (.slice A n c) l :: R)) (k : Nat) (f0 f1 f2 : Int) (hx : l[k]? = some ⟨f0, f1, f2⟩) : ∃ ad, A = some ad ∧ w.cell? (ad.add (k * 3)) = some (.int .i64 f0) ∧ w.cell? ⟨(ad.add (k * 3)).block, (ad.add (k * 3)).off + 1, none⟩ = some (.int .i64 f1) ∧ w.cell? ⟨(ad.add (k * 3)).block, (ad.add (k * 3)).off + 2, none⟩ = some (.int .i64 f2) := by
  obtain ⟨A2, c2, e2, _, hC⟩ := h.row_reads
  cases e2
  have hk : k < l.length := (List.getElem?_eq_some_iff.1 hx).1
  obtain ⟨ad, e3, h0, h1, h2⟩ := at_T71 hC (k : Int) (by omega) (by omega)
  have hrd : rd_T71 l (k : Int) = ⟨f0, f1, f2⟩ := by unfold rd_T71; rw [Int.toNat_natCast, List.getD_eq_getElem?_getD, hx]; rfl
  rw [hrd, Int.toNat_natCast] at h0 h1 h2
  exact ⟨ad, e3, h0, h1, h2⟩
theorem ref_reads {w0 w : World} {R : List Asn} {A : Option Addr} {n c : Nat} {l : List S71} {e : TypeId} (h : Own w0 w (Row k71 e (.slice A n c) l :: R)) : n = l.length ∧ l.length ≤ c ∧ Kd.C k71 w A l.length l := by
  obtain ⟨A2, c2, e2, h1, hC⟩ := h.row_reads
  cases e2
  exact ⟨rfl, h1, hC⟩
theorem find_take (L : List S71) (i : Nat) (src seq : Int) (hno : ∀ j x, j < i → L[j]? = some x → rkey src seq x = false) : L.find? (rkey src seq) = (L.drop i).find? (rkey src seq) := by
  conv => lhs; rw [← List.take_append_drop i L]
  rw [List.find?_append]
  have : (L.take i).find? (rkey src seq) = none := by
    rw [List.find?_eq_none]
    intro x hx
    obtain ⟨j, hj⟩ := List.getElem?_of_mem hx
    rw [List.getElem?_take] at hj
    split at hj
    · rw [hno j x (by assumption) hj]; simp
    · simp at hj
  rw [this]
  rfl
section
variable {w0 w w' : World} {R : List Asn} {A : Option Addr} {n c : Nat} {L : List S71} {lo : Nat → Int}
set_option maxHeartbeats 4000000 in
set_option maxRecDepth 100000 in
theorem RefAsk_bad (h : Own w0 w (Row k71 71 (.slice A n c) L :: R)) (src seq low : Int) (hq : wfI seq) (hl : wfI low) (hb : src < 0 ∨ 4 ≤ src ∨ low < 1 ∨ seq < low ∨ 1099511627776 < seq ∨ 16 ≤ seq - low) : Calls Try.prog 19 #[.agg #[.int .i64 (lo 0), .int .i64 (lo 1), .int .i64 (lo 2), .int .i64 (lo 3), .slice A n c], .int .i64 src, .int .i64 seq, .int .i64 low] w fun e w' => e = .returned (.tuple #[.int .i64 (raskR lo L src seq low).1, .int .i64 (raskR lo L src seq low).2]) ∧ Own w0 w' (Row k71 71 (.slice A n c) L :: R) := by
  have H := Aside0.mk h
  have HQ := Aside0.mk hq
  have HLW := Aside0.mk hl
  have HA := Aside0.mk (show raskR lo L src seq low = (0, 0) from if_pos hb)
  clear h hq hl
  go_enter Try.func19, Try.ntmps19
  by_cases c0 : src < 0
  · have d0a : decide (src < 0) = true := decide_eq_true (by omega)
    clear hb c0
    go_wp2
    refine bodyPost_ret (v := .tuple #[.int .i64 0, .int .i64 0]) (results_tt (p := 8) (q := 9) rfl _ _ _ _ rfl rfl) rfl ⟨by rw [HA.out], H.out.junk _⟩
  · have d0a : decide (src < 0) = false := decide_eq_false (by omega)
    by_cases c1 : 3 < src
    · have d1a : decide (src > 3) = true := decide_eq_true (by omega)
      have d1b : decide (3 < src) = true := decide_eq_true (by omega)
      clear hb c0 c1
      go_wp2
      refine bodyPost_ret (v := .tuple #[.int .i64 0, .int .i64 0]) (results_tt (p := 8) (q := 9) rfl _ _ _ _ rfl rfl) rfl ⟨by rw [HA.out], H.out.junk _⟩
    · have d1a : decide (src > 3) = false := decide_eq_false (by omega)
      have d1b : decide (3 < src) = false := decide_eq_false (by omega)
      by_cases c2 : low < 1
      · have d2a : decide (low < 1) = true := decide_eq_true (by omega)
        clear hb c0 c1 c2
        go_wp2
        refine bodyPost_ret (v := .tuple #[.int .i64 0, .int .i64 0]) (results_tt (p := 8) (q := 9) rfl _ _ _ _ rfl rfl) rfl ⟨by rw [HA.out], H.out.junk _⟩
      · have d2a : decide (low < 1) = false := decide_eq_false (by omega)
        by_cases c3 : seq < low
        · have d3a : decide (seq < low) = true := decide_eq_true (by omega)
          clear hb c0 c1 c2 c3
          go_wp2
          refine bodyPost_ret (v := .tuple #[.int .i64 0, .int .i64 0]) (results_tt (p := 8) (q := 9) rfl _ _ _ _ rfl rfl) rfl ⟨by rw [HA.out], H.out.junk _⟩
        · have d3a : decide (seq < low) = false := decide_eq_false (by omega)
          have hw : wrap64 (seq - low) = seq - low := by unfold wrap64; have h0 := HQ.out; have h1 := HLW.out; unfold wfI at h0 h1; simp [Lit.wf, IntKind.min, IntKind.max, IntKind.signed, IntKind.bits] at h0 h1; omega
          by_cases c4 : 15 < seq - low
          · have d4a : decide (seq - low > 15) = true := decide_eq_true (by omega)
            have d4b : decide (15 < seq - low) = true := decide_eq_true (by omega)
            clear hb c0 c1 c2 c3 c4
            go_wp2
            refine bodyPost_ret (v := .tuple #[.int .i64 0, .int .i64 0]) (results_tt (p := 8) (q := 9) rfl _ _ _ _ rfl rfl) rfl ⟨by rw [HA.out], H.out.junk _⟩
          · have d4a : decide (seq - low > 15) = false := decide_eq_false (by omega)
            have d4b : decide (15 < seq - low) = false := decide_eq_false (by omega)
            by_cases c5 : 1099511627776 < seq
            · have d5a : decide (seq > 1099511627776) = true := decide_eq_true (by omega)
              have d5b : decide (1099511627776 < seq) = true := decide_eq_true (by omega)
              clear hb c0 c1 c2 c3 c4 c5
              go_wp2
              refine bodyPost_ret (v := .tuple #[.int .i64 0, .int .i64 0]) (results_tt (p := 8) (q := 9) rfl _ _ _ _ rfl rfl) rfl ⟨by rw [HA.out], H.out.junk _⟩
            · have d5a : decide (seq > 1099511627776) = false := decide_eq_false (by omega)
              have d5b : decide (1099511627776 < seq) = false := decide_eq_false (by omega)
              exact absurd hb (by omega)
set_option maxHeartbeats 4000000 in
set_option maxRecDepth 100000 in
theorem RefAsk_good (h : Own w0 w (Row k71 71 (.slice A n c) L :: R)) (src seq low : Int) (hL : L.length ≤ 1000000000) (hb : ¬ (src < 0 ∨ 4 ≤ src ∨ low < 1 ∨ seq < low ∨ 1099511627776 < seq ∨ 16 ≤ seq - low)) : Calls Try.prog 19 #[.agg #[.int .i64 (lo 0), .int .i64 (lo 1), .int .i64 (lo 2), .int .i64 (lo 3), .slice A n c], .int .i64 src, .int .i64 seq, .int .i64 low] w fun e w' => e = .returned (.tuple #[.int .i64 (raskR lo L src seq low).1, .int .i64 (raskR lo L src seq low).2]) ∧ Own w0 w' (Row k71 71 (.slice A n c) L :: R) := by
  have hn := (ref_reads h).1
  subst hn
  have H := Aside0.mk h
  have HR : Aside0 (raskR lo L src seq low = ((if seq < lo src.toNat then (1, 0) else match L.find? (rkey src seq) with | some x => (2, x.f2) | none => (3, 0)) : Int × Int)) := ⟨by unfold raskR; rw [if_neg hb]⟩
  have hw : wrap64 (seq - low) = seq - low := by unfold wrap64; omega
  have d0a : decide (src < 0) = false := decide_eq_false (by omega)
  have d1a : decide (src > 3) = false := decide_eq_false (by omega)
  have d1b : decide (3 < src) = false := decide_eq_false (by omega)
  have d2a : decide (low < 1) = false := decide_eq_false (by omega)
  have d3a : decide (seq < low) = false := decide_eq_false (by omega)
  have d4a : decide (seq - low > 15) = false := decide_eq_false (by omega)
  have d4b : decide (15 < seq - low) = false := decide_eq_false (by omega)
  have d5a : decide (seq > 1099511627776) = false := decide_eq_false (by omega)
  have d5b : decide (1099511627776 < seq) = false := decide_eq_false (by omega)
  have j0 : 0 ≤ src := by omega
  have j1 : src < 4 := by omega
  have j2 : src.toNat < 4 := by omega
  clear h hb
  by_cases hs : seq < lo src.toNat
  · have e1 : decide (seq < lo src.toNat) = true := decide_eq_true hs
    have HA := Aside0.mk (HR.out.trans (if_pos hs))
    clear hs
    go_enter Try.func19, Try.ntmps19
    go_wp2_with (((with_reducible refine gate_dst (N := 4) rfl ?_); refine box_event ?hg (N := 4) ?hd (cs := #[.int .i64 (lo 0), .int .i64 (lo 1), .int .i64 (lo 2), .int .i64 (lo 3), .slice A L.length c]) (t := 49) ?hr ?_; (case hd => rfl); (case hg => rfl); (case hr => first | (go_simp; done) | (go_simp; rfl)); intro gb hg W hbox hbb; have H2 := Aside0.mk (H.out.box hg hbox hbb); clear hg hbb; have z := four_cell hbox src.toNat j2; have z4 := (blk_cell hbox 4).trans rfl; clear hbox))
    refine bodyPost_ret (v := .tuple #[.int .i64 1, .int .i64 0]) (results_tt (p := 8) (q := 9) rfl _ _ _ _ rfl rfl) rfl ⟨by rw [HA.out], H2.out.tail⟩
  · have e1 : decide (seq < lo src.toNat) = false := decide_eq_false hs
    have HA0 := Aside0.mk (HR.out.trans (if_neg hs))
    clear hs
    go_enter Try.func19, Try.ntmps19
    go_wp2_with (((with_reducible refine gate_dst (N := 4) rfl ?_); refine box_event ?hg (N := 4) ?hd (cs := #[.int .i64 (lo 0), .int .i64 (lo 1), .int .i64 (lo 2), .int .i64 (lo 3), .slice A L.length c]) (t := 49) ?hr ?_; (case hd => rfl); (case hg => rfl); (case hr => first | (go_simp; done) | (go_simp; rfl)); intro gb hg W hbox hbb; have H2 := Aside0.mk (H.out.box hg hbox hbb); clear hg hbb; have z := four_cell hbox src.toNat j2; have z4 := (blk_cell hbox 4).trans rfl; clear hbox))
    clear z z4
    go_loopw [10] (fun v10 wr => ∃ i : Nat, i ≤ L.length ∧ v10 = .int .i64 i ∧ Aside0 (∀ j x, j < i → L[j]? = some x → rkey src seq x = false) ∧ Aside0 (Own w0 wr (Blk gb (.cells #[.int .i64 (lo 0), .int .i64 (lo 1), .int .i64 (lo 2), .int .i64 (lo 3), .slice A L.length c] 49 (0, 0)) :: Row k71 71 (.slice A L.length c) L :: R))) (fun v10 _ => L.length - (RowKit.intOf v10).toNat)
    case atStart => exact ⟨0, Nat.zero_le _, rfl, ⟨fun j x hj => absurd hj (by omega)⟩, H2⟩
    case round =>
      obtain ⟨i, hi, rfl, HNO, HO⟩ := hrel
      have z4 : wr.cell? ⟨gb, 4, none⟩ = some (.slice A L.length c) := (blk_cell HO.out.at0 4).trans rfl
      by_cases hlt : i < L.length
      · have hgx := List.getElem?_eq_getElem hlt
        obtain ⟨x, hx⟩ : ∃ x, L[i] = x := ⟨_, rfl⟩
        rw [hx] at hgx
        obtain ⟨f0, f1, f2⟩ := x
        have HGX := Aside0.mk hgx
        obtain ⟨ad, rfl, y0, y1, y2⟩ := own_ref_at HO.out.r1 i f0 f1 f2 hgx
        have hft := find_take L i src seq HNO.out
        rw [List.drop_eq_getElem_cons hlt, hx, List.find?_cons] at hft
        clear hgx hx
        by_cases e0 : f0 = src
        · have e0a : (f0 == src) = true := beq_iff_eq.2 e0
          by_cases e2 : f1 = seq
          · have e2a : (f1 == seq) = true := beq_iff_eq.2 e2
            have hkk : rkey src seq ⟨f0, f1, f2⟩ = true := by unfold rkey; simp [e0, e2]
            rw [hkk] at hft
            have HA : Aside0 (raskR lo L src seq low = (2, f2)) := ⟨by rw [HA0.out, hft]⟩
            clear hft hkk e0 e2
            go_wp2
            go_quiet (fail)
            go_wp2
            refine bodyPost_ret (v := .tuple #[.int .i64 2, .int .i64 f2]) (results_tt (p := 8) (q := 9) rfl _ _ _ _ rfl rfl) rfl ⟨by rw [HA.out], HO.out.tail.drewN _⟩
          · have e2a : (f1 == seq) = false := beq_eq_false_iff_ne.2 e2
            have HKK : Aside0 (rkey src seq ⟨f0, f1, f2⟩ = false) := ⟨by unfold rkey; simp [e2]⟩
            clear hft e0 e2
            go_wp2
            go_roundw
            case rel => exact ⟨i + 1, by omega, by first | rfl | go_num, ⟨no_next HNO.out HGX.out HKK.out⟩, HO⟩
            case measure => first | (simp [RowKit.intOf]; done) | (simp [RowKit.intOf]; omega)
        · have e0a : (f0 == src) = false := beq_eq_false_iff_ne.2 e0
          have HKK : Aside0 (rkey src seq ⟨f0, f1, f2⟩ = false) := ⟨by unfold rkey; simp [e0]⟩
          clear hft e0
          go_wp2
          go_roundw
          case rel => exact ⟨i + 1, by omega, by first | rfl | go_num, ⟨no_next HNO.out HGX.out HKK.out⟩, HO⟩
          case measure => first | (simp [RowKit.intOf]; done) | (simp [RowKit.intOf]; omega)
      · obtain rfl : i = L.length := by omega
        have HA : Aside0 (raskR lo L src seq low = (3, 0)) := ⟨by rw [HA0.out, find_take L L.length src seq HNO.out, List.drop_of_length_le (Nat.le_refl _)]; rfl⟩
        go_wp2
        refine bodyPost_ret (v := .tuple #[.int .i64 3, .int .i64 0]) (results_tt (p := 8) (q := 9) rfl _ _ _ _ rfl rfl) rfl ⟨by rw [HA.out], HO.out.tail⟩
/-- The document's Ask. -/
theorem RefAsk (h : Own w0 w (Row k71 71 (.slice A n c) L :: R)) (src seq low : Int) (hq : wfI seq) (hl : wfI low) (hL : L.length ≤ 1000000000) : Calls Try.prog 19 #[.agg #[.int .i64 (lo 0), .int .i64 (lo 1), .int .i64 (lo 2), .int .i64 (lo 3), .slice A n c], .int .i64 src, .int .i64 seq, .int .i64 low] w fun e w' => e = .returned (.tuple #[.int .i64 (raskR lo L src seq low).1, .int .i64 (raskR lo L src seq low).2]) ∧ Own w0 w' (Row k71 71 (.slice A n c) L :: R) := by
  by_cases hb : src < 0 ∨ 4 ≤ src ∨ low < 1 ∨ seq < low ∨ 1099511627776 < seq ∨ 16 ≤ seq - low
  · exact RefAsk_bad h src seq low hq hl hb
  · exact RefAsk_good h src seq low hL hb
end
end Go.Proofs.Ytboomdjkgheonaa.PSeenPlays
