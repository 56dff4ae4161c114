/- Items that were seen: the document's Note. -/
import Derived.Test.YtboomdjkgheonaaRef1
import Derived.Laws.ResultCell
namespace Go.Proofs.Ytboomdjkgheonaa.PSeenPlays
open Go.RowKit Go.Proofs.YtboomdjkgheonaaW.PrintWords Go.Proofs.YtboomdjkgheonaaW.PrintLast Go.Proofs.YtboomdjkgheonaaW.PrintMore
open Go.Proofs.YtboomdjkgheonaaO
attribute [local go_sem] max2_int min2_int max_two min_two max_three min_three max_four min_four
set_option linter.unusedVariables false
set_option linter.unusedSimpArgs false
theorem results_ct {P : Program} {fn : Func} {p u : Tmp} {ty : TypeId} (h : fn.results = #[.cell p ty, .tmp u]) (tmps : Array Value) (w : World) (g : Nat) (t : TypeId) (cs : Array Value) (fr : Nat × Nat) (d : TypeDesc)
    (hp : tmps.getD p undef = .pointer (some ⟨g, 0, none⟩)) (hg : w.heap[g]? = some (.cells cs t fr))
    (hu : P.underlying ty = some d) (hd : (match d with | .struct _ | .array _ _ => true | _ => false) = true) (hi : (P.info? ty).map (·.size) = some cs.size) (v : Value) (hv : tmps.getD u undef = v) :
    (results fn tmps).run P w = .ok (.tuple #[.agg cs, v]) w := by
  rw [results_cell_tmp h, hp, hv]
  simp [asAddr, run_loadVar_row w g t ty cs fr d hg hu hd hi, Result.andThen]
section
variable {P : Program} {ops : Array Oper} {rest : List Oper} {o : Oper} {a : Act} {Q : Exit → Act → World → Prop} {α : Type}
/-- A slice literal without elements. -/
theorem _root_.Go.Proofs.YtboomdjkgheonaaO.Own.litNil {w0 W : World} {L : List Asn} (d : Kd α) (e : Nat) (hgd : o.guard = none) {N : Tmp} (hd : o.dst = some N)
    (hrun : (execOp a.eval o).run P W = .ok (.value (.slice (some ⟨W.heap.size, 0, none⟩) 0 0)) (W.alloc (.cells #[] e))) (h : Own w0 W L)
    (hK : ∀ A c w1, Own w0 w1 (Row d e (.slice A 0 c) [] :: L) → wpList P ops Q rest (a.put o.dst (.slice A 0 c)) w1) : wpList P ops Q (o :: rest) a W := by
  refine Kd.R_lit d (w0 := W) W.heap.size e hgd hd (xs := []) (inner := []) (ok := fun _ => True) (okp := fun _ => True) hrun (Reps.none _ _) (fun _ h => h) trivial (Below.refl _ _) (Nat.le_refl _) (by simp) ?_
  intro v1 w1 hr hb _ _
  obtain ⟨A, c, e1⟩ := Kd.R_slice hr
  subst e1
  exact hK A c w1 (h.row_new hb hr)
end
theorem set_four {lo : Nat → Int} {v : Value} (n : Nat) (hn : n < 4) (m : Int) : (#[.int .i64 (lo 0), .int .i64 (lo 1), .int .i64 (lo 2), .int .i64 (lo 3), v] : Array Value).setIfInBounds n (.int .i64 m) = #[.int .i64 (setLo lo n m 0), .int .i64 (setLo lo n m 1), .int .i64 (setLo lo n m 2), .int .i64 (setLo lo n m 3), v] := by
  rcases (show n = 0 ∨ n = 1 ∨ n = 2 ∨ n = 3 by omega) with rfl | rfl | rfl | rfl <;> rfl
theorem gs_set {w0 w : World} {L : List Asn} {gs : Nat} {lo : Nat → Int} {v : Value} {t : Nat} (h : Own w0 w (Blk gs (.cells #[.int .i64 (lo 0), .int .i64 (lo 1), .int .i64 (lo 2), .int .i64 (lo 3), v] t (0, 0)) :: L)) (n : Nat) (hn : n < 4) (m : Int) : Own w0 (w.setCell ⟨gs, n, none⟩ (.int .i64 m)) (Blk gs (.cells #[.int .i64 (setLo lo n m 0), .int .i64 (setLo lo n m 1), .int .i64 (setLo lo n m 2), .int .i64 (setLo lo n m 3), v] t (0, 0)) :: L) := by
  have := h.set n (.int .i64 m)
  rwa [set_four n hn m] at this
theorem up_yes {lo : Nat → Int} {n : Nat} {low : Int} (h : low > lo n) : setLo lo n low = upLo lo n low := funext fun j => by
  unfold setLo upLo
  by_cases e : j = n
  · rw [if_pos e, if_pos e]; omega
  · rw [if_neg e, if_neg e]
theorem up_no {lo : Nat → Int} {n : Nat} {low : Int} (h : ¬ low > lo n) : upLo lo n low = lo := funext fun j => by
  unfold upLo
  by_cases e : j = n
  · subst e; rw [if_pos rfl]; omega
  · rw [if_neg e]
theorem codeB_iff (n : Int) : (codeB n = true) ↔ (1 ≤ n ∧ n ≤ 4) := decide_eq_true_iff
/-- What the document's Note answers. -/
def rnoteE (lo : Nat → Int) (L : List S71) (src seq low n : Int) : Int := if (raskR lo L src seq low).1 = 0 ∨ codeB n = false then 1 else if (raskR lo L src seq low).1 = 1 then 12 else if (raskR lo L src seq low).1 = 2 then 5 else 0
theorem raskR_st (lo : Nat → Int) (L : List S71) (src seq low : Int) : ((raskR lo L src seq low).1 = 0 ∨ (raskR lo L src seq low).1 = 1 ∨ (raskR lo L src seq low).1 = 2 ∨ (raskR lo L src seq low).1 = 3) ∧ ((raskR lo L src seq low).1 ≠ 0 → 0 ≤ src ∧ src < 4 ∧ 1 ≤ low ∧ low ≤ seq ∧ seq ≤ 1099511627776 ∧ seq - low < 16) := by
  unfold raskR
  by_cases hb : src < 0 ∨ 4 ≤ src ∨ low < 1 ∨ seq < low ∨ 1099511627776 < seq ∨ 16 ≤ seq - low
  · rw [if_pos hb]
    exact ⟨.inl rfl, fun q => absurd rfl q⟩
  · rw [if_neg hb]
    refine ⟨?_, fun _ => by omega⟩
    by_cases h1 : seq < lo src.toNat
    · rw [if_pos h1]; exact .inr (.inl rfl)
    · rw [if_neg h1]
      cases L.find? (rkey src seq) with
      | none => exact .inr (.inr (.inr rfl))
      | some n => exact .inr (.inr (.inl rfl))
section
variable {w0 w w' : World} {R : List Asn} {A : Option Addr} {n c : Nat} {L : List S71} {lo : Nat → Int}
theorem _root_.Go.Proofs.YtboomdjkgheonaaO.Own.drop1 {P1 P2 : Asn} {L : List Asn} (h : Own w0 w (P1 :: P2 :: L)) : Own w0 w (P1 :: L) := h.r1.tail
set_option maxHeartbeats 4000000 in
set_option maxRecDepth 100000 in
theorem RefNote_bad (h : Own w0 w (Row k71 71 (.slice A L.length c) L :: R)) (src seq low cd : Int) (hq : wfI seq) (hl : wfI low) (hL : L.length ≤ 1000000) (cv : Int) (ha : raskR lo L src seq low = (0, cv)) :
    Calls Try.prog 20 #[.agg #[.int .i64 (lo 0), .int .i64 (lo 1), .int .i64 (lo 2), .int .i64 (lo 3), .slice A L.length c], .int .i64 src, .int .i64 seq, .int .i64 low, .int .i64 cd] w fun e w' => ∃ A' c', e = .returned (.tuple #[.agg #[.int .i64 (lo 0), .int .i64 (lo 1), .int .i64 (lo 2), .int .i64 (lo 3), .slice A' (L).length c'], .int .i64 1]) ∧ Own w0 w' (Row k71 71 (.slice A' (L).length c') (L) :: R) := by
  have H := Aside0.mk h
  have HQ := Aside0.mk hq
  have HW := Aside0.mk hl
  have HL := Aside0.mk (show L.length ≤ 1000000000 by omega)
  have HA := Lib.hid ha
  clear h hq hl ha
  go_enter Try.func20, Try.ntmps20
  go_wp2_with (first
    | ((with_reducible refine gate_dst (N := 5) rfl ?_); refine box_event ?hg (N := 5) ?hd (cs := #[.int .i64 (lo 0), .int .i64 (lo 1), .int .i64 (lo 2), .int .i64 (lo 3), .slice A L.length c]) (t := 49) ?hr ?_; (case hd => rfl); (case hg => rfl); (case hr => first | (go_simp; done) | (go_simp; rfl)); intro gs hg W1 hbox hbb; have H2 := Aside0.mk (H.out.box hg hbox hbb); clear hg hbb hbox; skip)
    | ((with_reducible refine gate_dst (N := 10) rfl ?_); refine box_event ?hg (N := 10) ?hd (cs := #[.int .i64 0, .int .i64 0, .int .i64 0, .int .i64 0, .slice none 0 0]) (t := 49) ?hr ?_; (case hd => rfl); (case hg => rfl); (case hr => first | (go_simp; done) | (go_simp; rfl)); intro gr hg W2 hbox hbb; have H3 := Aside0.mk (H2.out.box hg hbox hbb); clear hg hbb hbox; have x0 := (blk_cell H3.out.at1 0).trans rfl; have x1 := (blk_cell H3.out.at1 1).trans rfl; have x2 := (blk_cell H3.out.at1 2).trans rfl; have x3 := (blk_cell H3.out.at1 3).trans rfl; have x4 := (blk_cell H3.out.at1 4).trans rfl)
    | (go_at_call 19; ((with_reducible refine (RefAsk H3.out.r2 src seq low HQ.out HW.out HL.out).mono ?_)); rintro e w4 ⟨rfl, h⟩; rw [HA.out]; have H4 := Aside0.mk h.r1; clear h x0 x1 x2 x3 x4; have y0 := (blk_cell H4.out.at2 0).trans rfl; have y1 := (blk_cell H4.out.at2 1).trans rfl; have y2 := (blk_cell H4.out.at2 2).trans rfl; have y3 := (blk_cell H4.out.at2 3).trans rfl; have y4 := (blk_cell H4.out.at2 4).trans rfl; have f0 := blk_frozen H4.out.at0 0; have f1 := blk_frozen H4.out.at0 1; have f2 := blk_frozen H4.out.at0 2; have f3 := blk_frozen H4.out.at0 3; have f4 := blk_frozen H4.out.at0 4; have q0 := (blk_cell H4.out.at0 0).trans rfl; have q1 := (blk_cell H4.out.at0 1).trans rfl; have q2 := (blk_cell H4.out.at0 2).trans rfl; have q3 := (blk_cell H4.out.at0 3).trans rfl; have q4 := (blk_cell H4.out.at0 4).trans rfl))
  have H5 := Aside0.mk (((((H4.out.set 0 (.int .i64 (lo 0))).set 1 (.int .i64 (lo 1))).set 2 (.int .i64 (lo 2))).set 3 (.int .i64 (lo 3))).set 4 (.slice A L.length c))
  refine bodyPost_ret (v := .tuple #[.agg #[.int .i64 (lo 0), .int .i64 (lo 1), .int .i64 (lo 2), .int .i64 (lo 3), .slice A L.length c], .int .i64 1]) (results_ct rfl _ _ gr 49 #[.int .i64 (lo 0), .int .i64 (lo 1), .int .i64 (lo 2), .int .i64 (lo 3), .slice A L.length c] (0, 0) _ rfl H5.out.at0 Try.underlying49 rfl (by kernel_rfl) _ rfl) rfl ?_
  exact ⟨A, c, rfl, H5.out.r1.drop1.drop1⟩
set_option maxHeartbeats 4000000 in
set_option maxRecDepth 100000 in
theorem RefNote_c1 (h : Own w0 w (Row k71 71 (.slice A L.length c) L :: R)) (src seq low cd : Int) (hq : wfI seq) (hl : wfI low) (hL : L.length ≤ 1000000) (cv st : Int) (hst : st ≠ 0) (h1 : cd < 1) (ha : raskR lo L src seq low = (st, cv)) :
    Calls Try.prog 20 #[.agg #[.int .i64 (lo 0), .int .i64 (lo 1), .int .i64 (lo 2), .int .i64 (lo 3), .slice A L.length c], .int .i64 src, .int .i64 seq, .int .i64 low, .int .i64 cd] w fun e w' => ∃ A' c', e = .returned (.tuple #[.agg #[.int .i64 (lo 0), .int .i64 (lo 1), .int .i64 (lo 2), .int .i64 (lo 3), .slice A' (L).length c'], .int .i64 1]) ∧ Own w0 w' (Row k71 71 (.slice A' (L).length c') (L) :: R) := by
  have e0 : (st == 0) = false := beq_eq_false_iff_ne.2 hst
  have d1 : decide (cd < 1) = true := decide_eq_true (by omega)
  have H := Aside0.mk h
  have HQ := Aside0.mk hq
  have HW := Aside0.mk hl
  have HL := Aside0.mk (show L.length ≤ 1000000000 by omega)
  have HA := Lib.hid ha
  clear h hq hl ha
  go_enter Try.func20, Try.ntmps20
  go_wp2_with (first
    | ((with_reducible refine gate_dst (N := 5) rfl ?_); refine box_event ?hg (N := 5) ?hd (cs := #[.int .i64 (lo 0), .int .i64 (lo 1), .int .i64 (lo 2), .int .i64 (lo 3), .slice A L.length c]) (t := 49) ?hr ?_; (case hd => rfl); (case hg => rfl); (case hr => first | (go_simp; done) | (go_simp; rfl)); intro gs hg W1 hbox hbb; have H2 := Aside0.mk (H.out.box hg hbox hbb); clear hg hbb hbox; skip)
    | ((with_reducible refine gate_dst (N := 10) rfl ?_); refine box_event ?hg (N := 10) ?hd (cs := #[.int .i64 0, .int .i64 0, .int .i64 0, .int .i64 0, .slice none 0 0]) (t := 49) ?hr ?_; (case hd => rfl); (case hg => rfl); (case hr => first | (go_simp; done) | (go_simp; rfl)); intro gr hg W2 hbox hbb; have H3 := Aside0.mk (H2.out.box hg hbox hbb); clear hg hbb hbox; have x0 := (blk_cell H3.out.at1 0).trans rfl; have x1 := (blk_cell H3.out.at1 1).trans rfl; have x2 := (blk_cell H3.out.at1 2).trans rfl; have x3 := (blk_cell H3.out.at1 3).trans rfl; have x4 := (blk_cell H3.out.at1 4).trans rfl)
    | (go_at_call 19; ((with_reducible refine (RefAsk H3.out.r2 src seq low HQ.out HW.out HL.out).mono ?_)); rintro e w4 ⟨rfl, h⟩; rw [HA.out]; have H4 := Aside0.mk h.r1; clear h x0 x1 x2 x3 x4; have y0 := (blk_cell H4.out.at2 0).trans rfl; have y1 := (blk_cell H4.out.at2 1).trans rfl; have y2 := (blk_cell H4.out.at2 2).trans rfl; have y3 := (blk_cell H4.out.at2 3).trans rfl; have y4 := (blk_cell H4.out.at2 4).trans rfl; have f0 := blk_frozen H4.out.at0 0; have f1 := blk_frozen H4.out.at0 1; have f2 := blk_frozen H4.out.at0 2; have f3 := blk_frozen H4.out.at0 3; have f4 := blk_frozen H4.out.at0 4; have q0 := (blk_cell H4.out.at0 0).trans rfl; have q1 := (blk_cell H4.out.at0 1).trans rfl; have q2 := (blk_cell H4.out.at0 2).trans rfl; have q3 := (blk_cell H4.out.at0 3).trans rfl; have q4 := (blk_cell H4.out.at0 4).trans rfl))
  have H5 := Aside0.mk (((((H4.out.set 0 (.int .i64 (lo 0))).set 1 (.int .i64 (lo 1))).set 2 (.int .i64 (lo 2))).set 3 (.int .i64 (lo 3))).set 4 (.slice A L.length c))
  refine bodyPost_ret (v := .tuple #[.agg #[.int .i64 (lo 0), .int .i64 (lo 1), .int .i64 (lo 2), .int .i64 (lo 3), .slice A L.length c], .int .i64 1]) (results_ct rfl _ _ gr 49 #[.int .i64 (lo 0), .int .i64 (lo 1), .int .i64 (lo 2), .int .i64 (lo 3), .slice A L.length c] (0, 0) _ rfl H5.out.at0 Try.underlying49 rfl (by kernel_rfl) _ rfl) rfl ?_
  exact ⟨A, c, rfl, H5.out.r1.drop1.drop1⟩
set_option maxHeartbeats 4000000 in
set_option maxRecDepth 100000 in
theorem RefNote_c4 (h : Own w0 w (Row k71 71 (.slice A L.length c) L :: R)) (src seq low cd : Int) (hq : wfI seq) (hl : wfI low) (hL : L.length ≤ 1000000) (cv st : Int) (hst : st ≠ 0) (h1 : ¬ cd < 1) (h4 : cd > 4) (ha : raskR lo L src seq low = (st, cv)) :
    Calls Try.prog 20 #[.agg #[.int .i64 (lo 0), .int .i64 (lo 1), .int .i64 (lo 2), .int .i64 (lo 3), .slice A L.length c], .int .i64 src, .int .i64 seq, .int .i64 low, .int .i64 cd] w fun e w' => ∃ A' c', e = .returned (.tuple #[.agg #[.int .i64 (lo 0), .int .i64 (lo 1), .int .i64 (lo 2), .int .i64 (lo 3), .slice A' (L).length c'], .int .i64 1]) ∧ Own w0 w' (Row k71 71 (.slice A' (L).length c') (L) :: R) := by
  have e0 : (st == 0) = false := beq_eq_false_iff_ne.2 hst
  have d1 : decide (cd < 1) = false := decide_eq_false (by omega)
  have d4 : decide (cd > 4) = true := decide_eq_true (by omega)
  have d4b : decide (4 < cd) = true := decide_eq_true (by omega)
  have H := Aside0.mk h
  have HQ := Aside0.mk hq
  have HW := Aside0.mk hl
  have HL := Aside0.mk (show L.length ≤ 1000000000 by omega)
  have HA := Lib.hid ha
  clear h hq hl ha
  go_enter Try.func20, Try.ntmps20
  go_wp2_with (first
    | ((with_reducible refine gate_dst (N := 5) rfl ?_); refine box_event ?hg (N := 5) ?hd (cs := #[.int .i64 (lo 0), .int .i64 (lo 1), .int .i64 (lo 2), .int .i64 (lo 3), .slice A L.length c]) (t := 49) ?hr ?_; (case hd => rfl); (case hg => rfl); (case hr => first | (go_simp; done) | (go_simp; rfl)); intro gs hg W1 hbox hbb; have H2 := Aside0.mk (H.out.box hg hbox hbb); clear hg hbb hbox; skip)
    | ((with_reducible refine gate_dst (N := 10) rfl ?_); refine box_event ?hg (N := 10) ?hd (cs := #[.int .i64 0, .int .i64 0, .int .i64 0, .int .i64 0, .slice none 0 0]) (t := 49) ?hr ?_; (case hd => rfl); (case hg => rfl); (case hr => first | (go_simp; done) | (go_simp; rfl)); intro gr hg W2 hbox hbb; have H3 := Aside0.mk (H2.out.box hg hbox hbb); clear hg hbb hbox; have x0 := (blk_cell H3.out.at1 0).trans rfl; have x1 := (blk_cell H3.out.at1 1).trans rfl; have x2 := (blk_cell H3.out.at1 2).trans rfl; have x3 := (blk_cell H3.out.at1 3).trans rfl; have x4 := (blk_cell H3.out.at1 4).trans rfl)
    | (go_at_call 19; ((with_reducible refine (RefAsk H3.out.r2 src seq low HQ.out HW.out HL.out).mono ?_)); rintro e w4 ⟨rfl, h⟩; rw [HA.out]; have H4 := Aside0.mk h.r1; clear h x0 x1 x2 x3 x4; have y0 := (blk_cell H4.out.at2 0).trans rfl; have y1 := (blk_cell H4.out.at2 1).trans rfl; have y2 := (blk_cell H4.out.at2 2).trans rfl; have y3 := (blk_cell H4.out.at2 3).trans rfl; have y4 := (blk_cell H4.out.at2 4).trans rfl; have f0 := blk_frozen H4.out.at0 0; have f1 := blk_frozen H4.out.at0 1; have f2 := blk_frozen H4.out.at0 2; have f3 := blk_frozen H4.out.at0 3; have f4 := blk_frozen H4.out.at0 4; have q0 := (blk_cell H4.out.at0 0).trans rfl; have q1 := (blk_cell H4.out.at0 1).trans rfl; have q2 := (blk_cell H4.out.at0 2).trans rfl; have q3 := (blk_cell H4.out.at0 3).trans rfl; have q4 := (blk_cell H4.out.at0 4).trans rfl))
  have H5 := Aside0.mk (((((H4.out.set 0 (.int .i64 (lo 0))).set 1 (.int .i64 (lo 1))).set 2 (.int .i64 (lo 2))).set 3 (.int .i64 (lo 3))).set 4 (.slice A L.length c))
  refine bodyPost_ret (v := .tuple #[.agg #[.int .i64 (lo 0), .int .i64 (lo 1), .int .i64 (lo 2), .int .i64 (lo 3), .slice A L.length c], .int .i64 1]) (results_ct rfl _ _ gr 49 #[.int .i64 (lo 0), .int .i64 (lo 1), .int .i64 (lo 2), .int .i64 (lo 3), .slice A L.length c] (0, 0) _ rfl H5.out.at0 Try.underlying49 rfl (by kernel_rfl) _ rfl) rfl ?_
  exact ⟨A, c, rfl, H5.out.r1.drop1.drop1⟩
set_option maxHeartbeats 4000000 in
set_option maxRecDepth 100000 in
theorem RefNote_old (h : Own w0 w (Row k71 71 (.slice A L.length c) L :: R)) (src seq low cd : Int) (hq : wfI seq) (hl : wfI low) (hL : L.length ≤ 1000000) (cv : Int) (h1 : ¬ cd < 1) (h4 : ¬ cd > 4) (ha : raskR lo L src seq low = (1, cv)) :
    Calls Try.prog 20 #[.agg #[.int .i64 (lo 0), .int .i64 (lo 1), .int .i64 (lo 2), .int .i64 (lo 3), .slice A L.length c], .int .i64 src, .int .i64 seq, .int .i64 low, .int .i64 cd] w fun e w' => ∃ A' c', e = .returned (.tuple #[.agg #[.int .i64 (lo 0), .int .i64 (lo 1), .int .i64 (lo 2), .int .i64 (lo 3), .slice A' (L).length c'], .int .i64 12]) ∧ Own w0 w' (Row k71 71 (.slice A' (L).length c') (L) :: R) := by
  have d1 : decide (cd < 1) = false := decide_eq_false (by omega)
  have d4 : decide (cd > 4) = false := decide_eq_false (by omega)
  have d4b : decide (4 < cd) = false := decide_eq_false (by omega)
  have H := Aside0.mk h
  have HQ := Aside0.mk hq
  have HW := Aside0.mk hl
  have HL := Aside0.mk (show L.length ≤ 1000000000 by omega)
  have HA := Lib.hid ha
  clear h hq hl ha
  go_enter Try.func20, Try.ntmps20
  go_wp2_with (first
    | ((with_reducible refine gate_dst (N := 5) rfl ?_); refine box_event ?hg (N := 5) ?hd (cs := #[.int .i64 (lo 0), .int .i64 (lo 1), .int .i64 (lo 2), .int .i64 (lo 3), .slice A L.length c]) (t := 49) ?hr ?_; (case hd => rfl); (case hg => rfl); (case hr => first | (go_simp; done) | (go_simp; rfl)); intro gs hg W1 hbox hbb; have H2 := Aside0.mk (H.out.box hg hbox hbb); clear hg hbb hbox; skip)
    | ((with_reducible refine gate_dst (N := 10) rfl ?_); refine box_event ?hg (N := 10) ?hd (cs := #[.int .i64 0, .int .i64 0, .int .i64 0, .int .i64 0, .slice none 0 0]) (t := 49) ?hr ?_; (case hd => rfl); (case hg => rfl); (case hr => first | (go_simp; done) | (go_simp; rfl)); intro gr hg W2 hbox hbb; have H3 := Aside0.mk (H2.out.box hg hbox hbb); clear hg hbb hbox; have x0 := (blk_cell H3.out.at1 0).trans rfl; have x1 := (blk_cell H3.out.at1 1).trans rfl; have x2 := (blk_cell H3.out.at1 2).trans rfl; have x3 := (blk_cell H3.out.at1 3).trans rfl; have x4 := (blk_cell H3.out.at1 4).trans rfl)
    | (go_at_call 19; ((with_reducible refine (RefAsk H3.out.r2 src seq low HQ.out HW.out HL.out).mono ?_)); rintro e w4 ⟨rfl, h⟩; rw [HA.out]; have H4 := Aside0.mk h.r1; clear h x0 x1 x2 x3 x4; have y0 := (blk_cell H4.out.at2 0).trans rfl; have y1 := (blk_cell H4.out.at2 1).trans rfl; have y2 := (blk_cell H4.out.at2 2).trans rfl; have y3 := (blk_cell H4.out.at2 3).trans rfl; have y4 := (blk_cell H4.out.at2 4).trans rfl; have f0 := blk_frozen H4.out.at0 0; have f1 := blk_frozen H4.out.at0 1; have f2 := blk_frozen H4.out.at0 2; have f3 := blk_frozen H4.out.at0 3; have f4 := blk_frozen H4.out.at0 4; have q0 := (blk_cell H4.out.at0 0).trans rfl; have q1 := (blk_cell H4.out.at0 1).trans rfl; have q2 := (blk_cell H4.out.at0 2).trans rfl; have q3 := (blk_cell H4.out.at0 3).trans rfl; have q4 := (blk_cell H4.out.at0 4).trans rfl))
  have H5 := Aside0.mk (((((H4.out.set 0 (.int .i64 (lo 0))).set 1 (.int .i64 (lo 1))).set 2 (.int .i64 (lo 2))).set 3 (.int .i64 (lo 3))).set 4 (.slice A L.length c))
  refine bodyPost_ret (v := .tuple #[.agg #[.int .i64 (lo 0), .int .i64 (lo 1), .int .i64 (lo 2), .int .i64 (lo 3), .slice A L.length c], .int .i64 12]) (results_ct rfl _ _ gr 49 #[.int .i64 (lo 0), .int .i64 (lo 1), .int .i64 (lo 2), .int .i64 (lo 3), .slice A L.length c] (0, 0) _ rfl H5.out.at0 Try.underlying49 rfl (by kernel_rfl) _ rfl) rfl ?_
  exact ⟨A, c, rfl, H5.out.r1.drop1.drop1⟩
set_option maxHeartbeats 4000000 in
set_option maxRecDepth 100000 in
theorem RefNote_there (h : Own w0 w (Row k71 71 (.slice A L.length c) L :: R)) (src seq low cd : Int) (hq : wfI seq) (hl : wfI low) (hL : L.length ≤ 1000000) (cv : Int) (h1 : ¬ cd < 1) (h4 : ¬ cd > 4) (ha : raskR lo L src seq low = (2, cv)) :
    Calls Try.prog 20 #[.agg #[.int .i64 (lo 0), .int .i64 (lo 1), .int .i64 (lo 2), .int .i64 (lo 3), .slice A L.length c], .int .i64 src, .int .i64 seq, .int .i64 low, .int .i64 cd] w fun e w' => ∃ A' c', e = .returned (.tuple #[.agg #[.int .i64 (lo 0), .int .i64 (lo 1), .int .i64 (lo 2), .int .i64 (lo 3), .slice A' (L).length c'], .int .i64 5]) ∧ Own w0 w' (Row k71 71 (.slice A' (L).length c') (L) :: R) := by
  have d1 : decide (cd < 1) = false := decide_eq_false (by omega)
  have d4 : decide (cd > 4) = false := decide_eq_false (by omega)
  have d4b : decide (4 < cd) = false := decide_eq_false (by omega)
  have H := Aside0.mk h
  have HQ := Aside0.mk hq
  have HW := Aside0.mk hl
  have HL := Aside0.mk (show L.length ≤ 1000000000 by omega)
  have HA := Lib.hid ha
  clear h hq hl ha
  go_enter Try.func20, Try.ntmps20
  go_wp2_with (first
    | ((with_reducible refine gate_dst (N := 5) rfl ?_); refine box_event ?hg (N := 5) ?hd (cs := #[.int .i64 (lo 0), .int .i64 (lo 1), .int .i64 (lo 2), .int .i64 (lo 3), .slice A L.length c]) (t := 49) ?hr ?_; (case hd => rfl); (case hg => rfl); (case hr => first | (go_simp; done) | (go_simp; rfl)); intro gs hg W1 hbox hbb; have H2 := Aside0.mk (H.out.box hg hbox hbb); clear hg hbb hbox; skip)
    | ((with_reducible refine gate_dst (N := 10) rfl ?_); refine box_event ?hg (N := 10) ?hd (cs := #[.int .i64 0, .int .i64 0, .int .i64 0, .int .i64 0, .slice none 0 0]) (t := 49) ?hr ?_; (case hd => rfl); (case hg => rfl); (case hr => first | (go_simp; done) | (go_simp; rfl)); intro gr hg W2 hbox hbb; have H3 := Aside0.mk (H2.out.box hg hbox hbb); clear hg hbb hbox; have x0 := (blk_cell H3.out.at1 0).trans rfl; have x1 := (blk_cell H3.out.at1 1).trans rfl; have x2 := (blk_cell H3.out.at1 2).trans rfl; have x3 := (blk_cell H3.out.at1 3).trans rfl; have x4 := (blk_cell H3.out.at1 4).trans rfl)
    | (go_at_call 19; ((with_reducible refine (RefAsk H3.out.r2 src seq low HQ.out HW.out HL.out).mono ?_)); rintro e w4 ⟨rfl, h⟩; rw [HA.out]; have H4 := Aside0.mk h.r1; clear h x0 x1 x2 x3 x4; have y0 := (blk_cell H4.out.at2 0).trans rfl; have y1 := (blk_cell H4.out.at2 1).trans rfl; have y2 := (blk_cell H4.out.at2 2).trans rfl; have y3 := (blk_cell H4.out.at2 3).trans rfl; have y4 := (blk_cell H4.out.at2 4).trans rfl; have f0 := blk_frozen H4.out.at0 0; have f1 := blk_frozen H4.out.at0 1; have f2 := blk_frozen H4.out.at0 2; have f3 := blk_frozen H4.out.at0 3; have f4 := blk_frozen H4.out.at0 4; have q0 := (blk_cell H4.out.at0 0).trans rfl; have q1 := (blk_cell H4.out.at0 1).trans rfl; have q2 := (blk_cell H4.out.at0 2).trans rfl; have q3 := (blk_cell H4.out.at0 3).trans rfl; have q4 := (blk_cell H4.out.at0 4).trans rfl))
  have H5 := Aside0.mk (((((H4.out.set 0 (.int .i64 (lo 0))).set 1 (.int .i64 (lo 1))).set 2 (.int .i64 (lo 2))).set 3 (.int .i64 (lo 3))).set 4 (.slice A L.length c))
  refine bodyPost_ret (v := .tuple #[.agg #[.int .i64 (lo 0), .int .i64 (lo 1), .int .i64 (lo 2), .int .i64 (lo 3), .slice A L.length c], .int .i64 5]) (results_ct rfl _ _ gr 49 #[.int .i64 (lo 0), .int .i64 (lo 1), .int .i64 (lo 2), .int .i64 (lo 3), .slice A L.length c] (0, 0) _ rfl H5.out.at0 Try.underlying49 rfl (by kernel_rfl) _ rfl) rfl ?_
  exact ⟨A, c, rfl, H5.out.r1.drop1.drop1⟩
set_option maxHeartbeats 4000000 in
set_option maxRecDepth 100000 in
theorem RefNote_yes (h : Own w0 w (Row k71 71 (.slice A L.length c) L :: R)) (src seq low cd : Int) (hq : wfI seq) (hl : wfI low) (hL : L.length ≤ 1000000) (cv : Int) (h1 : ¬ cd < 1) (h4 : ¬ cd > 4) (ha : raskR lo L src seq low = (3, cv)) (j0 : 0 ≤ src) (j1 : src < 4) (lo2 : Nat → Int) (hup : upLo lo src.toNat low = lo2) :
    Calls Try.prog 20 #[.agg #[.int .i64 (lo 0), .int .i64 (lo 1), .int .i64 (lo 2), .int .i64 (lo 3), .slice A L.length c], .int .i64 src, .int .i64 seq, .int .i64 low, .int .i64 cd] w fun e w' => ∃ A' c', e = .returned (.tuple #[.agg #[.int .i64 (lo2 0), .int .i64 (lo2 1), .int .i64 (lo2 2), .int .i64 (lo2 3), .slice A' (L ++ [(⟨src, seq, cd⟩ : S71)]).length c'], .int .i64 0]) ∧ Own w0 w' (Row k71 71 (.slice A' (L ++ [(⟨src, seq, cd⟩ : S71)]).length c') (L ++ [(⟨src, seq, cd⟩ : S71)]) :: R) := by
  have d1 : decide (cd < 1) = false := decide_eq_false (by omega)
  have d4 : decide (cd > 4) = false := decide_eq_false (by omega)
  have d4b : decide (4 < cd) = false := decide_eq_false (by omega)
  have j2 : src.toNat < 4 := by omega
  have H := Aside0.mk h
  have HQ := Aside0.mk hq
  have HW := Aside0.mk hl
  have HL := Aside0.mk (show L.length ≤ 1000000000 by omega)
  have HA := Lib.hid ha
  clear h hq hl ha
  by_cases hc : low > lo src.toNat
  · have e1 : decide (low > lo src.toNat) = true := decide_eq_true hc
    have e2 : decide (lo src.toNat < low) = true := decide_eq_true hc
    rw [← up_yes hc] at hup
    subst hup
    clear hc
    go_enter Try.func20, Try.ntmps20
    go_wp2_with (first
      | ((with_reducible refine gate_dst (N := 5) rfl ?_); refine box_event ?hg (N := 5) ?hd (cs := #[.int .i64 (lo 0), .int .i64 (lo 1), .int .i64 (lo 2), .int .i64 (lo 3), .slice A L.length c]) (t := 49) ?hr ?_; (case hd => rfl); (case hg => rfl); (case hr => first | (go_simp; done) | (go_simp; rfl)); intro gs hg W1 hbox hbb; have H2 := Aside0.mk (H.out.box hg hbox hbb); clear hg hbb hbox; skip)
      | ((with_reducible refine gate_dst (N := 10) rfl ?_); refine box_event ?hg (N := 10) ?hd (cs := #[.int .i64 0, .int .i64 0, .int .i64 0, .int .i64 0, .slice none 0 0]) (t := 49) ?hr ?_; (case hd => rfl); (case hg => rfl); (case hr => first | (go_simp; done) | (go_simp; rfl)); intro gr hg W2 hbox hbb; have H3 := Aside0.mk (H2.out.box hg hbox hbb); clear hg hbb hbox; have x0 := (blk_cell H3.out.at1 0).trans rfl; have x1 := (blk_cell H3.out.at1 1).trans rfl; have x2 := (blk_cell H3.out.at1 2).trans rfl; have x3 := (blk_cell H3.out.at1 3).trans rfl; have x4 := (blk_cell H3.out.at1 4).trans rfl)
      | (go_at_call 19; ((with_reducible refine (RefAsk H3.out.r2 src seq low HQ.out HW.out HL.out).mono ?_)); rintro e w4 ⟨rfl, h⟩; rw [HA.out]; have H4 := Aside0.mk h.r1; clear h x0 x1 x2 x3 x4; have z := four_cell H4.out.at2 src.toNat j2; have fz := blk_frozen H4.out.at2 src.toNat; have H5 := Aside0.mk (gs_set H4.out.r2 src.toNat j2 low))
      | ((with_reducible refine gate_dst (N := 49) rfl ?_); refine Own.litNil k71 71 ?hg (N := 49) ?hd ?hr H5.out ?_; (case hd => rfl); (case hg => rfl); (case hr => first | (go_simp; done) | (go_simp; rfl)); intro A6 c6 w6 h6; have H6 := Aside0.mk h6; clear h6; have y4 := (blk_cell H6.out.at1 4).trans rfl)
      | ((with_reducible refine gate_dst (N := 52) rfl ?_); refine Own.appendRows k71 rfl (.tmp 49) (.tmp 51) 45 71 (.agg #[.int .i64 0, .int .i64 0, .int .i64 0]) 24 rfl Try.underlying45 infoR rfl (by decide) (by omega) (.slice A6 0 c6) [] L A L.length c rfl rfl (ref_reads H6.out.r3).2.2 (fun x cs h => by rw [k71_open h]; exact k71_mkM _ _ _ x) H6.out (by simp; omega) ?_; intro A7 c7 w7 h7; have H7 := Aside0.mk h7; clear h7; rw [List.nil_append] at H7; rw [List.nil_append])
      | ((with_reducible refine gate_builtin (b := .append) (xs := #[.tmp 52, .tmp 57]) rfl ?_); at_builtin; refine Own.append k71 rfl (.tmp 52) (.tmp 57) 45 71 (.agg #[.int .i64 0, .int .i64 0, .int .i64 0]) 24 rfl Try.underlying45 infoR rfl (by decide) (by omega) (.slice A7 L.length c7) L ⟨src, seq, cd⟩ [.int .i64 src, .int .i64 seq, .int .i64 cd] rfl rfl (fun _ => k71_mkM _ _ _ _) H7.out (by omega) ?_; intro A8 c8 w8 h8; have H8 := Aside0.mk h8; clear h8; have fs := blk_frozen H8.out.at1 4; have ys := (blk_cell H8.out.at1 4).trans rfl; have H9 := Aside0.mk (H8.out.r1.set 4 (.slice A8 (L.length + 1) c8)).r2; have y0 := (blk_cell H9.out.at1 0).trans rfl; have y1 := (blk_cell H9.out.at1 1).trans rfl; have y2 := (blk_cell H9.out.at1 2).trans rfl; have y3 := (blk_cell H9.out.at1 3).trans rfl; have y4 := (blk_cell H9.out.at1 4).trans rfl; have f0 := blk_frozen H9.out.at0 0; have q0 := (blk_cell H9.out.at0 0).trans rfl; have f1 := blk_frozen H9.out.at0 1; have q1 := (blk_cell H9.out.at0 1).trans rfl; have f2 := blk_frozen H9.out.at0 2; have q2 := (blk_cell H9.out.at0 2).trans rfl; have f3 := blk_frozen H9.out.at0 3; have q3 := (blk_cell H9.out.at0 3).trans rfl; have f4 := blk_frozen H9.out.at0 4; have q4 := (blk_cell H9.out.at0 4).trans rfl))
    have H10 := Aside0.mk (((((H9.out.set 0 (.int .i64 (setLo lo src.toNat low 0))).set 1 (.int .i64 (setLo lo src.toNat low 1))).set 2 (.int .i64 (setLo lo src.toNat low 2))).set 3 (.int .i64 (setLo lo src.toNat low 3))).set 4 (.slice A8 (L.length + 1) c8))
    refine bodyPost_ret (v := .tuple #[.agg #[.int .i64 (setLo lo src.toNat low 0), .int .i64 (setLo lo src.toNat low 1), .int .i64 (setLo lo src.toNat low 2), .int .i64 (setLo lo src.toNat low 3), .slice A8 (L.length + 1) c8], .int .i64 0]) (results_ct rfl _ _ gr 49 #[.int .i64 (setLo lo src.toNat low 0), .int .i64 (setLo lo src.toNat low 1), .int .i64 (setLo lo src.toNat low 2), .int .i64 (setLo lo src.toNat low 3), .slice A8 (L.length + 1) c8] (0, 0) _ rfl H10.out.at0 Try.underlying49 rfl (by kernel_rfl) _ rfl) rfl ?_
    exact ⟨A8, c8, by rw [List.length_append]; rfl, by rw [List.length_append]; exact H10.out.r2.drop1.drop1.drop1⟩
  · have e1 : decide (low > lo src.toNat) = false := decide_eq_false hc
    have e2 : decide (lo src.toNat < low) = false := decide_eq_false hc
    rw [up_no hc] at hup
    subst hup
    clear hc
    go_enter Try.func20, Try.ntmps20
    go_wp2_with (first
      | ((with_reducible refine gate_dst (N := 5) rfl ?_); refine box_event ?hg (N := 5) ?hd (cs := #[.int .i64 (lo 0), .int .i64 (lo 1), .int .i64 (lo 2), .int .i64 (lo 3), .slice A L.length c]) (t := 49) ?hr ?_; (case hd => rfl); (case hg => rfl); (case hr => first | (go_simp; done) | (go_simp; rfl)); intro gs hg W1 hbox hbb; have H2 := Aside0.mk (H.out.box hg hbox hbb); clear hg hbb hbox; skip)
      | ((with_reducible refine gate_dst (N := 10) rfl ?_); refine box_event ?hg (N := 10) ?hd (cs := #[.int .i64 0, .int .i64 0, .int .i64 0, .int .i64 0, .slice none 0 0]) (t := 49) ?hr ?_; (case hd => rfl); (case hg => rfl); (case hr => first | (go_simp; done) | (go_simp; rfl)); intro gr hg W2 hbox hbb; have H3 := Aside0.mk (H2.out.box hg hbox hbb); clear hg hbb hbox; have x0 := (blk_cell H3.out.at1 0).trans rfl; have x1 := (blk_cell H3.out.at1 1).trans rfl; have x2 := (blk_cell H3.out.at1 2).trans rfl; have x3 := (blk_cell H3.out.at1 3).trans rfl; have x4 := (blk_cell H3.out.at1 4).trans rfl)
      | (go_at_call 19; ((with_reducible refine (RefAsk H3.out.r2 src seq low HQ.out HW.out HL.out).mono ?_)); rintro e w4 ⟨rfl, h⟩; rw [HA.out]; have H4 := Aside0.mk h.r1; clear h x0 x1 x2 x3 x4; have z := four_cell H4.out.at2 src.toNat j2; have fz := blk_frozen H4.out.at2 src.toNat; have H5 := Aside0.mk (H4.out.r2))
      | ((with_reducible refine gate_dst (N := 49) rfl ?_); refine Own.litNil k71 71 ?hg (N := 49) ?hd ?hr H5.out ?_; (case hd => rfl); (case hg => rfl); (case hr => first | (go_simp; done) | (go_simp; rfl)); intro A6 c6 w6 h6; have H6 := Aside0.mk h6; clear h6; have y4 := (blk_cell H6.out.at1 4).trans rfl)
      | ((with_reducible refine gate_dst (N := 52) rfl ?_); refine Own.appendRows k71 rfl (.tmp 49) (.tmp 51) 45 71 (.agg #[.int .i64 0, .int .i64 0, .int .i64 0]) 24 rfl Try.underlying45 infoR rfl (by decide) (by omega) (.slice A6 0 c6) [] L A L.length c rfl rfl (ref_reads H6.out.r3).2.2 (fun x cs h => by rw [k71_open h]; exact k71_mkM _ _ _ x) H6.out (by simp; omega) ?_; intro A7 c7 w7 h7; have H7 := Aside0.mk h7; clear h7; rw [List.nil_append] at H7; rw [List.nil_append])
      | ((with_reducible refine gate_builtin (b := .append) (xs := #[.tmp 52, .tmp 57]) rfl ?_); at_builtin; refine Own.append k71 rfl (.tmp 52) (.tmp 57) 45 71 (.agg #[.int .i64 0, .int .i64 0, .int .i64 0]) 24 rfl Try.underlying45 infoR rfl (by decide) (by omega) (.slice A7 L.length c7) L ⟨src, seq, cd⟩ [.int .i64 src, .int .i64 seq, .int .i64 cd] rfl rfl (fun _ => k71_mkM _ _ _ _) H7.out (by omega) ?_; intro A8 c8 w8 h8; have H8 := Aside0.mk h8; clear h8; have fs := blk_frozen H8.out.at1 4; have ys := (blk_cell H8.out.at1 4).trans rfl; have H9 := Aside0.mk (H8.out.r1.set 4 (.slice A8 (L.length + 1) c8)).r2; have y0 := (blk_cell H9.out.at1 0).trans rfl; have y1 := (blk_cell H9.out.at1 1).trans rfl; have y2 := (blk_cell H9.out.at1 2).trans rfl; have y3 := (blk_cell H9.out.at1 3).trans rfl; have y4 := (blk_cell H9.out.at1 4).trans rfl; have f0 := blk_frozen H9.out.at0 0; have q0 := (blk_cell H9.out.at0 0).trans rfl; have f1 := blk_frozen H9.out.at0 1; have q1 := (blk_cell H9.out.at0 1).trans rfl; have f2 := blk_frozen H9.out.at0 2; have q2 := (blk_cell H9.out.at0 2).trans rfl; have f3 := blk_frozen H9.out.at0 3; have q3 := (blk_cell H9.out.at0 3).trans rfl; have f4 := blk_frozen H9.out.at0 4; have q4 := (blk_cell H9.out.at0 4).trans rfl))
    have H10 := Aside0.mk (((((H9.out.set 0 (.int .i64 (lo 0))).set 1 (.int .i64 (lo 1))).set 2 (.int .i64 (lo 2))).set 3 (.int .i64 (lo 3))).set 4 (.slice A8 (L.length + 1) c8))
    refine bodyPost_ret (v := .tuple #[.agg #[.int .i64 (lo 0), .int .i64 (lo 1), .int .i64 (lo 2), .int .i64 (lo 3), .slice A8 (L.length + 1) c8], .int .i64 0]) (results_ct rfl _ _ gr 49 #[.int .i64 (lo 0), .int .i64 (lo 1), .int .i64 (lo 2), .int .i64 (lo 3), .slice A8 (L.length + 1) c8] (0, 0) _ rfl H10.out.at0 Try.underlying49 rfl (by kernel_rfl) _ rfl) rfl ?_
    exact ⟨A8, c8, by rw [List.length_append]; rfl, by rw [List.length_append]; exact H10.out.r2.drop1.drop1.drop1⟩
end
end Go.Proofs.Ytboomdjkgheonaa.PSeenPlays
