/- Traces (package trace): Clone, Outs, Items. -/
import Derived.Test.YtglccegihffndaaTrc2
namespace Go.Proofs.Ytglccegihffndaa.PTracePlays
open Go.RowKit Go.Proofs.YtglccegihffndaaW.PrintWords Go.Proofs.YtglccegihffndaaW.PrintLast Go.Proofs.YtglccegihffndaaW.PrintMore
open Go.Proofs.YtglccegihffndaaO
attribute [local go_sem] max2_int min2_int max_two min_two max_three min_three max_four min_four
set_option linter.unusedVariables false
set_option linter.unusedSimpArgs false
section
variable {w0 w w' : World} {R : List Asn} {g : Nat} {ss : List (List TO × List TA)}
theorem infoT : (Try.prog.info? 46).map (fun i => (i.zero, i.size, i.bytes)) = some (some (.agg #[.string ⟨#[]⟩, .int .i64 0, .int .i64 0, .int .i64 0, .int .i64 0, .int .i64 0, .int .i64 0, .int .i64 0, .int .i64 0, .int .i64 0, .int .i64 0, .int .i64 0]), k46.sz, 104) := by kernel_rfl
set_option maxHeartbeats 4000000 in
set_option maxRecDepth 100000 in
theorem cloneT_some (w : World) (a : Addr) (c : Nat) (l : List TO) (hr : Kd.C k46 w (some a) l.length l) (hl : l.length * 104 ≤ 140737488355328) :
    Calls Try.prog 19 #[.slice (some a) l.length c] w fun e w' => ∃ v0_ : Value, e = .returned v0_ ∧ Kd.R k46 46 w' w.heap.size (fun _ => True) v0_ l ∧ Below w.heap.size w w' := by
  have HR := Aside0.mk hr
  clear hr
  have kn := fun (W : World) => Lib.run_eql_slice_nil (P := Try.prog) W 34 46 (some a) l.length c 0 0 Try.underlying34
  go_enter Try.func19, Try.ntmps19
  go_wp2_with (first | ((with_reducible refine gate_dst (N := 5) rfl ?_); refine Kd.R_lit k46 _ 46 ?hg (N := 5) ?hd (xs := ([] : List TO)) (inner := []) (ok := fun _ => True) (okp := fun _ => True) ?hr ?hp (fun _ hk => hk) trivial (Below.refl w.heap.size w) (Nat.le_refl _) (by simp) ?_; (case hd => rfl); (case hg => rfl); (case hr => first | (go_simp; done) | (go_simp; rfl)); (case hp => exact (Reps.none _ _)); intro v1 w1 ho hb hg_ hnew_; clear hg_ hnew_; have HO := Aside0.mk ho; have HB := Aside0.mk hb; clear ho hb) | ((with_reducible refine gate_dst (N := 7) rfl ?_); refine Kd.R_append_rows k46 (w0 := w) w.heap.size rfl (.tmp 5) (.tmp 6) 34 46 (.agg #[.string ⟨#[]⟩, .int .i64 0, .int .i64 0, .int .i64 0, .int .i64 0, .int .i64 0, .int .i64 0, .int .i64 0, .int .i64 0, .int .i64 0, .int .i64 0, .int .i64 0]) 104 rfl Try.underlying34 infoT rfl (by decide) (by omega) v1 [] l _ _ _ (fun _ => True) (fun _ => False) rfl rfl HO.out (Kd.C_below HR.out HB.out) (fun _ _ h => h) (fun _ h => h.elim) (fun _ _ => trivial) HB.out HB.out.size (by simpa using hl) ?_; intro v2 w2 ho2 hb2 _ _))
  refine bodyPost_ret (v := v2) ?_ rfl ⟨v2, rfl, by simpa using ho2, hb2⟩
  simp [results, Try.results19, go_sem]
set_option maxHeartbeats 4000000 in
set_option maxRecDepth 100000 in
theorem cloneT_none (w : World) (c : Nat) (l : List TO) (hr : Kd.C k46 w none l.length l) :
    Calls Try.prog 19 #[.slice none l.length c] w fun e w' => ∃ v0_ : Value, e = .returned v0_ ∧ Kd.R k46 46 w' w.heap.size (fun _ => True) v0_ l ∧ Below w.heap.size w w' := by
  have hl : l = [] := by
    rcases Nat.eq_zero_or_pos l.length with h | h
    · exact List.length_eq_zero_iff.1 h
    · obtain ⟨ad, e, _⟩ := hr.2.2 h
      cases e
  subst hl
  clear hr
  have kn := fun (W : World) => Lib.run_eql_slice_nil (P := Try.prog) W 34 46 none 0 c 0 0 Try.underlying34
  go_enter Try.func19, Try.ntmps19
  go_wp2
  go_ret
  exact ⟨_, rfl, Kd.R_nil _ _ _ _ _, Below.refl _ _⟩
theorem CloneT {A : Option Addr} {c n : Nat} {l : List TO} (h : Own w0 w (Row k46 46 (.slice A n c) l :: R)) (hl : l.length ≤ 1000000000) :
    Calls Try.prog 19 #[.slice A n c] w fun e w' => ∃ A2 c2, e = .returned (.slice A2 l.length c2) ∧ Own w0 w' (Row k46 46 (.slice A2 l.length c2) l :: Row k46 46 (.slice A n c) l :: R) := by
  obtain ⟨A', c', e, hc, hC⟩ := h.row_reads
  cases e
  have hm : Calls Try.prog 19 #[.slice A l.length c] w fun e w' => ∃ v0_ : Value, e = .returned v0_ ∧ Kd.R k46 46 w' w.heap.size (fun _ => True) v0_ l ∧ Below w.heap.size w w' := by
    cases A with
    | none => exact cloneT_none w c l hC
    | some a => exact cloneT_some w a c l hC (by omega)
  refine hm.mono ?_
  rintro e w' ⟨v, he, hr, hb⟩
  obtain ⟨A2, c2, e2⟩ := Kd.R_slice hr
  subst e2
  exact ⟨A2, c2, he, h.row_new hb hr⟩
theorem infoA : (Try.prog.info? 48).map (fun i => (i.zero, i.size, i.bytes)) = some (some (.agg #[.int .i64 0, .int .i64 0, .int .i64 0, .int .u8 0, .string ⟨#[]⟩, .int .i64 0, .int .i64 0, .int .i64 0, .int .i64 0]), k48.sz, 80) := by kernel_rfl
set_option maxHeartbeats 4000000 in
set_option maxRecDepth 100000 in
theorem cloneA_some (w : World) (a : Addr) (c : Nat) (l : List TA) (hr : Kd.C k48 w (some a) l.length l) (hl : l.length * 80 ≤ 140737488355328) :
    Calls Try.prog 20 #[.slice (some a) l.length c] w fun e w' => ∃ v0_ : Value, e = .returned v0_ ∧ Kd.R k48 48 w' w.heap.size (fun _ => True) v0_ l ∧ Below w.heap.size w w' := by
  have HR := Aside0.mk hr
  clear hr
  have kn := fun (W : World) => Lib.run_eql_slice_nil (P := Try.prog) W 36 48 (some a) l.length c 0 0 Try.underlying36
  go_enter Try.func20, Try.ntmps20
  go_wp2_with (first | ((with_reducible refine gate_dst (N := 5) rfl ?_); refine Kd.R_lit k48 _ 48 ?hg (N := 5) ?hd (xs := ([] : List TA)) (inner := []) (ok := fun _ => True) (okp := fun _ => True) ?hr ?hp (fun _ hk => hk) trivial (Below.refl w.heap.size w) (Nat.le_refl _) (by simp) ?_; (case hd => rfl); (case hg => rfl); (case hr => first | (go_simp; done) | (go_simp; rfl)); (case hp => exact (Reps.none _ _)); intro v1 w1 ho hb hg_ hnew_; clear hg_ hnew_; have HO := Aside0.mk ho; have HB := Aside0.mk hb; clear ho hb) | ((with_reducible refine gate_dst (N := 7) rfl ?_); refine Kd.R_append_rows k48 (w0 := w) w.heap.size rfl (.tmp 5) (.tmp 6) 36 48 (.agg #[.int .i64 0, .int .i64 0, .int .i64 0, .int .u8 0, .string ⟨#[]⟩, .int .i64 0, .int .i64 0, .int .i64 0, .int .i64 0]) 80 rfl Try.underlying36 infoA rfl (by decide) (by omega) v1 [] l _ _ _ (fun _ => True) (fun _ => False) rfl rfl HO.out (Kd.C_below HR.out HB.out) (fun _ _ h => h) (fun _ h => h.elim) (fun _ _ => trivial) HB.out HB.out.size (by simpa using hl) ?_; intro v2 w2 ho2 hb2 _ _))
  refine bodyPost_ret (v := v2) ?_ rfl ⟨v2, rfl, by simpa using ho2, hb2⟩
  simp [results, Try.results20, go_sem]
set_option maxHeartbeats 4000000 in
set_option maxRecDepth 100000 in
theorem cloneA_none (w : World) (c : Nat) (l : List TA) (hr : Kd.C k48 w none l.length l) :
    Calls Try.prog 20 #[.slice none l.length c] w fun e w' => ∃ v0_ : Value, e = .returned v0_ ∧ Kd.R k48 48 w' w.heap.size (fun _ => True) v0_ l ∧ Below w.heap.size w w' := by
  have hl : l = [] := by
    rcases Nat.eq_zero_or_pos l.length with h | h
    · exact List.length_eq_zero_iff.1 h
    · obtain ⟨ad, e, _⟩ := hr.2.2 h
      cases e
  subst hl
  clear hr
  have kn := fun (W : World) => Lib.run_eql_slice_nil (P := Try.prog) W 36 48 none 0 c 0 0 Try.underlying36
  go_enter Try.func20, Try.ntmps20
  go_wp2
  go_ret
  exact ⟨_, rfl, Kd.R_nil _ _ _ _ _, Below.refl _ _⟩
theorem CloneA {A : Option Addr} {c n : Nat} {l : List TA} (h : Own w0 w (Row k48 48 (.slice A n c) l :: R)) (hl : l.length ≤ 1000000000) :
    Calls Try.prog 20 #[.slice A n c] w fun e w' => ∃ A2 c2, e = .returned (.slice A2 l.length c2) ∧ Own w0 w' (Row k48 48 (.slice A2 l.length c2) l :: Row k48 48 (.slice A n c) l :: R) := by
  obtain ⟨A', c', e, hc, hC⟩ := h.row_reads
  cases e
  have hm : Calls Try.prog 20 #[.slice A l.length c] w fun e w' => ∃ v0_ : Value, e = .returned v0_ ∧ Kd.R k48 48 w' w.heap.size (fun _ => True) v0_ l ∧ Below w.heap.size w w' := by
    cases A with
    | none => exact cloneA_none w c l hC
    | some a => exact cloneA_some w a c l hC (by omega)
  refine hm.mono ?_
  rintro e w' ⟨v, he, hr, hb⟩
  obtain ⟨A2, c2, e2⟩ := Kd.R_slice hr
  subst e2
  exact ⟨A2, c2, he, h.row_new hb hr⟩
end
end Go.Proofs.Ytglccegihffndaa.PTracePlays
