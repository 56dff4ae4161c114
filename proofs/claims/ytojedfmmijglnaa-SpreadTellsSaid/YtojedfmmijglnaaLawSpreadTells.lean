-- Written by a program of this session's (wip/gprint.py, gpatch.py): the row of the law meterlaw18_SpreadTells, out of its Pure and the walk.
import Derived.Test.YtojedfmmijglnaaRows
import Derived.Test.YtojedfmmijglnaaPSpreadTellsx7
import Derived.Test.YtojedfmmijglnaaPureSpreadTells
import Derived.Test.YtojedfmmijglnaaVGOpen
import Derived.WalkKit
import Derived.ProofKit
import Derived.OpenShut
import Derived.ShutString
import Derived.ChangeOld
import Derived.Below
import Derived.SizedLaws
import Derived.WideShapes
import Derived.Test.YtojedfmmijglnaaVSized
namespace Go.Proofs.Ytojedfmmijglnaa.spreadTells
open Go.ChangeShapes Go.WideShapes Go.ChangeAt Go.RowKit Go.Proofs.Ytojedfmmijglnaa.PSpreadTells Go.Proofs.YtojedfmmijglnaaG Go.Proofs.YtojedfmmijglnaaW.PrintWords
open Go.ChangeMaps (open_string shut_string)
set_option linter.unusedVariables false
theorem own : ownKnob Try.prog.godebug = none := by kernel_rfl
theorem laidOut : laidOutB Try.prog = true := by kernel_rfl
theorem open_T24 : Opens Try.prog 24 k24 Q24 := opens_iso (fun x : S24 => (x.f0, x.f1, x.f2)) (fun p => (⟨p.1, p.2.1, p.2.2⟩ : S24)) (fun _ => rfl) (opens_struct Try.underlying24 (by kernel_rfl) (opensF_cons (by rfl) (by kernel_rfl) (opens_int Try.underlying3) (by rfl) (opensF_cons (by rfl) (by kernel_rfl) (opens_int Try.underlying3) (by rfl) (opensF_one (by rfl) (by kernel_rfl) (opens_slice Try.underlying22 (by kernel_rfl) (opens_int Try.underlying3))))))
theorem open_T39 : Opens Try.prog 39 k39 Q39 := opens_iso (fun x : S39 => (x.f0, x.f1)) (fun p => (⟨p.1, p.2⟩ : S39)) (fun _ => rfl) (opens_struct Try.underlying39 (by kernel_rfl) (opensF_cons (by rfl) (by kernel_rfl) (opens_int Try.underlying3) (by rfl) (opensF_one (by rfl) (by kernel_rfl) (opens_int Try.underlying3))))
set_option maxRecDepth 100000 in
theorem lifted (os : Os) (started : os.Started) (H : Type) (enc : TypeId × Value → H) :
    ReturnsInHanded {} Try.checked os 5 .any (Rows.spreadTellsSpec.pre6 enc Try.prog Try.f5 Rows.spreadTellsRow.domain false) (Rows.spreadTellsSpec.post enc Try.prog Try.f5 false true false false) := by
  refine returnsInHanded_of_change_sized (C := Try.checked) own started (by kernel_rfl) Try.func5
    (ChangeSpec.witness6 (enc := enc) (C := Try.checked) false ⟨#[], #[.agg #[.int .i64 0, .int .i64 0, .slice none 0 0], .agg #[.int .i64 0, .int .i64 0, .slice none 0 0], .int .i64 0, .slice none 0 0], []⟩ 8 (by kernel_rfl) (by kernel_rfl) (by kernel_rfl) (by kernel_rfl)) ?_
  intro W base args ds gs before hval0 hW hcnd hsz0 _
  have hsz : (DataW.weightsEach Try.prog (Try.f5.params.toList ++ Rows.spreadTellsSpec.plain.varTypes Try.prog) (ds ++ gs)).all (· ≤ reachBytes) = true := hsz0
  have hval : ∀ (j : Nat) t v, Try.f5.params[j]? = some t → args[j]? = some v → Value.okWide Try.prog W .any base t v := hval0
  have hW' := hW
  obtain ⟨p, q, hA0, hV, rfl, hfz, hnd⟩ := hW
  have hA : DataW.TrodAll enc Try.prog W 0 (fun _ => true) true Try.f5.params.toList args.toList ds p := hA0
  rw [Try.params5] at hA hval hsz
  obtain ⟨v0, vs0, d0, ds0, p0, q0, hargs, rfl, rfl, h0, r0⟩ := trodAll_cons hA
  obtain ⟨v1, vs1, d1, ds1, p1, q1, rfl, rfl, rfl, h1, r1⟩ := trodAll_cons r0
  obtain ⟨v2, vs2, d2, ds2, p2, q2, rfl, rfl, rfl, h2, r2⟩ := trodAll_cons r1
  obtain ⟨v3, vs3, d3, ds3, p3, q3, rfl, rfl, rfl, h3, r3⟩ := trodAll_cons r2
  obtain ⟨rfl, rfl, rfl⟩ := trodAll_nil r3
  obtain rfl : args = #[v0, v1, v2, v3] := by cases args; simp_all
  obtain ⟨rfl, rfl⟩ := trodVars_none hV
  have k0 := h0
  have lt0 : ∀ x ∈ p0, x.block < W.heap.size := by obtain ⟨m, hm⟩ := k0; exact DataW.trod_lt m _ _ _ hm
  obtain ⟨cs0, rfl, _⟩ := okWide_struct Try.underlying24 (hval 0 24 v0 rfl rfl)
  obtain ⟨x0, K0, q0⟩ : ∃ x, (k24).K W x (Value.agg cs0).cells.toList ∧ Q24 x := by obtain ⟨fuel, hf⟩ := h0; exact open_T24 _ _ _ _ _ _ _ _ _ hf
  obtain ⟨A0_2, c0_2, e0, hc0_2, hr0_2⟩ := k24_open K0
  obtain rfl : cs0 = #[.int .i64 x0.f0, .int .i64 x0.f1, .slice A0_2 x0.f2.length c0_2] := by apply Array.toList_inj.1; simpa [Value.cells] using e0
  have k1 := h1
  have lt1 : ∀ x ∈ p1, x.block < W.heap.size := by obtain ⟨m, hm⟩ := k1; exact DataW.trod_lt m _ _ _ hm
  obtain ⟨cs1, rfl, _⟩ := okWide_struct Try.underlying24 (hval 1 24 v1 rfl rfl)
  obtain ⟨x1, K1, q1⟩ : ∃ x, (k24).K W x (Value.agg cs1).cells.toList ∧ Q24 x := by obtain ⟨fuel, hf⟩ := h1; exact open_T24 _ _ _ _ _ _ _ _ _ hf
  obtain ⟨A1_2, c1_2, e1, hc1_2, hr1_2⟩ := k24_open K1
  obtain rfl : cs1 = #[.int .i64 x1.f0, .int .i64 x1.f1, .slice A1_2 x1.f2.length c1_2] := by apply Array.toList_inj.1; simpa [Value.cells] using e1
  obtain ⟨a2, rfl, rfl, rfl, w2⟩ := open_int Try.underlying3 (hval 2 3 v2 rfl rfl) h2
  have k3 := h3
  have lt3 : ∀ x ∈ p3, x.block < W.heap.size := by obtain ⟨m, hm⟩ := k3; exact DataW.trod_lt m _ _ _ hm
  obtain ⟨a3, len3, cap3, rfl⟩ := okWide_slice Try.underlying32 (hval 3 32 v3 rfl rfl)
  obtain ⟨x3, K3, q3⟩ : ∃ x, ((Kd.slice 39 k39)).K W x (Value.slice a3 len3 cap3).cells.toList ∧ ((x).length ≤ 9223372036854775807 ∧ ∀ x0_ ∈ x, Q39 x0_) := by obtain ⟨fuel, hf⟩ := h3; exact (opens_slice Try.underlying32 (by kernel_rfl) open_T39) _ _ _ _ _ _ _ _ _ hf
  obtain ⟨A3, c3, e3, hc3, hr3⟩ := K3
  obtain ⟨rfl, rfl, rfl⟩ : a3 = A3 ∧ len3 = x3.length ∧ cap3 = c3 := by simpa [Value.cells] using e3
  clear hA0 hval0 hsz0 hsz
  refine (PSpreadTells.meterlaw18_SpreadTells.walk Pure.SpreadTells x0.f0 x0.f1 A0_2 c0_2 x0.f2 x1.f0 x1.f1 A1_2 c1_2 x1.f2 a2 a3 cap3 x3 W hr0_2 hc0_2 hr1_2 hc1_2 hr3 hc3 q0.1 q0.2.1 q0.2.2 q1.1 q1.2.1 q1.2.2 w2 q3).mono fun e W' ⟨he, bel⟩ => ?_
  subst he
  exact ⟨_, rfl, _, _, _, [], _, [], hW', trodAll_mk1 (shut_bool Try.underlying4 _), (trodAll_cons_mk (Below.trod laidOut (by kernel_rfl) (of_decide_eq_true (by kernel_rfl)) k0 bel lt0) (trodAll_cons_mk (Below.trod laidOut (by kernel_rfl) (of_decide_eq_true (by kernel_rfl)) k1 bel lt1) (trodAll_cons_mk (shut_int Try.underlying3 w2) (trodAll_cons_mk (Below.trod laidOut (by kernel_rfl) (of_decide_eq_true (by kernel_rfl)) k3 bel lt3) trodAll_mk0)))), rfl, bel.frame _, fun h => by cases h⟩
theorem over : Rows.spreadTellsRow.holds Try.pinned (OpenSpec.ofChange Rows.spreadTellsSpec) :=
  OpenClaim.holds_of_wide 5 Try.f5 rfl rfl rfl rfl rfl rfl rfl ⟨rfl, rfl, rfl, rfl, rfl⟩ rfl rfl rfl rfl rfl (by kernel_rfl) Try.func5 (by kernel_rfl)
    (of_decide_eq_true (by kernel_rfl)) (by unfold Func.isWrapper; first | (rw [if_pos (by decide +kernel)]; kernel_rfl) | (rw [if_neg (by decide +kernel)]; exact ⟨rfl, rfl⟩))
    (fun os started H enc _ => lifted os started H enc)
theorem proved : Rows.SpreadTellsSaid := over
#print axioms proved
end Go.Proofs.Ytojedfmmijglnaa.spreadTells
namespace Go.Proofs.Ytojedfmmijglnaa
/-- The row, under a short name, for the claim. -/
theorem spreadTells_holds : Rows.SpreadTellsSaid := spreadTells.proved
end Go.Proofs.Ytojedfmmijglnaa
