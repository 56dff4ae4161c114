/- The document's writing of acts (meterref27): Right, first part. -/
import Derived.Test.YtapkoiaeghjpdaaRefX
import Derived.Deep.RegionHeld3
import Derived.Deep.RegionWith
namespace Go.Proofs.Ytapkoiaeghjpdaa.PScriptWrites
open Go.RowKit Go.Proofs.YtapkoiaeghjpdaaW.PrintWords Go.Proofs.YtapkoiaeghjpdaaW.PrintLast Go.Proofs.YtapkoiaeghjpdaaW.PrintMore
open Go.Proofs.YtapkoiaeghjpdaaO
attribute [local go_sem] max2_int min2_int max_two min_two max_three min_three max_four min_four
set_option linter.unusedVariables false
set_option linter.unusedSimpArgs false
section
variable {w0 w w' : World} {R : List Asn}
set_option maxHeartbeats 4000000 in
set_option maxRecDepth 100000 in
theorem right_c (h : Own w0 w R) (f0 f1 f2 : Int) (f3 : ByteArray) (f4 f5 : Int) (hk1 : 1 ≤ f0) (hk8 : f0 ≤ 8) (o : ActS) (ho : onlyA ⟨f0, f1, f2, f3, f4, f5⟩ = o) (he : (f0 == o.f0 && (f1 == o.f1 && (f2 == o.f2 && (f3.toList == o.f3.toList && (f4 == o.f4 && (f5 == o.f5)))))) = false) :
    Calls Try.prog 18 #[.agg #[.int .u8 f0, .int .i64 f1, .int .i64 f2, .string f3, .int .i64 f4, .int .i64 f5]] w fun e w' => e = .returned (.bool false) ∧ Own w0 w' R := by
  have k1 : decide (f0 ≥ 1) = true := decide_eq_true (by omega)
  have k1' : decide (1 ≤ f0) = true := decide_eq_true (by omega)
  have k2 : decide (f0 ≤ 8) = true := decide_eq_true (by omega)
  have kEq : ∀ (d : Nat) (w : World), (Op.equalIn (d + 2) 33 (.agg #[.int .u8 f0, .int .i64 f1, .int .i64 f2, .string f3, .int .i64 f4, .int .i64 f5]) (.agg #[.int .u8 o.f0, .int .i64 o.f1, .int .i64 o.f2, .string o.f3, .int .i64 o.f4, .int .i64 o.f5])).run Try.prog w = .ok false w := fun d w => (eqA33 d w _ _ _ _ _ _ _ _ _ _ _ _).trans (by rw [he])
  have HO := Aside0.mk ho
  clear ho he
  have h2 := h.alloc (.cells #[.int .u8 f0, .int .i64 f1, .int .i64 f2, .string f3, .int .i64 f4, .int .i64 f5] 33 (0, 0))
  go_enter Try.func18, Try.ntmps18
  go_wp2
  obtain ⟨W, hW⟩ : ∃ W, W = w.alloc (.cells #[.int .u8 f0, .int .i64 f1, .int .i64 f2, .string f3, .int .i64 f4, .int .i64 f5] 33 (0, 0)) := ⟨_, rfl⟩
  rw [← hW] at h2 ⊢
  obtain ⟨g, hg⟩ : ∃ g, w.heap.size = g := ⟨_, rfl⟩
  rw [hg] at h2 ⊢
  clear hW hg h
  have xa0 := (blk_cell h2.at0 0).trans (rfl : (_ : Option Value) = some (Value.int .u8 f0)); have xa1 := (blk_cell h2.at0 1).trans (rfl : (_ : Option Value) = some (Value.int .i64 f1)); have xa2 := (blk_cell h2.at0 2).trans (rfl : (_ : Option Value) = some (Value.int .i64 f2)); have xa3 := (blk_cell h2.at0 3).trans (rfl : (_ : Option Value) = some (Value.string f3)); have xa4 := (blk_cell h2.at0 4).trans (rfl : (_ : Option Value) = some (Value.int .i64 f4)); have xa5 := (blk_cell h2.at0 5).trans (rfl : (_ : Option Value) = some (Value.int .i64 f5))
  have h3 := h2.drew
  have xd0 := (blk_cell h3.at0 0).trans (rfl : (_ : Option Value) = some (Value.int .u8 f0)); have xd1 := (blk_cell h3.at0 1).trans (rfl : (_ : Option Value) = some (Value.int .i64 f1)); have xd2 := (blk_cell h3.at0 2).trans (rfl : (_ : Option Value) = some (Value.int .i64 f2)); have xd3 := (blk_cell h3.at0 3).trans (rfl : (_ : Option Value) = some (Value.string f3)); have xd4 := (blk_cell h3.at0 4).trans (rfl : (_ : Option Value) = some (Value.int .i64 f4)); have xd5 := (blk_cell h3.at0 5).trans (rfl : (_ : Option Value) = some (Value.int .i64 f5))
  have H := Aside0.mk h2
  clear h2 h3
  first | go_region_with (go_at_call 23; (with_reducible refine (OnlyF H.out.drew f0 f1 f2 f3 f4 f5 o HO.out).mono ?_); rintro e w5 ⟨rfl, h⟩; have xe0 := (blk_cell h.at0 0).trans (rfl : (_ : Option Value) = some (Value.int .u8 f0)); have xe1 := (blk_cell h.at0 1).trans (rfl : (_ : Option Value) = some (Value.int .i64 f1)); have xe2 := (blk_cell h.at0 2).trans (rfl : (_ : Option Value) = some (Value.int .i64 f2)); have xe3 := (blk_cell h.at0 3).trans (rfl : (_ : Option Value) = some (Value.string f3)); have xe4 := (blk_cell h.at0 4).trans (rfl : (_ : Option Value) = some (Value.int .i64 f4)); have xe5 := (blk_cell h.at0 5).trans (rfl : (_ : Option Value) = some (Value.int .i64 f5)); have H5 := Aside0.mk h; clear h) | fail
  all_goals go_wp2
  all_goals go_ret
  all_goals exact ⟨rfl, H5.out.tail⟩
set_option maxHeartbeats 4000000 in
set_option maxRecDepth 100000 in
theorem right_d (h : Own w0 w R) (f0 f1 f2 : Int) (f3 : ByteArray) (f4 f5 : Int) (hk1 : 1 ≤ f0) (hk8 : f0 ≤ 8) (o : ActS) (ho : onlyA ⟨f0, f1, f2, f3, f4, f5⟩ = o) (he : (f0 == o.f0 && (f1 == o.f1 && (f2 == o.f2 && (f3.toList == o.f3.toList && (f4 == o.f4 && (f5 == o.f5)))))) = true) (hx : f1 < 0) :
    Calls Try.prog 18 #[.agg #[.int .u8 f0, .int .i64 f1, .int .i64 f2, .string f3, .int .i64 f4, .int .i64 f5]] w fun e w' => e = .returned (.bool false) ∧ Own w0 w' R := by
  have k1 : decide (f0 ≥ 1) = true := decide_eq_true (by omega)
  have k1' : decide (1 ≤ f0) = true := decide_eq_true (by omega)
  have k2 : decide (f0 ≤ 8) = true := decide_eq_true (by omega)
  have kEq : ∀ (d : Nat) (w : World), (Op.equalIn (d + 2) 33 (.agg #[.int .u8 f0, .int .i64 f1, .int .i64 f2, .string f3, .int .i64 f4, .int .i64 f5]) (.agg #[.int .u8 o.f0, .int .i64 o.f1, .int .i64 o.f2, .string o.f3, .int .i64 o.f4, .int .i64 o.f5])).run Try.prog w = .ok true w := fun d w => (eqA33 d w _ _ _ _ _ _ _ _ _ _ _ _).trans (by rw [he])
  have HO := Aside0.mk ho
  clear ho he
  have a0 : decide (f1 ≥ 0) = false := decide_eq_false (by omega)
  have a0' : decide (0 ≤ f1) = false := decide_eq_false (by omega)
  have h2 := h.alloc (.cells #[.int .u8 f0, .int .i64 f1, .int .i64 f2, .string f3, .int .i64 f4, .int .i64 f5] 33 (0, 0))
  go_enter Try.func18, Try.ntmps18
  go_wp2
  obtain ⟨W, hW⟩ : ∃ W, W = w.alloc (.cells #[.int .u8 f0, .int .i64 f1, .int .i64 f2, .string f3, .int .i64 f4, .int .i64 f5] 33 (0, 0)) := ⟨_, rfl⟩
  rw [← hW] at h2 ⊢
  obtain ⟨g, hg⟩ : ∃ g, w.heap.size = g := ⟨_, rfl⟩
  rw [hg] at h2 ⊢
  clear hW hg h
  have xa0 := (blk_cell h2.at0 0).trans (rfl : (_ : Option Value) = some (Value.int .u8 f0)); have xa1 := (blk_cell h2.at0 1).trans (rfl : (_ : Option Value) = some (Value.int .i64 f1)); have xa2 := (blk_cell h2.at0 2).trans (rfl : (_ : Option Value) = some (Value.int .i64 f2)); have xa3 := (blk_cell h2.at0 3).trans (rfl : (_ : Option Value) = some (Value.string f3)); have xa4 := (blk_cell h2.at0 4).trans (rfl : (_ : Option Value) = some (Value.int .i64 f4)); have xa5 := (blk_cell h2.at0 5).trans (rfl : (_ : Option Value) = some (Value.int .i64 f5))
  have h3 := h2.drew
  have xd0 := (blk_cell h3.at0 0).trans (rfl : (_ : Option Value) = some (Value.int .u8 f0)); have xd1 := (blk_cell h3.at0 1).trans (rfl : (_ : Option Value) = some (Value.int .i64 f1)); have xd2 := (blk_cell h3.at0 2).trans (rfl : (_ : Option Value) = some (Value.int .i64 f2)); have xd3 := (blk_cell h3.at0 3).trans (rfl : (_ : Option Value) = some (Value.string f3)); have xd4 := (blk_cell h3.at0 4).trans (rfl : (_ : Option Value) = some (Value.int .i64 f4)); have xd5 := (blk_cell h3.at0 5).trans (rfl : (_ : Option Value) = some (Value.int .i64 f5))
  have H := Aside0.mk h2
  clear h2 h3
  first | go_region_with (go_at_call 23; (with_reducible refine (OnlyF H.out.drew f0 f1 f2 f3 f4 f5 o HO.out).mono ?_); rintro e w5 ⟨rfl, h⟩; have xe0 := (blk_cell h.at0 0).trans (rfl : (_ : Option Value) = some (Value.int .u8 f0)); have xe1 := (blk_cell h.at0 1).trans (rfl : (_ : Option Value) = some (Value.int .i64 f1)); have xe2 := (blk_cell h.at0 2).trans (rfl : (_ : Option Value) = some (Value.int .i64 f2)); have xe3 := (blk_cell h.at0 3).trans (rfl : (_ : Option Value) = some (Value.string f3)); have xe4 := (blk_cell h.at0 4).trans (rfl : (_ : Option Value) = some (Value.int .i64 f4)); have xe5 := (blk_cell h.at0 5).trans (rfl : (_ : Option Value) = some (Value.int .i64 f5)); have H5 := Aside0.mk h; clear h) | fail
  all_goals go_wp2
  all_goals go_ret
  all_goals exact ⟨rfl, H5.out.tail⟩
set_option maxHeartbeats 4000000 in
set_option maxRecDepth 100000 in
theorem right_e (h : Own w0 w R) (f0 f1 f2 : Int) (f3 : ByteArray) (f4 f5 : Int) (hk1 : 1 ≤ f0) (hk8 : f0 ≤ 8) (o : ActS) (ho : onlyA ⟨f0, f1, f2, f3, f4, f5⟩ = o) (he : (f0 == o.f0 && (f1 == o.f1 && (f2 == o.f2 && (f3.toList == o.f3.toList && (f4 == o.f4 && (f5 == o.f5)))))) = true) (hx : 0 ≤ f1) (hy : 2147483647 < f1) :
    Calls Try.prog 18 #[.agg #[.int .u8 f0, .int .i64 f1, .int .i64 f2, .string f3, .int .i64 f4, .int .i64 f5]] w fun e w' => e = .returned (.bool false) ∧ Own w0 w' R := by
  have k1 : decide (f0 ≥ 1) = true := decide_eq_true (by omega)
  have k1' : decide (1 ≤ f0) = true := decide_eq_true (by omega)
  have k2 : decide (f0 ≤ 8) = true := decide_eq_true (by omega)
  have kEq : ∀ (d : Nat) (w : World), (Op.equalIn (d + 2) 33 (.agg #[.int .u8 f0, .int .i64 f1, .int .i64 f2, .string f3, .int .i64 f4, .int .i64 f5]) (.agg #[.int .u8 o.f0, .int .i64 o.f1, .int .i64 o.f2, .string o.f3, .int .i64 o.f4, .int .i64 o.f5])).run Try.prog w = .ok true w := fun d w => (eqA33 d w _ _ _ _ _ _ _ _ _ _ _ _).trans (by rw [he])
  have HO := Aside0.mk ho
  clear ho he
  have a0 : decide (f1 ≥ 0) = true := decide_eq_true (by omega)
  have a0' : decide (0 ≤ f1) = true := decide_eq_true (by omega)
  have a1 : decide (f1 ≤ 2147483647) = false := decide_eq_false (by omega)
  have h2 := h.alloc (.cells #[.int .u8 f0, .int .i64 f1, .int .i64 f2, .string f3, .int .i64 f4, .int .i64 f5] 33 (0, 0))
  go_enter Try.func18, Try.ntmps18
  go_wp2
  obtain ⟨W, hW⟩ : ∃ W, W = w.alloc (.cells #[.int .u8 f0, .int .i64 f1, .int .i64 f2, .string f3, .int .i64 f4, .int .i64 f5] 33 (0, 0)) := ⟨_, rfl⟩
  rw [← hW] at h2 ⊢
  obtain ⟨g, hg⟩ : ∃ g, w.heap.size = g := ⟨_, rfl⟩
  rw [hg] at h2 ⊢
  clear hW hg h
  have xa0 := (blk_cell h2.at0 0).trans (rfl : (_ : Option Value) = some (Value.int .u8 f0)); have xa1 := (blk_cell h2.at0 1).trans (rfl : (_ : Option Value) = some (Value.int .i64 f1)); have xa2 := (blk_cell h2.at0 2).trans (rfl : (_ : Option Value) = some (Value.int .i64 f2)); have xa3 := (blk_cell h2.at0 3).trans (rfl : (_ : Option Value) = some (Value.string f3)); have xa4 := (blk_cell h2.at0 4).trans (rfl : (_ : Option Value) = some (Value.int .i64 f4)); have xa5 := (blk_cell h2.at0 5).trans (rfl : (_ : Option Value) = some (Value.int .i64 f5))
  have h3 := h2.drew
  have xd0 := (blk_cell h3.at0 0).trans (rfl : (_ : Option Value) = some (Value.int .u8 f0)); have xd1 := (blk_cell h3.at0 1).trans (rfl : (_ : Option Value) = some (Value.int .i64 f1)); have xd2 := (blk_cell h3.at0 2).trans (rfl : (_ : Option Value) = some (Value.int .i64 f2)); have xd3 := (blk_cell h3.at0 3).trans (rfl : (_ : Option Value) = some (Value.string f3)); have xd4 := (blk_cell h3.at0 4).trans (rfl : (_ : Option Value) = some (Value.int .i64 f4)); have xd5 := (blk_cell h3.at0 5).trans (rfl : (_ : Option Value) = some (Value.int .i64 f5))
  have H := Aside0.mk h2
  clear h2 h3
  first | go_region_with (go_at_call 23; (with_reducible refine (OnlyF H.out.drew f0 f1 f2 f3 f4 f5 o HO.out).mono ?_); rintro e w5 ⟨rfl, h⟩; have xe0 := (blk_cell h.at0 0).trans (rfl : (_ : Option Value) = some (Value.int .u8 f0)); have xe1 := (blk_cell h.at0 1).trans (rfl : (_ : Option Value) = some (Value.int .i64 f1)); have xe2 := (blk_cell h.at0 2).trans (rfl : (_ : Option Value) = some (Value.int .i64 f2)); have xe3 := (blk_cell h.at0 3).trans (rfl : (_ : Option Value) = some (Value.string f3)); have xe4 := (blk_cell h.at0 4).trans (rfl : (_ : Option Value) = some (Value.int .i64 f4)); have xe5 := (blk_cell h.at0 5).trans (rfl : (_ : Option Value) = some (Value.int .i64 f5)); have H5 := Aside0.mk h; clear h) | fail
  all_goals go_wp2
  all_goals go_ret
  all_goals exact ⟨rfl, H5.out.tail⟩
end
end Go.Proofs.Ytapkoiaeghjpdaa.PScriptWrites
