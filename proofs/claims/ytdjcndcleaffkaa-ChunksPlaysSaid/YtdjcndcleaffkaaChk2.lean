/- Pieces that came (package chunks): New, may, Acks. -/
import Derived.Test.YtdjcndcleaffkaaChk1
namespace Go.Proofs.Ytdjcndcleaffkaa.PChunksPlays
open Go.RowKit Go.Proofs.YtdjcndcleaffkaaW.PrintWords Go.Proofs.YtdjcndcleaffkaaW.PrintLast Go.Proofs.YtdjcndcleaffkaaW.PrintMore
open Go.Proofs.YtdjcndcleaffkaaO
attribute [local go_sem] max2_int min2_int max_two min_two max_three min_three max_four min_four
set_option linter.unusedVariables false
set_option linter.unusedSimpArgs false
section
variable {w0 w w' : World} {R : List Asn} {g : Nat} {xs : List ByteArray} {L : List Int}
set_option maxHeartbeats 4000000 in
set_option maxRecDepth 100000 in
theorem RowsNew (h : Own w0 w R) : Calls Try.prog 11 #[] w fun e w' => ∃ g : Nat, e = .returned (.pointer (some ⟨g, 0, none⟩)) ∧ Own w0 w' (RowsN g :: R) := by
  have H := Aside0.mk (h.alloc (.cells #[.slice none 0 0, .pointer none] 58))
  clear h
  go_enter Try.func11, Try.ntmps11
  go_wp2
  go_ret
  exact ⟨_, rfl, H.out⟩
set_option maxHeartbeats 8000000 in
set_option maxRecDepth 100000 in
theorem may_calls (n count : Int) (d : ByteArray) (w : World) (b : Bool) (hb : mayB n count d = b) : Calls Try.prog 25 #[.int .i64 n, .int .i64 count, .string d] w fun e w' => e = .returned (.bool b) ∧ w = w' := by
  have HB := Lib.hid hb
  unfold mayB at hb
  by_cases c1 : count < 1
  · have d1 := decide_eq_true c1
    have HV := Lib.hid (show b = false by rw [← hb]; exact decide_eq_false fun h => by omega)
    clear hb
    go_enter Try.func25, Try.ntmps25
    go_wp2
    go_ret
    exact ⟨by rw [HV.out]; rfl, rfl⟩
  by_cases c2 : count > 512
  · have d1 := decide_eq_false c1
    have d2 := decide_eq_true c2
    have HV := Lib.hid (show b = false by rw [← hb]; exact decide_eq_false fun h => by omega)
    clear hb
    go_enter Try.func25, Try.ntmps25
    go_wp2
    go_ret
    exact ⟨by rw [HV.out]; rfl, rfl⟩
  by_cases c3 : n < 1
  · have d1 := decide_eq_false c1
    have d2 := decide_eq_false c2
    have d3 := decide_eq_true c3
    have HV := Lib.hid (show b = false by rw [← hb]; exact decide_eq_false fun h => by omega)
    clear hb
    go_enter Try.func25, Try.ntmps25
    go_wp2
    go_ret
    exact ⟨by rw [HV.out]; rfl, rfl⟩
  by_cases c4 : n > count
  · have d1 := decide_eq_false c1
    have d2 := decide_eq_false c2
    have d3 := decide_eq_false c3
    have d4 := decide_eq_true c4
    have HV := Lib.hid (show b = false by rw [← hb]; exact decide_eq_false fun h => by omega)
    clear hb
    go_enter Try.func25, Try.ntmps25
    go_wp2
    go_ret
    exact ⟨by rw [HV.out]; rfl, rfl⟩
  have d1 := decide_eq_false c1
  have d2 := decide_eq_false c2
  have d3 := decide_eq_false c3
  have d4 := decide_eq_false c4
  by_cases c5 : n < count
  · have d5 := decide_eq_true c5
    have HV := Lib.hid (show b = decide ((d.size : Int) = 64) by rw [← hb]; exact decide_eq_decide.2 ⟨fun h => by have := h.2.2.2.2.1 c5; omega, fun h => ⟨by omega, by omega, by omega, by omega, fun _ => by omega, fun _ => by omega⟩⟩)
    clear hb
    go_enter Try.func25, Try.ntmps25
    go_wp2
    go_ret
    exact ⟨by rw [HV.out]; first | rfl | (congr 2; done) | (simp; done), rfl⟩
  have d5 := decide_eq_false c5
  by_cases c6 : (d.size : Int) ≤ 64
  · have d6 := decide_eq_true c6
    by_cases c7 : count = 1
    · subst c7
      have HV := Lib.hid (show b = true by rw [← hb]; exact decide_eq_true ⟨by omega, by omega, by omega, by omega, fun _ => by omega, fun _ => ⟨by omega, .inl rfl⟩⟩)
      clear hb
      go_enter Try.func25, Try.ntmps25
      go_wp2
      go_ret
      exact ⟨by rw [HV.out]; rfl, rfl⟩
    · have e7 : (count == 1) = false := beq_eq_false_iff_ne.mpr c7
      by_cases c8 : d.size = 0
      · obtain rfl : d = ⟨#[]⟩ := by
          cases d with
          | mk a => have : a.size = 0 := c8
                    rw [Array.size_eq_zero_iff.1 this]
        have HV := Lib.hid (show b = false by rw [← hb]; exact decide_eq_false fun h => by have := (h.2.2.2.2.2 (by omega)).2; simp at this; omega)
        clear hb
        go_enter Try.func25, Try.ntmps25
        go_wp2
        go_ret
        exact ⟨by rw [HV.out]; rfl, rfl⟩
      · have HV := Lib.hid (show b = true by rw [← hb]; exact decide_eq_true ⟨by omega, by omega, by omega, by omega, fun _ => by omega, fun _ => ⟨by omega, .inr c8⟩⟩)
        have e8 : d.toList.isEmpty = false := by
          rw [ByteArray.toList_eq]
          cases h : d.data.toList with
          | nil => exact absurd (show d.data.size = 0 by rw [← Array.length_toList, h]; rfl) c8
          | cons x l => rfl
        have HN := Lib.hid c8
        clear hb
        go_enter Try.func25, Try.ntmps25
        go_wp2
        go_ret
        exact ⟨by rw [HV.out]; rfl, rfl⟩
  · have d6 := decide_eq_false c6
    have HV := Lib.hid (show b = false by rw [← hb]; exact decide_eq_false fun h => by have := (h.2.2.2.2.2 (by omega)).1; omega)
    clear hb
    go_enter Try.func25, Try.ntmps25
    go_wp2
    go_ret
    exact ⟨by rw [HV.out]; rfl, rfl⟩
end
end Go.Proofs.Ytdjcndcleaffkaa.PChunksPlays
