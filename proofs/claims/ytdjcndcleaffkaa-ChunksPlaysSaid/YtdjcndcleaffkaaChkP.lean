/- What Put turns, in plain words. -/
import Derived.Test.YtdjcndcleaffkaaChkC
namespace Go.Proofs.Ytdjcndcleaffkaa.PChunksPlays
open Go.RowKit Go.Proofs.YtdjcndcleaffkaaW.PrintWords Go.Proofs.YtdjcndcleaffkaaW.PrintLast Go.Proofs.YtdjcndcleaffkaaW.PrintMore
open Go.Proofs.YtdjcndcleaffkaaO
attribute [local go_sem] max2_int min2_int max_two min_two max_three min_three max_four min_four
set_option linter.unusedVariables false
set_option linter.unusedSimpArgs false
theorem count_low {L M : List Int} {low : Nat} (hR : Right L) (h1 : LowIs L low) (h2 : SetIs L low M) : L.length = low + M.length := by
  have hU : ((List.range low).map fun k : Nat => ((k : Int) + 1)).length = low := by simp
  have hmem : ∀ x, x ∈ ((List.range low).map fun k : Nat => ((k : Int) + 1)) ↔ 1 ≤ x ∧ x ≤ (low : Int) := fun x => by
    rw [List.mem_map]
    constructor
    · rintro ⟨k, hk, rfl⟩
      have := List.mem_range.1 hk
      omega
    · intro h
      exact ⟨(x - 1).toNat, List.mem_range.2 (by omega), by omega⟩
  have hnd : (((List.range low).map fun k : Nat => ((k : Int) + 1)) ++ M).Nodup := by
    rw [List.nodup_append]
    refine ⟨?_, asc_nodup h2.1, fun a ha b hb e => ?_⟩
    · rw [List.nodup_iff_pairwise_ne, List.pairwise_map]
      exact (List.nodup_range (n := low)).imp fun h e => h (by omega)
    · have := (hmem a).1 ha
      have := (h2.2 b).1 hb
      omega
  have a1 := sub_len _ L hnd fun x hx => by
    rcases List.mem_append.1 hx with hx | hx
    · have := (hmem x).1 hx
      exact h1.1 x this.1 this.2
    · exact ((h2.2 x).1 hx).1
  have a2 := sub_len L (((List.range low).map fun k : Nat => ((k : Int) + 1)) ++ M) hR.1 fun x hx => by
    by_cases q : x ≤ low
    · exact List.mem_append_left _ ((hmem x).2 ⟨(hR.2 x hx).1, q⟩)
    · exact List.mem_append_right _ ((h2.2 x).2 ⟨hx, by omega⟩)
  rw [List.length_append, hU] at a1 a2
  omega
/-- What is refused, or came already, changes nothing. -/
theorem put_no (st : Option (List ByteArray × List Int)) (n count : Int) (d : ByteArray) (h : (putR st n count d).1 = false) : (putR st n count d).2.2 = st := by
  unfold putR at h ⊢
  by_cases hm : mayB n count d = false
  · rw [if_pos hm]
  · rw [if_neg hm] at h ⊢
    have hmb := of_decide_eq_true (show mayB n count d = true by simpa using hm)
    cases st with
    | none => cases h
    | some p =>
      obtain ⟨xs, L⟩ := p
      simp only at h ⊢
      by_cases q : xs.length ≠ count.toNat ∨ (n ∈ L ∧ xs[(n - 1).toNat]? ≠ some d)
      · rw [if_pos q]
      · rw [if_neg q] at h ⊢
        have hin : n ∈ L := by
          apply Classical.byContradiction
          intro hn
          have : freshB L n = true := decide_eq_true ⟨by omega, by omega, hn⟩
          rw [this] at h
          cases h
        have hx : xs[(n - 1).toNat]? = some d := by
          apply Classical.byContradiction
          intro hn
          exact q (.inr ⟨hin, hn⟩)
        obtain ⟨hi, he⟩ := List.getElem?_eq_some_iff.1 hx
        have e1 : xs.set (n - 1).toNat d = xs := by rw [← he]; exact List.set_getElem_self hi
        show some (xs.set (n - 1).toNat d, addL L n) = some (xs, L)
        rw [e1, addL_mem_of hin]
end Go.Proofs.Ytdjcndcleaffkaa.PChunksPlays
