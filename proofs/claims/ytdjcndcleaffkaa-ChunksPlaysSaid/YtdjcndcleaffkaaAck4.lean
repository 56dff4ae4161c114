/- Numbers that came (package acks): Missing. -/
import Derived.Test.YtdjcndcleaffkaaAck3
namespace Go.Proofs.Ytdjcndcleaffkaa.PChunksPlays
open Go.RowKit Go.Proofs.YtdjcndcleaffkaaW.PrintWords Go.Proofs.YtdjcndcleaffkaaW.PrintLast Go.Proofs.YtdjcndcleaffkaaW.PrintMore
open Go.Proofs.YtdjcndcleaffkaaO
attribute [local go_sem] max2_int min2_int max_two min_two max_three min_three max_four min_four
set_option linter.unusedVariables false
set_option linter.unusedSimpArgs false
section
variable {w0 w w' : World} {R : List Asn} {g : Nat} {L : List Int}
/-- The numbers from 1 to k that did not come. -/
def missL (L : List Int) : Nat → List Int
  | 0 => []
  | k + 1 => if ((k + 1 : Nat) : Int) ∈ L then missL L k else missL L k ++ [((k + 1 : Nat) : Int)]
theorem missL_low {low : Nat} (h : LowIs L low) : ∀ k, k ≤ low → missL L k = []
  | 0, _ => rfl
  | k + 1, hk => by
    rw [missL, if_pos (h.1 _ (by omega) (by omega))]
    exact missL_low h k (by omega)
theorem missL_len (L : List Int) : ∀ k, (missL L k).length ≤ k
  | 0 => Nat.le_refl _
  | k + 1 => by
    have := missL_len L k
    rw [missL]
    split
    · omega
    · simp; omega
set_option maxHeartbeats 4000000 in
theorem AcksSet_nil (w : World) : Calls Try.prog 22 #[.pointer none] w fun e w' => e = .returned (.slice none 0 0) ∧ w = w' := by
  go_enter Try.func22, Try.ntmps22
  go_wp2
  go_ret
  exact ⟨rfl, rfl⟩
end
end Go.Proofs.Ytdjcndcleaffkaa.PChunksPlays
