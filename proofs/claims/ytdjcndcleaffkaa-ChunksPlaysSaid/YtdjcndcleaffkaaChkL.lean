/- The laws' helper awake. -/
import Derived.Test.YtdjcndcleaffkaaChk6
namespace Go.Proofs.Ytdjcndcleaffkaa.PChunksPlays
open Go.RowKit Go.Proofs.YtdjcndcleaffkaaW.PrintWords Go.Proofs.YtdjcndcleaffkaaW.PrintLast Go.Proofs.YtdjcndcleaffkaaW.PrintMore
open Go.Proofs.YtdjcndcleaffkaaO
attribute [local go_sem] max2_int min2_int max_two min_two max_three min_three max_four min_four
set_option linter.unusedVariables false
set_option linter.unusedSimpArgs false
theorem joinB_two (a b : ByteArray) : joinB [a, b] = a ++ b := by
  apply ByteArray.ext
  apply Array.toList_inj.1
  rw [joinB, List.map_cons, List.map_cons, List.map_nil, Lib.join_cons, Lib.joinTail]
  simp
/-- 64 bytes of nothing. -/
def z64 : ByteArray := strOfNums (List.replicate 64 0)
theorem z64_size : z64.size = 64 := by decide
theorem put1 : putR none 2 2 ⟨#[120]⟩ = (true, 0, some ([⟨#[]⟩, ⟨#[120]⟩], [2])) := rfl
theorem put2 : putR (some ([⟨#[]⟩, ⟨#[120]⟩], [2])) 1 2 z64 = (true, 0, some ([z64, ⟨#[120]⟩], [2, 1])) := by
  have hm : mayB 1 2 z64 = true := decide_eq_true ⟨by omega, by omega, by omega, by omega, fun _ => z64_size, fun h => by omega⟩
  unfold putR
  rw [if_neg (by rw [hm]; decide)]
  show (if _ then _ else _) = _
  rw [if_neg (by rintro (q | q); exact q rfl; exact absurd q.1 (by decide))]
  rfl
theorem low20 : LowIs [2] 0 := ⟨fun i a b => absurd a (by omega), by simp⟩
theorem low21 : LowIs [2, 1] 2 := ⟨fun i a b => by simp; omega, by simp⟩
set_option maxHeartbeats 8000000 in
set_option maxRecDepth 100000 in
theorem awake_calls (w : World) : Calls Try.prog 8 #[] w fun e w' => e = .returned (.bool true) ∧ Below w.heap.size w w' := by
  have H0 := Aside0.mk (Own.nil w)
  have hmk : ∀ W : World, (Instr.makeSlice 42 (.int .i64 64) (.int .i64 64)).run Try.prog W = .ok (.slice (some ⟨W.heap.size, 0, none⟩) 64 64) (W.alloc (.cells (madeCells #[.int .u8 0] 64) 5)) := print_make_of (P := Try.prog) 42 5 (.int .u8 0) 1 Try.underlying42 (by kernel_rfl) rfl (by decide) 64 (by omega)
  have hcv : ∀ v : World, (convert 42 9 (.slice (some ⟨v.heap.size, 0, none⟩) 64 64)).run Try.prog (v.alloc (.cells (madeCells #[.int .u8 0] 64) 5)) = .ok (.string z64) (v.alloc (.cells (madeCells #[.int .u8 0] 64) 5)) := fun v => by
    have h := own_made v 0 5 .u8 64 (Nat.zero_le _) (by omega)
    exact own_string (P := Try.prog) (e' := 5) Try.underlying42 Try.underlying5 Try.underlying9 h
  have W1 := Aside0.mk (show WholeIs (some ([⟨#[]⟩, ⟨#[120]⟩], [2])) ⟨#[]⟩ false from ⟨0, low20, .inr ⟨by decide, rfl, rfl⟩⟩)
  have W2 := Aside0.mk (show WholeIs (some ([z64, ⟨#[120]⟩], [2, 1])) (z64 ++ ⟨#[120]⟩) true from ⟨2, low21, .inl ⟨by decide, (joinB_two _ _).symm, rfl⟩⟩)
  have P2 := Lib.hid put2
  have hz := z64_size
  obtain ⟨Z, hZ⟩ : ∃ Z, Z = z64 := ⟨_, rfl⟩
  rw [← hZ] at hcv W2 P2 hz
  clear hZ
  have hzx : (Z ++ ⟨#[120]⟩ : ByteArray).size ≤ 100 := by rw [ByteArray.size_append, hz]; decide
  go_enter Try.func8, Try.ntmps8
  go_wp2_with (first
    | (go_at_call 11; ((with_reducible refine (RowsNewA H0.out).mono ?_)); rintro e w1 ⟨g, rfl, h⟩; have H1 := Aside0.mk (h.junk (.cells (madeCells #[.int .u8 0] 64) 5)); clear h; have hcw := hcv w1)
    | (go_at_call 14; ((with_reducible refine (RowsPut H1.out 2 2 ⟨#[120]⟩ _ _ _ put1).mono ?_)); rintro e w2 ⟨rfl, h⟩; have H2 := Aside0.mk h; clear h)
    | (go_at_call 13; ((with_reducible refine (RowsWholeA H2.out _ _ W1.out).mono ?_)); rintro e w3 ⟨rfl, h⟩; have H3 := Aside0.mk h; clear h)
    | (go_at_call 14; ((with_reducible refine (RowsPut H3.out 1 2 Z _ _ _ P2.out).mono ?_)); rintro e w4 ⟨rfl, h⟩; have H4 := Aside0.mk h; clear h)
    | (go_at_call 13; ((with_reducible refine (RowsWholeA H4.out _ _ W2.out).mono ?_)); rintro e w5 ⟨rfl, h⟩; have H5 := Aside0.mk h; clear h))
  go_ret
  exact ⟨rfl, H5.out.bel⟩
end Go.Proofs.Ytdjcndcleaffkaa.PChunksPlays
