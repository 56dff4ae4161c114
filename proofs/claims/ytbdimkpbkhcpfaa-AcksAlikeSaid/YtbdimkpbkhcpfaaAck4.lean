/- Numbers that came (package acks): Missing. -/
import Derived.Test.YtbdimkpbkhcpfaaAck3
namespace Go.Proofs.Ytbdimkpbkhcpfaa.PAcksPlays
open Go.RowKit Go.Proofs.YtbdimkpbkhcpfaaW.PrintWords Go.Proofs.YtbdimkpbkhcpfaaW.PrintLast Go.Proofs.YtbdimkpbkhcpfaaW.PrintMore
open Go.Proofs.YtbdimkpbkhcpfaaO
attribute [local go_sem] max2_int min2_int max_two min_two max_three min_three max_four min_four
set_option linter.unusedVariables false
set_option linter.unusedSimpArgs false
section
variable {w0 w w' : World} {R : List Asn} {g : Nat} {L : List Int}
/-- The numbers from 1 to k that did not come. -/
def missL (L : List Int) : Nat → List Int
  | 0 => []
  | k + 1 => if ((k + 1 : Nat) : Int) ∈ L then missL L k else missL L k ++ [((k + 1 : Nat) : Int)]
theorem missL_low {low : Nat} (h : LowIs L low) : ∀ k, k ≤ low → missL L k = []
  | 0, _ => rfl
  | k + 1, hk => by
    rw [missL, if_pos (h.1 _ (by omega) (by omega))]
    exact missL_low h k (by omega)
theorem missL_len (L : List Int) : ∀ k, (missL L k).length ≤ k
  | 0 => Nat.le_refl _
  | k + 1 => by
    have := missL_len L k
    rw [missL]
    split
    · omega
    · simp; omega
set_option maxHeartbeats 8000000 in
set_option maxRecDepth 100000 in
theorem AcksMissing (h : Own w0 w (Acks g L :: R)) (hi : Int) :
    Calls Try.prog 19 #[.pointer (some ⟨g, 0, none⟩), .int .i64 hi] w fun e w' => ∃ v, e = .returned v ∧ Own w0 w' (Row (Kd.int .i64) 3 v (missL L (if 1048576 < hi then 1048576 else hi).toNat) :: Acks g L :: R) := by
  obtain ⟨low, hlow⟩ := acks_low h
  have hlw := low_le (acks_right h) hlow
  obtain ⟨low', M, v, h1, h2⟩ := acks_open h
  obtain rfl := hlow.uniq h1.2.1
  have y0 : w.cell? ⟨g, 0, none⟩ = some (.int .i64 low) := (blk_cell h2.at0 0).trans rfl
  obtain ⟨m, hm⟩ : ∃ m : Int, m = if 1048576 < hi then 1048576 else hi := ⟨_, rfl⟩
  have hm6 : m ≤ 1048576 := by rw [hm]; split <;> omega
  rw [← hm]
  have hmin : (if 1048576 < hi then (1048576 : Int) else hi) = m := hm.symm
  have HLOW := Aside0.mk hlow
  have H := Aside0.mk (h.row_nil (Kd.int .i64) 3)
  clear h h1 h2 hm hlow
  go_enter Try.func19, Try.ntmps19
  go_wp2
  clear y0
  go_loopw [5, 6] (fun v5 v6 wr => ∃ (k : Nat) (A : Option Addr) (c : Nat), low ≤ k ∧ (low = k ∨ (k : Int) ≤ m) ∧ v6 = .int .i64 ((k : Int) + 1) ∧ v5 = .slice A (missL L k).length c ∧ Aside0 (Own w0 wr (Row (Kd.int .i64) 3 (.slice A (missL L k).length c) (missL L k) :: Acks g L :: R))) (fun _ v6 _ => 3000000000 - (RowKit.intOf v6).toNat)
  case atStart => exact ⟨low, none, 0, Nat.le_refl _, .inl rfl, rfl, by rw [missL_low HLOW.out low (Nat.le_refl _)]; rfl, ⟨by rw [missL_low HLOW.out low (Nat.le_refl _)]; exact H.out⟩⟩
  case round =>
    obtain ⟨k, A, c, hk1, hk2, rfl, rfl, HO⟩ := hrel
    have hln := missL_len L k
    by_cases hle : (k : Int) + 1 ≤ m
    · have d1 : decide ((k : Int) + 1 ≤ m) = true := decide_eq_true hle
      have hk3 : (k : Int) ≤ 1048576 := by omega
      clear hk2
      by_cases hf : ((k : Int) + 1) ∈ L
      · have HF := Aside0.mk (decide_eq_true hf)
        have HMS := Lib.hid (show missL L (k + 1) = missL L k by rw [missL]; exact if_pos hf)
        clear hf
        go_wp2_with (go_at_call 14; (refine (AcksHas HO.out.r1 ((k : Int) + 1) (wf64 _ (by omega) (by omega))).mono ?_); rintro e w1 ⟨rfl, h⟩; rw [HF.out]; have H1 := Aside0.mk h; clear h)
        go_roundw
        case rel => exact ⟨k + 1, A, c, by omega, .inr (by omega), by first | rfl | go_num, by rw [HMS.out], ⟨by rw [HMS.out]; exact H1.out.r1⟩⟩
        case measure => simp [RowKit.intOf]; omega
      · have HF := Aside0.mk (decide_eq_false hf)
        have HMS := Lib.hid (show missL L (k + 1) = missL L k ++ [(k : Int) + 1] by rw [missL]; exact if_neg hf)
        clear hf
        obtain ⟨xs, hxs⟩ : ∃ xs, xs = missL L k := ⟨_, rfl⟩
        rw [← hxs] at HO HMS hln ⊢
        clear hxs
        go_wp2_with (first
          | (go_at_call 14; (refine (AcksHas HO.out.r1 ((k : Int) + 1) (wf64 _ (by omega) (by omega))).mono ?_); rintro e w1 ⟨rfl, h⟩; rw [HF.out]; have H1 := Aside0.mk h.r1; clear h)
          | ((with_reducible refine gate_builtin (b := .append) (xs := #[.tmp 25, .tmp 27]) rfl ?_); at_builtin; refine Own.append (Kd.int .i64) rfl (.tmp 25) (.tmp 27) 28 3 (.int .i64 0) 8 rfl Try.underlying28 info3 rfl (by decide) (by omega) (.slice A xs.length c) xs ((k : Int) + 1) [.int .i64 ((k : Int) + 1)] rfl rfl (fun _ => rfl) H1.out (by omega) ?_; intro A2 c2 w2 h2; have H2 := Aside0.mk h2; clear h2))
        go_roundw
        case rel => exact ⟨k + 1, A2, c2, by omega, .inr (by omega), by first | rfl | go_num, by rw [HMS.out, List.length_append]; rfl, ⟨by rw [HMS.out, List.length_append]; exact H2.out⟩⟩
        case measure => simp [RowKit.intOf]; omega
    · have d1 : decide ((k : Int) + 1 ≤ m) = false := decide_eq_false hle
      have hup : missL L k = missL L m.toNat := by
        rcases hk2 with rfl | hk2
        · rw [missL_low HLOW.out _ (Nat.le_refl _), missL_low HLOW.out _ (by omega)]
        · congr 1
          omega
      have HU := Lib.hid hup
      clear hk2 hup
      go_wp2
      go_ret
      exact ⟨_, rfl, by rw [← HU.out]; exact HO.out⟩
set_option maxHeartbeats 4000000 in
theorem AcksMissing_nil (hi : Int) (w : World) : Calls Try.prog 19 #[.pointer none, .int .i64 hi] w fun e w' => e = .returned (.slice none 0 0) ∧ w = w' := by
  go_enter Try.func19, Try.ntmps19
  go_wp2
  go_ret
  exact ⟨rfl, rfl⟩
set_option maxHeartbeats 4000000 in
theorem AcksMerge_nil (hi : Int) (v : Value) (w : World) : Calls Try.prog 15 #[.pointer none, .int .i64 hi, v] w fun e w' => e = .returned (.int .i64 0) ∧ w = w' := by
  go_enter Try.func15, Try.ntmps15
  go_wp2
  go_ret
  exact ⟨rfl, rfl⟩
set_option maxHeartbeats 4000000 in
theorem AcksSet_nil (w : World) : Calls Try.prog 12 #[.pointer none] w fun e w' => e = .returned (.slice none 0 0) ∧ w = w' := by
  go_enter Try.func12, Try.ntmps12
  go_wp2
  go_ret
  exact ⟨rfl, rfl⟩
end
end Go.Proofs.Ytbdimkpbkhcpfaa.PAcksPlays
