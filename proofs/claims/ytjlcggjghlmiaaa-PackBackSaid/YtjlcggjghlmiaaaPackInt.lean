/- Integers read, and readers that are none. -/
import Derived.Test.YtjlcggjghlmiaaaPackG
namespace Go.Proofs.Ytjlcggjghlmiaaa.PPackWrites
open Go.RowKit Go.Proofs.YtjlcggjghlmiaaaW.PrintWords Go.Proofs.YtjlcggjghlmiaaaW.PrintLast Go.Proofs.YtjlcggjghlmiaaaW.PrintMore
open Go.Proofs.YtjlcggjghlmiaaaO
attribute [local go_sem] max2_int min2_int max_two min_two max_three min_three max_four min_four
set_option linter.unusedVariables false
set_option linter.unusedSimpArgs false
def zagI (n : Nat) : Int := if n % 2 = 0 then ((n / 2 : Nat) : Int) else -((n / 2 : Nat) : Int) - 1
theorem zag_zig (i : Int) : zagI (zigN i) = i := by unfold zagI zigN; split <;> split <;> omega
theorem zig_zag (n : Nat) : zigN (zagI n) = n := by unfold zagI zigN; split <;> split <;> omega
theorem zag_range (n : Nat) (h : n < 2 ^ 64) : -(2^63) ≤ zagI n ∧ zagI n < 2 ^ 63 := by unfold zagI; split <;> omega
theorem and_one (n : Nat) (h : n < 2 ^ 64) : Go.bits .and .u64 (n : Int) 1 = ((n % 2 : Nat) : Int) := by
  have h3 : Go.bits .and .u64 (n : Int) 1 = IntKind.u64.wrap (((BitVec.ofInt 64 (n : Int)) &&& (BitVec.ofInt 64 1)).toNat : Int) := rfl
  have eb : ∀ n : Nat, BitVec.ofInt 64 (n : Int) = BitVec.ofNat 64 n := fun n => by simp
  have e1 : BitVec.ofInt 64 1 = BitVec.ofNat 64 1 := rfl
  rw [h3, eb, e1, BitVec.toNat_and, BitVec.toNat_ofNat, BitVec.toNat_ofNat, Nat.mod_eq_of_lt h, Nat.mod_eq_of_lt (by decide : 1 < 2 ^ 64), Nat.and_one_is_mod, wrapU _ (by omega)]
theorem zag_bits (n : Nat) (h : n < 2 ^ 64) : bits .xor .i64 (wrap64 ((n : Int) / 2)) (wrap64 (-wrap64 (bits .and .u64 (n : Int) 1))) = zagI n := by
  rw [and_one n h]
  have e1 : wrap64 ((n : Int) / 2) = ((n / 2 : Nat) : Int) := by unfold wrap64; omega
  have hx : ∀ y : Int, bits .xor .i64 (((n / 2 : Nat) : Int)) y = IntKind.i64.wrap (((BitVec.ofInt 64 (((n / 2 : Nat) : Int))) ^^^ (BitVec.ofInt 64 y)).toNat : Int) := fun y => rfl
  have eb : ∀ n : Nat, BitVec.ofInt 64 (n : Int) = BitVec.ofNat 64 n := fun n => by simp
  rw [e1, hx, eb]
  unfold zagI
  by_cases h2 : n % 2 = 0
  · have e2 : wrap64 (-wrap64 ((n % 2 : Nat) : Int)) = 0 := by rw [h2]; unfold wrap64; omega
    rw [if_pos h2, e2, show BitVec.ofInt 64 0 = 0#64 from rfl, BitVec.xor_zero, BitVec.toNat_ofNat, Nat.mod_eq_of_lt (by omega), IntKind.wrap_i64]
    omega
  · have h1 : n % 2 = 1 := by omega
    have e2 : wrap64 (-wrap64 ((n % 2 : Nat) : Int)) = -1 := by rw [h1]; unfold wrap64; omega
    rw [if_neg h2, e2, show BitVec.ofInt 64 (-1) = BitVec.allOnes 64 from by decide, BitVec.xor_allOnes, BitVec.toNat_not, BitVec.toNat_ofNat, Nat.mod_eq_of_lt (by omega), IntKind.wrap_i64]
    omega
set_option maxHeartbeats 4000000 in
theorem InInt {w0 w : World} {L : List Asn} {g : Nat} {s : ByteArray} {a bad : Int} (h : Own w0 w (InA g s a bad :: L)) (h0 : 0 ≤ a) (h1 : a ≤ s.size) (hs : s.size ≤ 1000000) (n : Nat) (a' bad' : Int) (hn : n < 2 ^ 64) (hr : rdNum s a bad = ((n : Int), a', bad')) :
    Calls Try.prog 27 #[.pointer (some ⟨g, 0, none⟩)] w fun e w' => e = .returned (.int .i64 (zagI n)) ∧ Own w0 w' (InA g s a' bad' :: L) := by
  have HR := Aside0.mk hr
  have H := Aside0.mk h
  have HZ := Aside0.mk (zag_bits n hn)
  clear h hr
  obtain ⟨v, hv⟩ : ∃ v : Int, v = (n : Int) := ⟨_, rfl⟩
  rw [← hv] at HR HZ
  clear hv
  go_enter Try.func27, Try.ntmps27
  go_wp2_with (go_at_call 26; (with_reducible refine (InNum H.out h0 h1 hs _ _ _ HR.out).mono ?_); rintro e w1 ⟨rfl, h⟩; have H1 := Aside0.mk h; clear h)
  go_ret
  exact ⟨by rw [← HZ.out]; rfl, H1.out⟩
set_option maxHeartbeats 4000000 in
theorem InNum_nil (w : World) : Calls Try.prog 26 #[.pointer none] w fun e w' => e = .returned (.int .u64 0) ∧ Below w.heap.size w w' := by
  go_enter Try.func26, Try.ntmps26
  go_wp2_with (go_at_call 34; refine (try_nil _ _).mono ?_; rintro e w1 ⟨rfl, rfl⟩)
  refine bodyPost_ret (v := .int .u64 0) (results_cell1 (p := 2) (ty := 22) rfl _ _ ⟨w.heap.size + 1, 0, none⟩ _ rfl (by go_simp)) rfl ⟨rfl, ?_⟩
  first | exact below_alloc (below_alloc (Below.refl _ _) _) _ | exact below_set (below_alloc (below_alloc (Below.refl _ _) _) _) (by simp)
set_option maxHeartbeats 4000000 in
theorem InInt_nil (w : World) : Calls Try.prog 27 #[.pointer none] w fun e w' => e = .returned (.int .i64 0) ∧ Below w.heap.size w w' := by
  have e0 : bits .xor .i64 0 (wrap64 (-wrap64 (bits .and .u64 0 1))) = 0 := by decide +kernel
  go_enter Try.func27, Try.ntmps27
  go_wp2_with (go_at_call 26; (refine (InNum_nil _).mono ?_); rintro e w1 ⟨rfl, h⟩; have H1 := Aside0.mk h; clear h)
  go_ret
  exact ⟨rfl, H1.out⟩
set_option maxHeartbeats 4000000 in
theorem InLeft_nil (w : World) : Calls Try.prog 22 #[.pointer none] w fun e w' => e = .returned (.int .i64 0) ∧ w = w' := by
  go_enter Try.func22, Try.ntmps22
  go_wp2
  go_ret
  exact ⟨rfl, rfl⟩
set_option maxHeartbeats 4000000 in
theorem InFault_nil (w : World) : Calls Try.prog 21 #[.pointer none] w fun e w' => e = .returned (.tuple #[.int .i64 0, .int .i64 0]) ∧ w = w' := by
  go_enter Try.func21, Try.ntmps21
  go_wp2
  go_ret2
  exact ⟨rfl, rfl⟩
set_option maxHeartbeats 4000000 in
theorem InEnd_nil (w : World) : Calls Try.prog 24 #[.pointer none] w fun e w' => e = .returned (.int .i64 0) ∧ w = w' := by
  go_enter Try.func24, Try.ntmps24
  go_wp2_with (first | (go_at_call 21; (refine (InFault_nil _).mono ?_); rintro e w1 ⟨rfl, rfl⟩) | (go_at_call 22; (refine (InLeft_nil _).mono ?_); rintro e w1 ⟨rfl, rfl⟩))
  go_ret
  exact ⟨rfl, rfl⟩
end Go.Proofs.Ytjlcggjghlmiaaa.PPackWrites
