/- A key's shard is one of them, the same each time; a shard of many is by a shard of fewer, if these divide them: for texts of at most 100000 bytes. -/
import Derived.Test.YtncklmcjaicoiaaPShardkeyRangex1
namespace Go.Proofs.Ytncklmcjaicoiaa.Pure
open Go.RowKit Go.Proofs.Ytncklmcjaicoiaa.PShardkeyRange Go.Proofs.YtncklmcjaicoiaaW.PrintWords Go.Proofs.YtncklmcjaicoiaaW.PrintLast

def prW (s : ByteArray) : Nat → Int
  | 0 => 14695981039346656037
  | i + 1 => IntKind.u64.wrap ((Go.bits .xor .u64 (prW s i) (IntKind.u64.wrap (bt s i))) * 1099511628211)

theorem wrap_u64 (n : Int) : IntKind.u64.wrap n = n % 18446744073709551616 := by simp [IntKind.wrap, IntKind.bits, IntKind.signed]

theorem print_l0 (s : ByteArray) (hs : s.size ≤ 140737488351233) : ∀ (d k i : Nat), i + d = s.size → d < k → shardkey_Print.l0 k s (prW s i) s.size i = some (prW s s.size) := by
  intro d
  induction d with
  | zero =>
    intro k i hi hk
    obtain ⟨k, rfl⟩ : ∃ m, k = m + 1 := ⟨k - 1, by omega⟩
    simp only [shardkey_Print.l0]
    rw [if_neg (by omega)]
    obtain rfl : i = s.size := by omega
    rfl
  | succ d ih =>
    intro k i hi hk
    obtain ⟨k, rfl⟩ : ∃ m, k = m + 1 := ⟨k - 1, by omega⟩
    simp only [shardkey_Print.l0]
    rw [if_pos (by omega), if_pos (by omega), if_pos (by omega)]
    have h := ih k (i + 1) (by omega) (by omega)
    rw [show wrap64 ((i : Int) + 1) = ((i + 1 : Nat) : Int) by unfold wrap64; omega]
    exact h

theorem print_f (s : ByteArray) (hs : s.size ≤ 140737488351233) (k : Nat) (hk : s.size < k) : shardkey_Print.f k s = some (prW s s.size) := print_l0 s hs s.size k 0 (by omega) hk

theorem prW_congr (s t : ByteArray) : ∀ n : Nat, (∀ i : Nat, i < n → bt s i = bt t i) → prW s n = prW t n := by
  intro n
  induction n with
  | zero => intro _; rfl
  | succ n ih =>
    intro h
    simp only [prW]
    rw [ih (fun i hi => h i (by omega)), h n (by omega)]

theorem prW_range (s : ByteArray) (n : Nat) : 0 ≤ prW s n ∧ prW s n < 18446744073709551616 := by
  cases n with
  | zero => simp only [prW]; omega
  | succ n => simp only [prW]; rw [wrap_u64]; omega

theorem bt_left (a b : ByteArray) (i : Nat) (h : i < a.size) : bt (a ++ b) i = bt a i := by
  unfold bt
  simp only [Int.toNat_natCast]
  rw [dif_pos h, dif_pos (by rw [ByteArray.size_append]; omega), ByteArray.getElem_append_left h]

theorem bt_one (a : ByteArray) (x : Int) (h0 : 0 ≤ x) (h1 : x ≤ 255) : bt (a ++ strOfNums [x]) a.size = x := by
  have hz : (strOfNums [x]).size = 1 := rfl
  unfold bt
  simp only [Int.toNat_natCast]
  rw [dif_pos (by rw [ByteArray.size_append]; omega), ByteArray.getElem_append_right (Nat.le_refl _)]
  simp [strOfNums, ByteArray.getElem_eq_getElem_data]
  omega

theorem awake_f (k : Nat) (hk : 1 < k) : meterlaw06_awake.f k = some true := by
  have e : prW (⟨#[97]⟩ : ByteArray) (⟨#[97]⟩ : ByteArray).size = 12638187200555641996 := by decide +kernel
  unfold meterlaw06_awake.f
  have hk2 : (⟨#[97]⟩ : ByteArray).size < k := hk
  rw [print_f (⟨#[97]⟩ : ByteArray) (by decide) k hk2, e]
  rfl
theorem i64_range {x : Int} (h : (Lit.int .i64 x).wf = true) : -9223372036854775808 ≤ x ∧ x ≤ 9223372036854775807 := by
  simpa [Lit.wf, IntKind.min, IntKind.max, IntKind.signed, IntKind.bits] using h

theorem of_small (s : ByteArray) (n : Int) (h : n < 1) (k : Nat) : shardkey_Of.f k s n = some 0 := by
  unfold shardkey_Of.f
  rw [if_pos h]

theorem of_f (s : ByteArray) (hs : s.size ≤ 140737488351233) (n : Int) (h : 1 ≤ n) (hn : n ≤ 9223372036854775807) (k : Nat) (hk : s.size < k) : shardkey_Of.f k s n = some (prW s s.size % n) := by
  unfold shardkey_Of.f
  obtain ⟨p0, p1⟩ := prW_range s s.size
  have hw : IntKind.u64.wrap n = n := by rw [wrap_u64]; omega
  rw [if_neg (by omega), print_f s hs k hk, hw]
  simp only [Option.bind_some]
  rw [if_neg (by omega), Int.tmod_eq_emod_of_nonneg p0]
  have b0 := Int.emod_nonneg (prW s s.size) (show n ≠ 0 by omega)
  have b1 := Int.emod_lt_of_pos (prW s s.size) (show 0 < n by omega)
  congr 1
  unfold wrap64
  omega
theorem j0_false (k : Nat) (s : ByteArray) (n m r : Int) : meterlaw06_ShardkeyRange.j0 (k + 1) s n m r true = some false := by
  simp only [meterlaw06_ShardkeyRange.j0, if_true]

theorem j0_small (k : Nat) (s : ByteArray) (n m r : Int) (h : n < 1) : meterlaw06_ShardkeyRange.j0 (k + 1) s n m r false = some true := by
  simp only [meterlaw06_ShardkeyRange.j0]
  rw [if_neg (by simp), if_pos h]

theorem j0_true (s : ByteArray) (hs : s.size ≤ 140737488351233) (n m : Int) (h : 1 ≤ n) (k : Nat) (hk : s.size < k) :
    meterlaw06_ShardkeyRange.j0 (k + 1) s n m (prW s s.size % n) false = some true := by
  simp only [meterlaw06_ShardkeyRange.j0]
  rw [if_neg (by simp), if_neg (by omega)]
  by_cases h1 : n > 1000
  · rw [if_pos h1]
  rw [if_neg h1]
  by_cases h2 : m < 1
  · rw [if_pos h2]
  rw [if_neg h2]
  by_cases h3 : m > 1000
  · rw [if_pos h3]
  rw [if_neg h3]
  have hm0 : 1 ≤ n * m := by
    have := Int.mul_le_mul h (show 1 ≤ m by omega) (by omega) (by omega)
    omega
  have hm1 : n * m ≤ 1000000 := by
    have := Int.mul_le_mul (show n ≤ 1000 by omega) (show m ≤ 1000 by omega) (by omega) (by omega)
    omega
  have hw : wrap64 (n * m) = n * m := by unfold wrap64; omega
  obtain ⟨p0, _⟩ := prW_range s s.size
  rw [hw, of_f s hs _ hm0 (by omega) k hk]
  simp only [Option.bind_some]
  rw [if_neg (by omega), Int.tmod_eq_emod_of_nonneg (Int.emod_nonneg _ (by omega)), Int.emod_emod_of_dvd _ (Int.dvd_mul_right n m)]
  simp

theorem ShardkeyRange : meterlaw06_ShardkeyRange.Pure := by
  intro a n m ha hn _
  obtain ⟨n0, n1⟩ := i64_range hn
  refine ⟨a.size + 2, ?_⟩
  unfold meterlaw06_ShardkeyRange.f
  rw [awake_f _ (by omega)]
  simp only [Option.bind_some, if_true]
  by_cases h : (a.size : Int) > 100000
  · rw [if_pos h]
  rw [if_neg h]
  by_cases h1 : n < 1
  · rw [of_small a n h1]
    simp only [Option.bind_some, if_true]
    rw [if_neg (by omega), if_pos h1, if_neg (by omega), j0_small _ _ _ _ _ h1]
  · rw [of_f a (by omega) n (by omega) n1 _ (by omega)]
    have b0 := Int.emod_nonneg (prW a a.size) (show n ≠ 0 by omega)
    have b1 := Int.emod_lt_of_pos (prW a a.size) (show 0 < n by omega)
    simp only [Option.bind_some, if_true]
    rw [if_neg (by omega), if_neg h1, if_pos (by omega), decide_eq_false (by omega), j0_true a (by omega) n m (by omega) _ (by omega)]

end Go.Proofs.Ytncklmcjaicoiaa.Pure
