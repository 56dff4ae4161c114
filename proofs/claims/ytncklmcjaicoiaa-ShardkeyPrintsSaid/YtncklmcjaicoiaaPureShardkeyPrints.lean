/- Prints and shards are the document's, for texts of at most 100000 bytes and any number of shards. -/
import Derived.Test.YtncklmcjaicoiaaPShardkeyPrintsx1
namespace Go.Proofs.Ytncklmcjaicoiaa.Pure
open Go.RowKit Go.Proofs.Ytncklmcjaicoiaa.PShardkeyPrints Go.Proofs.YtncklmcjaicoiaaW.PrintWords Go.Proofs.YtncklmcjaicoiaaW.PrintLast

def prW (s : ByteArray) : Nat → Int
  | 0 => 14695981039346656037
  | i + 1 => IntKind.u64.wrap ((Go.bits .xor .u64 (prW s i) (IntKind.u64.wrap (bt s i))) * 1099511628211)

theorem wrap_u64 (n : Int) : IntKind.u64.wrap n = n % 18446744073709551616 := by simp [IntKind.wrap, IntKind.bits, IntKind.signed]

theorem print_l0 (s : ByteArray) (hs : s.size ≤ 140737488351233) : ∀ (d k i : Nat), i + d = s.size → d < k → shardkey_Print.l0 k s (prW s i) s.size i = some (prW s s.size) := by
  intro d
  induction d with
  | zero =>
    intro k i hi hk
    obtain ⟨k, rfl⟩ : ∃ m, k = m + 1 := ⟨k - 1, by omega⟩
    simp only [shardkey_Print.l0]
    rw [if_neg (by omega)]
    obtain rfl : i = s.size := by omega
    rfl
  | succ d ih =>
    intro k i hi hk
    obtain ⟨k, rfl⟩ : ∃ m, k = m + 1 := ⟨k - 1, by omega⟩
    simp only [shardkey_Print.l0]
    rw [if_pos (by omega), if_pos (by omega), if_pos (by omega)]
    have h := ih k (i + 1) (by omega) (by omega)
    rw [show wrap64 ((i : Int) + 1) = ((i + 1 : Nat) : Int) by unfold wrap64; omega]
    exact h

theorem print_f (s : ByteArray) (hs : s.size ≤ 140737488351233) (k : Nat) (hk : s.size < k) : shardkey_Print.f k s = some (prW s s.size) := print_l0 s hs s.size k 0 (by omega) hk

theorem prW_congr (s t : ByteArray) : ∀ n : Nat, (∀ i : Nat, i < n → bt s i = bt t i) → prW s n = prW t n := by
  intro n
  induction n with
  | zero => intro _; rfl
  | succ n ih =>
    intro h
    simp only [prW]
    rw [ih (fun i hi => h i (by omega)), h n (by omega)]

theorem prW_range (s : ByteArray) (n : Nat) : 0 ≤ prW s n ∧ prW s n < 18446744073709551616 := by
  cases n with
  | zero => simp only [prW]; omega
  | succ n => simp only [prW]; rw [wrap_u64]; omega

theorem bt_left (a b : ByteArray) (i : Nat) (h : i < a.size) : bt (a ++ b) i = bt a i := by
  unfold bt
  simp only [Int.toNat_natCast]
  rw [dif_pos h, dif_pos (by rw [ByteArray.size_append]; omega), ByteArray.getElem_append_left h]

theorem bt_one (a : ByteArray) (x : Int) (h0 : 0 ≤ x) (h1 : x ≤ 255) : bt (a ++ strOfNums [x]) a.size = x := by
  have hz : (strOfNums [x]).size = 1 := rfl
  unfold bt
  simp only [Int.toNat_natCast]
  rw [dif_pos (by rw [ByteArray.size_append]; omega), ByteArray.getElem_append_right (Nat.le_refl _)]
  simp [strOfNums, ByteArray.getElem_eq_getElem_data]
  omega

theorem awake_f (k : Nat) (hk : 1 < k) : meterlaw06_awake.f k = some true := by
  have e : prW (⟨#[97]⟩ : ByteArray) (⟨#[97]⟩ : ByteArray).size = 12638187200555641996 := by decide +kernel
  unfold meterlaw06_awake.f
  have hk2 : (⟨#[97]⟩ : ByteArray).size < k := hk
  rw [print_f (⟨#[97]⟩ : ByteArray) (by decide) k hk2, e]
  rfl
theorem ref_l0 (s : ByteArray) (hs : s.size ≤ 140737488351233) : ∀ (d k i : Nat), i + d = s.size → d < k → meterref06_Print.l0 k s (prW s i) i = some (prW s s.size) := by
  intro d
  induction d with
  | zero =>
    intro k i hi hk
    obtain ⟨k, rfl⟩ : ∃ m, k = m + 1 := ⟨k - 1, by omega⟩
    simp only [meterref06_Print.l0]
    rw [if_neg (by omega)]
    obtain rfl : i = s.size := by omega
    rfl
  | succ d ih =>
    intro k i hi hk
    obtain ⟨k, rfl⟩ : ∃ m, k = m + 1 := ⟨k - 1, by omega⟩
    simp only [meterref06_Print.l0]
    rw [if_pos (by omega), if_pos (by omega)]
    have h := ih k (i + 1) (by omega) (by omega)
    rw [show wrap64 ((i : Int) + 1) = ((i + 1 : Nat) : Int) by unfold wrap64; omega]
    exact h

theorem ref_f (s : ByteArray) (hs : s.size ≤ 140737488351233) (k : Nat) (hk : s.size < k) : meterref06_Print.f k s = some (prW s s.size) := ref_l0 s hs s.size k 0 (by omega) hk
theorem ShardkeyPrints : meterlaw06_ShardkeyPrints.Pure := by
  intro a n ha hn
  refine ⟨a.size + 2, ?_⟩
  have hf := print_f a (by omega) (a.size + 2) (by omega)
  have hr := ref_f a (by omega) (a.size + 2) (by omega)
  unfold meterlaw06_ShardkeyPrints.f
  rw [awake_f _ (by omega)]
  simp only [Option.bind_some, if_true]
  by_cases h : (a.size : Int) > 100000
  · rw [if_pos h]
  · have ho : shardkey_Of.f (a.size + 2) a n = meterref06_Of.f (a.size + 2) a n := by
      unfold shardkey_Of.f meterref06_Of.f
      rw [hf, hr]
    have hd : ∃ r, shardkey_Of.f (a.size + 2) a n = some r := by
      unfold shardkey_Of.f
      by_cases h1 : n < 1
      · exact ⟨0, by rw [if_pos h1]⟩
      · rw [if_neg h1, hf]
        simp only [Option.bind_some]
        have hw : ¬ IntKind.u64.wrap n = 0 := by
          have hb : -9223372036854775808 ≤ n ∧ n ≤ 9223372036854775807 := by simpa [Lit.wf, IntKind.min, IntKind.max, IntKind.signed, IntKind.bits] using hn
          rw [wrap_u64]
          omega
        rw [if_neg hw]
        exact ⟨_, rfl⟩
    obtain ⟨r, hd⟩ := hd
    rw [if_neg h, hf, hr, ← ho, hd]
    simp

end Go.Proofs.Ytncklmcjaicoiaa.Pure
