/- Texts of at most 100000 bytes that differ in their last byte alone have unlike prints. -/
import Derived.Test.YtncklmcjaicoiaaPShardkeyBytex1
namespace Go.Proofs.Ytncklmcjaicoiaa.Pure
open Go.RowKit Go.Proofs.Ytncklmcjaicoiaa.PShardkeyByte Go.Proofs.YtncklmcjaicoiaaW.PrintWords Go.Proofs.YtncklmcjaicoiaaW.PrintLast

def prW (s : ByteArray) : Nat → Int
  | 0 => 14695981039346656037
  | i + 1 => IntKind.u64.wrap ((Go.bits .xor .u64 (prW s i) (IntKind.u64.wrap (bt s i))) * 1099511628211)

theorem wrap_u64 (n : Int) : IntKind.u64.wrap n = n % 18446744073709551616 := by simp [IntKind.wrap, IntKind.bits, IntKind.signed]

theorem print_l0 (s : ByteArray) (hs : s.size ≤ 140737488351233) : ∀ (d k i : Nat), i + d = s.size → d < k → shardkey_Print.l0 k s (prW s i) s.size i = some (prW s s.size) := by
  intro d
  induction d with
  | zero =>
    intro k i hi hk
    obtain ⟨k, rfl⟩ : ∃ m, k = m + 1 := ⟨k - 1, by omega⟩
    simp only [shardkey_Print.l0]
    rw [if_neg (by omega)]
    obtain rfl : i = s.size := by omega
    rfl
  | succ d ih =>
    intro k i hi hk
    obtain ⟨k, rfl⟩ : ∃ m, k = m + 1 := ⟨k - 1, by omega⟩
    simp only [shardkey_Print.l0]
    rw [if_pos (by omega), if_pos (by omega), if_pos (by omega)]
    have h := ih k (i + 1) (by omega) (by omega)
    rw [show wrap64 ((i : Int) + 1) = ((i + 1 : Nat) : Int) by unfold wrap64; omega]
    exact h

theorem print_f (s : ByteArray) (hs : s.size ≤ 140737488351233) (k : Nat) (hk : s.size < k) : shardkey_Print.f k s = some (prW s s.size) := print_l0 s hs s.size k 0 (by omega) hk

theorem prW_congr (s t : ByteArray) : ∀ n : Nat, (∀ i : Nat, i < n → bt s i = bt t i) → prW s n = prW t n := by
  intro n
  induction n with
  | zero => intro _; rfl
  | succ n ih =>
    intro h
    simp only [prW]
    rw [ih (fun i hi => h i (by omega)), h n (by omega)]

theorem prW_range (s : ByteArray) (n : Nat) : 0 ≤ prW s n ∧ prW s n < 18446744073709551616 := by
  cases n with
  | zero => simp only [prW]; omega
  | succ n => simp only [prW]; rw [wrap_u64]; omega

theorem bt_left (a b : ByteArray) (i : Nat) (h : i < a.size) : bt (a ++ b) i = bt a i := by
  unfold bt
  simp only [Int.toNat_natCast]
  rw [dif_pos h, dif_pos (by rw [ByteArray.size_append]; omega), ByteArray.getElem_append_left h]

theorem bt_one (a : ByteArray) (x : Int) (h0 : 0 ≤ x) (h1 : x ≤ 255) : bt (a ++ strOfNums [x]) a.size = x := by
  have hz : (strOfNums [x]).size = 1 := rfl
  unfold bt
  simp only [Int.toNat_natCast]
  rw [dif_pos (by rw [ByteArray.size_append]; omega), ByteArray.getElem_append_right (Nat.le_refl _)]
  simp [strOfNums, ByteArray.getElem_eq_getElem_data]
  omega

theorem awake_f (k : Nat) (hk : 1 < k) : meterlaw06_awake.f k = some true := by
  have e : prW (⟨#[97]⟩ : ByteArray) (⟨#[97]⟩ : ByteArray).size = 12638187200555641996 := by decide +kernel
  unfold meterlaw06_awake.f
  have hk2 : (⟨#[97]⟩ : ByteArray).size < k := hk
  rw [print_f (⟨#[97]⟩ : ByteArray) (by decide) k hk2, e]
  rfl
theorem u8_range {x : Int} (h : (Lit.int .u8 x).wf = true) : 0 ≤ x ∧ x ≤ 255 := by
  simpa [Lit.wf, IntKind.min, IntKind.max, IntKind.signed, IntKind.bits] using h

theorem print_snoc (a : ByteArray) (ha : a.size ≤ 140737488351232) (x : Int) (h0 : 0 ≤ x) (h1 : x ≤ 255) (k : Nat) (hk : a.size + 1 < k) :
    shardkey_Print.f k (a ++ strOfNums [x]) = some (IntKind.u64.wrap ((Go.bits .xor .u64 (prW a a.size) (IntKind.u64.wrap x)) * 1099511628211)) := by
  have hz : (a ++ strOfNums [x]).size = a.size + 1 := by rw [ByteArray.size_append]; rfl
  rw [print_f _ (by omega) k (by omega), hz]
  simp only [prW]
  rw [bt_one a x h0 h1, prW_congr (a ++ strOfNums [x]) a a.size (fun i hi => bt_left a _ i hi)]
theorem unit_dvd (M p q t d c : Int) (hpq : p * q = M * t + 1) (h : d * p = M * c) : d = M * (c * q - d * t) := by
  rw [Int.mul_sub, ← Int.mul_assoc, ← h, Int.mul_assoc d p q, hpq, Int.mul_add, Int.mul_one]
  have : M * (d * t) = d * (M * t) := by rw [← Int.mul_assoc, Int.mul_comm M d, Int.mul_assoc]
  omega

theorem prime_dvd {d : Int} (h1 : (18446744073709551616 : Int) ∣ d * 1099511628211) : (18446744073709551616 : Int) ∣ d := by
  obtain ⟨c, hc⟩ := h1
  exact ⟨_, unit_dvd _ _ 14886173955864302971 887285111055 d c (by decide +kernel) hc⟩

theorem mul_prime {u v : Int} (u0 : 0 ≤ u) (u1 : u < 18446744073709551616) (v0 : 0 ≤ v) (v1 : v < 18446744073709551616) (h : (u * 1099511628211) % 18446744073709551616 = (v * 1099511628211) % 18446744073709551616) : u = v := by
  have h1 : (18446744073709551616 : Int) ∣ u * 1099511628211 - v * 1099511628211 := Int.dvd_of_emod_eq_zero (Int.emod_eq_emod_iff_emod_sub_eq_zero.1 h)
  rw [← Int.sub_mul] at h1
  obtain ⟨c, hc⟩ := prime_dvd h1
  clear h h1
  omega

theorem xor_back {p a b : Int} (a0 : 0 ≤ a) (a1 : a ≤ 255) (b0 : 0 ≤ b) (b1 : b ≤ 255) (h : Go.bits .xor .u64 p a = Go.bits .xor .u64 p b) : a = b := by
  have ra : ∀ m : BitVec 64, IntKind.u64.wrap (m.toNat : Int) = m.toNat := by
    intro m
    rw [wrap_u64]
    have := m.isLt
    omega
  have h2 : (BitVec.ofInt 64 p ^^^ BitVec.ofInt 64 a).toNat = (BitVec.ofInt 64 p ^^^ BitVec.ofInt 64 b).toNat := by
    have h3 : IntKind.u64.wrap ((BitVec.ofInt 64 p ^^^ BitVec.ofInt 64 a).toNat : Int) = IntKind.u64.wrap ((BitVec.ofInt 64 p ^^^ BitVec.ofInt 64 b).toNat : Int) := h
    rw [ra, ra] at h3
    omega
  have h4 := BitVec.eq_of_toNat_eq h2
  have h5 : BitVec.ofInt 64 a = BitVec.ofInt 64 b := by
    have := congrArg (fun z => BitVec.ofInt 64 p ^^^ z) h4
    simpa [← BitVec.xor_assoc] using this
  have h6 := congrArg BitVec.toInt h5
  rw [BitVec.toInt_ofInt, BitVec.toInt_ofInt] at h6
  rw [Int.bmod_eq_of_le (by omega) (by omega), Int.bmod_eq_of_le (by omega) (by omega)] at h6
  exact h6

theorem xor_range (p a : Int) : 0 ≤ Go.bits .xor .u64 p a ∧ Go.bits .xor .u64 p a < 18446744073709551616 := by
  unfold Go.bits
  rw [wrap_u64]
  omega

theorem ShardkeyByte : meterlaw06_ShardkeyByte.Pure := by
  intro a x y ha hx hy
  obtain ⟨x0, x1⟩ := u8_range hx
  obtain ⟨y0, y1⟩ := u8_range hy
  refine ⟨a.size + 2, ?_⟩
  unfold meterlaw06_ShardkeyByte.f
  rw [awake_f _ (by omega)]
  simp only [Option.bind_some, if_true]
  by_cases h : (a.size : Int) > 100000
  · rw [if_pos h]
  · have hz : (strOfNums [x]).size = 1 := rfl
    have hz2 : (strOfNums [y]).size = 1 := rfl
    rw [if_neg h, if_pos (by omega), print_snoc a ha x x0 x1 _ (by omega)]
    simp only [Option.bind_some]
    rw [if_pos (by omega), print_snoc a ha y y0 y1 _ (by omega)]
    simp only [Option.bind_some]
    by_cases e : x = y
    · subst e; simp
    · have hx' : IntKind.u64.wrap x = x := by rw [wrap_u64]; omega
      have hy' : IntKind.u64.wrap y = y := by rw [wrap_u64]; omega
      have ne : IntKind.u64.wrap (Go.bits .xor .u64 (prW a a.size) (IntKind.u64.wrap x) * 1099511628211) ≠ IntKind.u64.wrap (Go.bits .xor .u64 (prW a a.size) (IntKind.u64.wrap y) * 1099511628211) := by
        rw [hx', hy', wrap_u64, wrap_u64]
        intro h
        obtain ⟨p0, p1⟩ := xor_range (prW a a.size) x
        obtain ⟨q0, q1⟩ := xor_range (prW a a.size) y
        exact e (xor_back x0 x1 y0 y1 (mul_prime p0 p1 q0 q1 h))
      rw [beq_eq_false_iff_ne.2 ne, beq_eq_false_iff_ne.2 e]
      rfl

end Go.Proofs.Ytncklmcjaicoiaa.Pure
