/- Numbers' bytes, read back: plain facts about lists and numbers. -/
import Derived.Test.YtjlcggjghlmiaaaPack2
namespace Go.Proofs.Ytjlcggjghlmiaaa.PPackWrites
open Go.RowKit Go.Proofs.YtjlcggjghlmiaaaW.PrintWords Go.Proofs.YtjlcggjghlmiaaaW.PrintLast Go.Proofs.YtjlcggjghlmiaaaW.PrintMore
attribute [local go_sem] max2_int min2_int max_two min_two max_three min_three max_four min_four
set_option linter.unusedVariables false
set_option linter.unusedSimpArgs false
/-! ### Numbers' bytes, read back -/
theorem ba_loop (b : ByteArray) : ∀ (d i : Nat) (r : List UInt8), i + d = b.size → ByteArray.toList.loop b i r = r.reverse ++ b.data.toList.drop i
  | 0, i, r, h => by
    rw [ByteArray.toList.loop, if_neg (by omega), List.drop_of_length_le (by rw [Array.length_toList]; show b.size ≤ i; omega), List.append_nil]
  | d + 1, i, r, h => by
    have hi : i < b.data.toList.length := by rw [Array.length_toList]; show i < b.size; omega
    have hg : b.get! i = b.data.toList[i] := by
      have h2 : i < b.data.size := by simpa using hi
      show b.data[i]! = _
      rw [getElem!_pos b.data i h2]
      simp
    rw [ByteArray.toList.loop, if_pos (by omega), ba_loop b d (i + 1) _ (by omega), List.drop_eq_getElem_cons hi, hg]
    simp
theorem ba_toList (b : ByteArray) : b.toList = b.data.toList := by
  unfold ByteArray.toList
  rw [ba_loop b b.size 0 [] (by omega)]
  simp
theorem strOf_eq (l : List Int) : strOfNums l = ⟨(l.map fun n => UInt8.ofNat n.toNat).toArray⟩ := rfl
theorem size_strOf (l : List Int) : (strOfNums l).size = l.length := by rw [strOf_eq]; show (List.toArray _).size = _; simp
theorem strOf_bytes (s : ByteArray) : strOfNums (bytesOf s) = s := by
  rw [strOf_eq]
  apply ByteArray.ext
  apply Array.toList_inj.1
  simp only [bytesOf, List.map_map]
  refine (List.map_congr_left fun x hx => ?_).trans (List.map_id _)
  simp
theorem bytes_strOf (l : List Int) (h : ∀ x ∈ l, 0 ≤ x ∧ x < 256) : bytesOf (strOfNums l) = l := by
  rw [strOf_eq]
  unfold bytesOf
  simp only [List.map_map]
  refine (List.map_congr_left fun x hx => ?_).trans (List.map_id l)
  have := h x hx
  simp only [Function.comp, UInt8.toNat_ofNat', id]
  omega
theorem strOf_append (a b : List Int) : strOfNums (a ++ b) = strOfNums a ++ strOfNums b := by
  rw [strOf_eq, strOf_eq, strOf_eq]
  apply ByteArray.ext
  rw [ByteArray.data_append]
  apply Array.toList_inj.1
  simp
theorem bytesOf_range (s : ByteArray) : ∀ x ∈ bytesOf s, 0 ≤ x ∧ x < 256 := by
  intro x hx
  unfold bytesOf at hx
  obtain ⟨b, _, rfl⟩ := List.mem_map.1 hx
  have := b.toNat_lt
  omega
theorem bytesOf_inj {s t : ByteArray} (h : bytesOf s = bytesOf t) : s = t := by rw [← strOf_bytes s, h, strOf_bytes]
theorem bytesOf_append (s t : ByteArray) : bytesOf (s ++ t) = bytesOf s ++ bytesOf t := by simp [bytesOf]
theorem bytesOf_extract (s : ByteArray) (a b : Nat) : bytesOf (s.extract a b) = ((bytesOf s).take b).drop a := by
  unfold bytesOf
  rw [ByteArray.data_extract, Array.toList_extract]
  simp [List.extract_eq_take_drop, List.map_take, List.map_drop, List.drop_take]
theorem bytesOf_drop (s : ByteArray) (a : Nat) : bytesOf (s.extract a s.size) = (bytesOf s).drop a := by
  rw [bytesOf_extract, List.take_of_length_le (by rw [bytesOf_length]; exact Nat.le_refl _)]
theorem byteN_list (s : ByteArray) (i : Nat) : ((byteN s i : Nat) : Int) = (bytesOf s).getD i 0 := by
  unfold byteN bytesOf
  by_cases h : i < s.size
  · rw [dif_pos h, List.getD_eq_getElem?_getD, List.getElem?_map]
    have : s.data.toList[i]? = some s[i] := by rw [Array.getElem?_toList, Array.getElem?_eq_getElem (h := by exact h)]; rfl
    rw [this]; rfl
  · rw [dif_neg h, List.getD_eq_getElem?_getD, List.getElem?_map]
    have : s.data.toList[i]? = none := by rw [Array.getElem?_toList, Array.getElem?_eq_none (by exact Nat.le_of_not_lt h)]
    rw [this]; rfl
theorem byteN_lt (s : ByteArray) (i : Nat) : byteN s i < 256 := by
  unfold byteN
  split
  · exact UInt8.toNat_lt _
  · omega
def nv (t : ByteArray) : Nat → Nat
  | 0 => 0
  | i + 1 => nv t i + (byteN t i % 128) * 128 ^ i
theorem nv_lt (t : ByteArray) : ∀ i, nv t i < 128 ^ i
  | 0 => by simp [nv]
  | i + 1 => by
    have := nv_lt t i
    have h2 : byteN t i % 128 ≤ 127 := by omega
    have h3 : (byteN t i % 128) * 128 ^ i ≤ 127 * 128 ^ i := Nat.mul_le_mul_right _ h2
    rw [nv, Nat.pow_succ]
    omega
theorem and127 (b : Nat) (h : b < 256) : Go.bits .and .u8 (b : Int) 127 = ((b % 128 : Nat) : Int) := by
  have : ∀ b, b < 256 → Go.bits .and .u8 ((b : Nat) : Int) 127 = ((b % 128 : Nat) : Int) := by decide +kernel
  exact this b h
theorem or_nat (a b : Nat) (ha : a < 2 ^ 64) (hb : b < 2 ^ 64) : Go.bits .or .u64 (a : Int) (b : Int) = ((a ||| b : Nat) : Int) := by
  have h3 : Go.bits .or .u64 (a : Int) (b : Int) = IntKind.u64.wrap (((BitVec.ofInt 64 (a : Int)) ||| (BitVec.ofInt 64 (b : Int))).toNat : Int) := rfl
  have eb : ∀ n : Nat, BitVec.ofInt 64 (n : Int) = BitVec.ofNat 64 n := fun n => by simp
  rw [h3, eb, eb, BitVec.toNat_or, BitVec.toNat_ofNat, BitVec.toNat_ofNat, Nat.mod_eq_of_lt ha, Nat.mod_eq_of_lt hb]
  have h4 : a ||| b < 2 ^ 64 := Nat.or_lt_two_pow ha hb
  simp only [IntKind.wrap, IntKind.bits, IntKind.signed]
  simp
  omega
theorem pow7 (i : Nat) : (2 : Int) ^ (7 * i) = ((128 ^ i : Nat) : Int) := by
  rw [Int.pow_mul]
  simp
theorem wrapU (n : Nat) (h : n < 2 ^ 64) : IntKind.u64.wrap (n : Int) = (n : Int) := by
  simp only [IntKind.wrap, IntKind.bits, IntKind.signed]; simp; omega
theorem or_step (x c i : Nat) (hx : x < 128 ^ i) (hc : c * 128 ^ i < 2 ^ 64) (hx64 : 128 ^ i < 2 ^ 64) (hc1 : c < 128) : Go.bits .or .u64 (x : Int) (IntKind.u64.wrap (IntKind.u64.wrap (c : Int) * 2 ^ (7 * i))) = ((x + c * 128 ^ i : Nat) : Int) := by
  rw [wrapU c (by omega), pow7, show (c : Int) * ((128 ^ i : Nat) : Int) = ((c * 128 ^ i : Nat) : Int) by simp, wrapU _ hc, or_nat _ _ (by omega) hc]
  congr 1
  have e : 128 ^ i = 2 ^ (7 * i) := by rw [Nat.pow_mul]
  rw [e] at hx ⊢
  rw [Nat.mul_comm c, Nat.or_comm, ← Nat.two_pow_add_eq_or_of_lt hx]
  omega
theorem gx_nv (t : ByteArray) : ∀ i, i ≤ 9 → gx t i = ((nv t i : Nat) : Int)
  | 0, _ => rfl
  | i + 1, h => by
    have h9 : 128 ^ i ≤ 128 ^ 8 := Nat.pow_le_pow_right (by omega) (by omega)
    have h8 : (byteN t i % 128) * 128 ^ i ≤ 127 * 128 ^ 8 := Nat.mul_le_mul (by omega) h9
    rw [gx, gx_nv t i (by omega), and127 _ (byteN_lt t i), or_step _ _ i (nv_lt t i) (Nat.lt_of_le_of_lt h8 (by decide)) (Nat.lt_of_le_of_lt h9 (by decide)) (by omega)]
    rfl
theorem gx_nv9 (t : ByteArray) (h : byteN t 9 ≤ 1) : gx t 10 = ((nv t 10 : Nat) : Int) := by
  have h8 : (byteN t 9 % 128) * 128 ^ 9 ≤ 1 * 128 ^ 9 := Nat.mul_le_mul_right _ (by omega)
  show Go.bits .or .u64 (gx t 9) _ = _
  rw [gx_nv t 9 (by omega), and127 _ (byteN_lt t 9), or_step _ _ 9 (nv_lt t 9) (Nat.lt_of_le_of_lt h8 (by decide)) (by decide) (by omega)]
  rfl
theorem numB_pos (n : Nat) : 0 < (numB n).length := by rw [numB]; split <;> simp
theorem gv_read (t : ByteArray) (n : Nat) : ∀ (d i : Nat), i + d ≤ 10 → (numB n).length ≤ d → (∀ j, j < (numB n).length → ((byteN t (i + j) : Nat) : Int) = (numB n).getD j 0) → n * 128 ^ i < 2 ^ 64 →
    gvF t d i = (((nv t i + n * 128 ^ i : Nat) : Int), ((i + (numB n).length : Nat) : Int)) := by
  induction n using Nat.strongRecOn with
  | ind n ih =>
    intro d i hd hl hb hn
    have hp := numB_pos n
    obtain ⟨d, rfl⟩ : ∃ k, d = k + 1 := ⟨d - 1, by omega⟩
    have h0 := hb 0 hp
    by_cases h : n < 128
    · have e : numB n = [(n : Int)] := by rw [numB, if_pos h]
      rw [e] at h0 ⊢
      have h0' : byteN t i = n := by
        have : ((byteN t i : Nat) : Int) = (n : Int) := by simpa using h0
        omega
      have h9 : ¬ (i = 9 ∧ 1 < byteN t i) := by
        rintro ⟨rfl, h1⟩
        rw [h0'] at h1
        have : 2 * 128 ^ 9 ≤ n * 128 ^ 9 := Nat.mul_le_mul_right _ (by omega)
        omega
      have hgx : gx t (i + 1) = ((nv t (i + 1) : Nat) : Int) := by
        by_cases hi : i = 9
        · subst hi
          exact gx_nv9 t (by omega)
        · exact gx_nv t (i + 1) (by omega)
      rw [gvF, if_pos (by omega), if_neg h9, hgx, nv, h0', Nat.mod_eq_of_lt h]
      rfl
    · have e : numB n = ((n % 128 + 128 : Nat) : Int) :: numB (n / 128) := by rw [numB, if_neg h]
      rw [e] at h0 hl hb ⊢
      have h0' : byteN t i = n % 128 + 128 := by
        have : ((byteN t i : Nat) : Int) = ((n % 128 + 128 : Nat) : Int) := by simpa using h0
        omega
      simp only [List.length_cons] at hl
      have hdm : n = 128 * (n / 128) + n % 128 := (Nat.div_add_mod n 128).symm
      have hmul : n / 128 * 128 ^ (i + 1) ≤ n * 128 ^ i := by
        rw [Nat.pow_succ, ← Nat.mul_assoc, Nat.mul_right_comm]
        exact Nat.mul_le_mul_right _ (by omega)
      have := ih (n / 128) (by omega) d (i + 1) (by omega) (by omega) (fun j hj => by
        have := hb (j + 1) (by simpa using hj)
        rw [show i + 1 + j = i + (j + 1) by omega, this]
        simp) (by omega)
      rw [gvF, if_neg (by omega), this]
      congr 1
      · congr 1
        rw [nv, h0']
        have e2 : (n % 128 + 128) % 128 = n % 128 := by omega
        rw [e2, Nat.pow_succ]
        have : n * 128 ^ i = (128 * (n / 128) + n % 128) * 128 ^ i := by rw [← hdm]
        rw [this, Nat.add_mul, Nat.add_assoc, Nat.add_comm (n % 128 * 128 ^ i)]
        congr 1
        rw [Nat.mul_comm (128 ^ i) 128, ← Nat.mul_assoc, Nat.mul_comm (n / 128) 128]
      · congr 1
        simp only [List.length_cons]
        omega
theorem numB_last (n : Nat) : 1 < (numB n).length → (numB n).getD ((numB n).length - 1) 0 ≠ 0 := by
  induction n using Nat.strongRecOn with
  | ind n ih =>
    intro h
    by_cases h1 : n < 128
    · rw [numB, if_pos h1] at h; simp at h
    · have e : numB n = ((n % 128 + 128 : Nat) : Int) :: numB (n / 128) := by rw [numB, if_neg h1]
      have hp := numB_pos (n / 128)
      rw [e] at h ⊢
      simp only [List.length_cons, Nat.add_sub_cancel]
      obtain ⟨k, hk⟩ : ∃ k, (numB (n / 128)).length = k + 1 := ⟨(numB (n / 128)).length - 1, by omega⟩
      rw [hk, List.getD_cons_succ]
      by_cases h2 : n / 128 < 128
      · have e2 : numB (n / 128) = [((n / 128 : Nat) : Int)] := by rw [numB, if_pos h2]
        rw [e2] at hk ⊢
        simp only [List.length_cons, List.length_nil] at hk
        obtain rfl : k = 0 := by omega
        simp only [List.getD_cons_zero]
        omega
      · have e2 : numB (n / 128) = ((n / 128 % 128 + 128 : Nat) : Int) :: numB (n / 128 / 128) := by rw [numB, if_neg h2]
        have hp2 := numB_pos (n / 128 / 128)
        have h3 : 1 < (numB (n / 128)).length := by rw [e2]; simp only [List.length_cons]; omega
        have := ih (n / 128) (by omega) h3
        rw [hk] at this
        exact this
theorem numB_range (n : Nat) : ∀ x ∈ numB n, 0 ≤ x ∧ x < 256 := by
  induction n using Nat.strongRecOn with
  | ind n ih =>
    intro x hx
    by_cases h1 : n < 128
    · rw [numB, if_pos h1] at hx
      simp only [List.mem_singleton] at hx
      omega
    · rw [numB, if_neg h1] at hx
      rcases List.mem_cons.1 hx with rfl | hx
      · omega
      · exact ih (n / 128) (by omega) x hx
/-- A number's bytes, read. -/
theorem numP_read (s : ByteArray) (at_ n : Nat) (R : List Int) (hn : n < 2 ^ 64) (h : (bytesOf s).drop at_ = numB n ++ R) : numP s at_ = ((n : Int), 0, ((at_ + (numB n).length : Nat) : Int)) := by
  have hb := bytesOf_drop s at_
  rw [h] at hb
  have hsz : (s.extract at_ s.size).size = (numB n).length + R.length := by rw [← bytesOf_length, hb, List.length_append]
  have hp := numB_pos n
  have hl := (numB_len n 10 (pow10 n hn)).2
  have hbyte : ∀ j, j < (numB n).length → ((byteN (s.extract at_ s.size) j : Nat) : Int) = (numB n).getD j 0 := fun j hj => by
    rw [byteN_list, hb, List.getD_eq_getElem?_getD, List.getElem?_append_left hj, List.getD_eq_getElem?_getD]
  have hg := gv_read (s.extract at_ s.size) n (min (s.extract at_ s.size).size 10) 0 (by omega) (by omega) (fun j hj => by rw [Nat.zero_add]; exact hbyte j hj) (by simpa using hn)
  unfold numP
  rw [hg]
  simp only [nv, Nat.pow_zero, Nat.mul_one, Nat.zero_add]
  unfold numR
  rw [if_neg (by omega), if_neg (by omega), if_neg ?_]
  · congr 2
  · rintro ⟨h1, h2⟩
    rw [Int.toNat_natCast] at h2
    have h3 := numB_last n (by omega)
    have h4 : ((byteN s (at_ + (numB n).length - 1) : Nat) : Int) = (numB n).getD ((numB n).length - 1) 0 := by
      rw [byteN_list]
      have : (bytesOf s).getD (at_ + (numB n).length - 1) 0 = ((bytesOf s).drop at_).getD ((numB n).length - 1) 0 := by
        rw [List.getD_eq_getElem?_getD, List.getD_eq_getElem?_getD, List.getElem?_drop]
        congr 2
        omega
      rw [this, h, List.getD_eq_getElem?_getD, List.getElem?_append_left (by omega), List.getD_eq_getElem?_getD]
    rw [h2] at h4
    exact h3 (by rw [← h4]; rfl)
/-- What is read, written. -/
theorem gv_back (t : ByteArray) : ∀ (d i : Nat) (x sz : Int), i + d ≤ 10 → gvF t d i = (x, sz) → 0 < sz → ∃ n k : Nat, k < d ∧ sz = ((i + k + 1 : Nat) : Int) ∧ x = ((nv t i + n * 128 ^ i : Nat) : Int) ∧ (i ≤ 9 → n * 128 ^ i < 2 ^ 64) ∧ ((0 < k → byteN t (i + k) ≠ 0) → (numB n).length = k + 1 ∧ ∀ j, j ≤ k → ((byteN t (i + j) : Nat) : Int) = (numB n).getD j 0)
  | 0, i, x, sz, _, h, hs => by
    simp only [gvF, Prod.mk.injEq] at h
    omega
  | d + 1, i, x, sz, hd, h, hs => by
    rw [gvF] at h
    by_cases h1 : byteN t i < 128
    · rw [if_pos h1] at h
      by_cases h9 : i = 9 ∧ 1 < byteN t i
      · rw [if_pos h9] at h
        simp only [Prod.mk.injEq] at h
        omega
      · rw [if_neg h9] at h
        simp only [Prod.mk.injEq] at h
        obtain ⟨rfl, rfl⟩ := h
        have hgx : gx t (i + 1) = ((nv t (i + 1) : Nat) : Int) := by
          by_cases hi : i = 9
          · subst hi
            exact gx_nv9 t (by omega)
          · exact gx_nv t (i + 1) (by omega)
        refine ⟨byteN t i, 0, by omega, rfl, by rw [hgx, nv, Nat.mod_eq_of_lt h1], fun _ => ?_, fun _ => ?_⟩
        · by_cases hi : i = 9
          · subst hi
            have : byteN t 9 * 128 ^ 9 ≤ 1 * 128 ^ 9 := Nat.mul_le_mul_right _ (by omega)
            omega
          · have h9 : 128 ^ i ≤ 128 ^ 8 := Nat.pow_le_pow_right (by omega) (by omega)
            have h8 : byteN t i * 128 ^ i ≤ 127 * 128 ^ 8 := Nat.mul_le_mul (by omega) h9
            omega
        · have e : numB (byteN t i) = [((byteN t i : Nat) : Int)] := by rw [numB, if_pos h1]
          rw [e]
          refine ⟨rfl, fun j hj => ?_⟩
          obtain rfl : j = 0 := by omega
          rfl
    · rw [if_neg h1] at h
      have hb := byteN_lt t i
      obtain ⟨n, k, hk, rfl, rfl, hn, hc⟩ := gv_back t d (i + 1) x sz (by omega) h hs
      have hdiv : (byteN t i - 128 + 128 * n) / 128 = n := by omega
      have hmod : (byteN t i - 128 + 128 * n) % 128 = byteN t i - 128 := by omega
      refine ⟨byteN t i - 128 + 128 * n, k + 1, by omega, by congr 1; omega, ?_, fun _ => ?_, fun hz => ?_⟩
      · congr 1
        rw [nv, Nat.pow_succ]
        have e2 : byteN t i % 128 = byteN t i - 128 := by omega
        rw [e2, Nat.add_mul, Nat.add_assoc]
        congr 2
        rw [Nat.mul_comm (128 ^ i) 128, ← Nat.mul_assoc, Nat.mul_comm n 128]
      · have h2 := hn (by omega)
        -- the sum stays below
        have e3 : (byteN t i - 128 + 128 * n) * 128 ^ i = (byteN t i - 128) * 128 ^ i + n * 128 ^ (i + 1) := by
          rw [Nat.add_mul, Nat.pow_succ]
          congr 1
          rw [Nat.mul_comm (128 ^ i) 128, ← Nat.mul_assoc, Nat.mul_comm n 128]
        rw [e3]
        have h3 : (byteN t i - 128) * 128 ^ i < 128 ^ (i + 1) := by
          have : (byteN t i - 128) * 128 ^ i ≤ 127 * 128 ^ i := Nat.mul_le_mul_right _ (by omega)
          have hp : 0 < 128 ^ i := Nat.pow_pos (by omega)
          rw [Nat.pow_succ]
          omega
        have hdv : ∃ q, 2 ^ 64 = q * 128 ^ (i + 1) ∨ i + 1 = 10 := ⟨2 ^ (64 - 7 * (i + 1)), by
          by_cases hi : i + 1 = 10
          · exact .inr hi
          · refine .inl ?_
            have : i ≤ 8 := by omega
            have : i = 0 ∨ i = 1 ∨ i = 2 ∨ i = 3 ∨ i = 4 ∨ i = 5 ∨ i = 6 ∨ i = 7 ∨ i = 8 := by omega
            rcases this with rfl | rfl | rfl | rfl | rfl | rfl | rfl | rfl | rfl <;> decide⟩
        obtain ⟨q, hq | hq⟩ := hdv
        · rw [hq] at h2 ⊢
          have h4 : n < q := Nat.lt_of_mul_lt_mul_right h2
          have h5 : (n + 1) * 128 ^ (i + 1) ≤ q * 128 ^ (i + 1) := Nat.mul_le_mul_right _ h4
          rw [Nat.add_mul, Nat.one_mul] at h5
          omega
        · omega
      · have hn1 : n ≠ 0 := by
          rintro rfl
          have e0 : numB 0 = [0] := by rw [numB, if_pos (by omega)]; rfl
          by_cases hk0 : k = 0
          · subst hk0
            obtain ⟨_, h6⟩ := hc (fun h => absurd h (by omega))
            have h7 := h6 0 (Nat.le_refl _)
            rw [e0] at h7
            have : byteN t (i + (0 + 1)) = 0 := by
              have : ((byteN t (i + 1) : Nat) : Int) = 0 := by simpa using h7
              show byteN t (i + 1) = 0
              omega
            exact hz (by omega) this
          · obtain ⟨h6, _⟩ := hc (fun _ h => hz (by omega) (by rw [show i + (k + 1) = i + 1 + k by omega]; exact h))
            rw [e0] at h6
            simp at h6
            omega
        have e : numB (byteN t i - 128 + 128 * n) = ((byteN t i : Nat) : Int) :: numB n := by
          rw [numB, if_neg (by omega), hdiv, hmod]
          congr 2
          omega
        obtain ⟨h6, h7⟩ := hc (fun _ h => hz (by omega) (by rw [show i + (k + 1) = i + 1 + k by omega]; exact h))
        rw [e]
        refine ⟨by rw [List.length_cons, h6], fun j hj => ?_⟩
        cases j with
        | zero => rfl
        | succ j =>
          rw [show i + (j + 1) = i + 1 + j by omega, h7 j (by omega), List.getD_cons_succ]
theorem numP_back (s : ByteArray) (at_ : Nat) (hat : at_ ≤ s.size) (v a : Int) (h : numP s at_ = (v, 0, a)) : ∃ n : Nat, n < 2 ^ 64 ∧ v = (n : Int) ∧ a = ((at_ + (numB n).length : Nat) : Int) ∧ at_ + (numB n).length ≤ s.size ∧ (bytesOf s).drop at_ = numB n ++ (bytesOf s).drop (at_ + (numB n).length) := by
  unfold numP at h
  rcases hg : gvF (s.extract at_ s.size) (min (s.extract at_ s.size).size 10) 0 with ⟨x, sz⟩
  rw [hg] at h
  have hsz : (s.extract at_ s.size).size = s.size - at_ := by rw [ByteArray.size_extract]; omega
  simp only at h
  unfold numR at h
  by_cases h0 : sz = 0
  · rw [if_pos h0] at h
    split at h <;> simp only [Prod.mk.injEq] at h <;> omega
  rw [if_neg h0] at h
  by_cases h1 : sz < 0
  · rw [if_pos h1] at h
    simp only [Prod.mk.injEq] at h
    omega
  rw [if_neg h1] at h
  by_cases h2 : 1 < sz ∧ byteN s (at_ + sz.toNat - 1) = 0
  · rw [if_pos h2] at h
    simp only [Prod.mk.injEq] at h
    omega
  rw [if_neg h2] at h
  simp only [Prod.mk.injEq, true_and] at h
  obtain ⟨rfl, rfl⟩ := h
  obtain ⟨n, k, hk, rfl, rfl, hn, hc⟩ := gv_back _ _ 0 x sz (by omega) hg (by omega)
  have hbt : ∀ j, j < s.size - at_ → byteN (s.extract at_ s.size) j = byteN s (at_ + j) := fun j hj => by
    have : ((byteN (s.extract at_ s.size) j : Nat) : Int) = ((byteN s (at_ + j) : Nat) : Int) := by
      rw [byteN_list, byteN_list, bytesOf_drop, List.getD_eq_getElem?_getD, List.getElem?_drop, List.getD_eq_getElem?_getD]
    omega
  obtain ⟨hl, hb⟩ := hc (fun h3 h4 => h2 ⟨by omega, by
    rw [Nat.zero_add, hbt k (by omega)] at h4
    rw [← h4]
    congr 1
    omega⟩)
  refine ⟨n, by simpa using hn (by omega), by simp [nv], by rw [hl]; omega, by omega, ?_⟩
  have hdl : ((bytesOf s).drop at_).take (numB n).length = numB n := by
    apply List.ext_getElem?
    intro j
    by_cases hj : j < (numB n).length
    · rw [List.getElem?_take_of_lt hj, List.getElem?_eq_getElem hj]
      have h5 := hb j (by omega)
      rw [Nat.zero_add, byteN_list, bytesOf_drop, List.getD_eq_getElem?_getD, List.getD_eq_getElem?_getD, List.getElem?_eq_getElem hj] at h5
      have hjl : j < ((bytesOf s).drop at_).length := by rw [List.length_drop, bytesOf_length]; omega
      rw [List.getElem?_eq_getElem hjl] at h5 ⊢
      simpa using h5
    · rw [List.getElem?_eq_none (by rw [List.length_take]; omega), List.getElem?_eq_none (by omega)]
  rw [← List.drop_drop]
  conv => lhs; rw [← List.take_append_drop (numB n).length ((bytesOf s).drop at_)]
  rw [hdl]
theorem numB_front {a b : Nat} {R R' : List Int} (ha : a < 2 ^ 64) (hb : b < 2 ^ 64) (h : numB a ++ R = numB b ++ R') : a = b ∧ R = R' := by
  have hr : ∀ n, n < 2 ^ 64 → ∀ x ∈ numB n, 0 ≤ x ∧ x < 256 := fun n _ => numB_range n
  suffices hs : a = b by
    subst hs
    exact ⟨rfl, List.append_cancel_left h⟩
  -- by induction on the bytes
  clear hr ha hb
  induction a using Nat.strongRecOn generalizing b with
  | ind a ih =>
    by_cases h1 : a < 128
    · have e : numB a = [(a : Int)] := by rw [numB, if_pos h1]
      by_cases h2 : b < 128
      · have e2 : numB b = [(b : Int)] := by rw [numB, if_pos h2]
        rw [e, e2] at h
        simp only [List.cons_append, List.cons.injEq] at h
        omega
      · have e2 : numB b = ((b % 128 + 128 : Nat) : Int) :: numB (b / 128) := by rw [numB, if_neg h2]
        rw [e, e2] at h
        simp only [List.cons_append, List.cons.injEq] at h
        omega
    · have e : numB a = ((a % 128 + 128 : Nat) : Int) :: numB (a / 128) := by rw [numB, if_neg h1]
      by_cases h2 : b < 128
      · have e2 : numB b = [(b : Int)] := by rw [numB, if_pos h2]
        rw [e, e2] at h
        simp only [List.cons_append, List.cons.injEq] at h
        omega
      · have e2 : numB b = ((b % 128 + 128 : Nat) : Int) :: numB (b / 128) := by rw [numB, if_neg h2]
        rw [e, e2] at h
        simp only [List.cons_append, List.cons.injEq] at h
        have := ih (a / 128) (by omega) (b := b / 128) h.2
        omega
end Go.Proofs.Ytjlcggjghlmiaaa.PPackWrites
