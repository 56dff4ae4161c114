/- A text's sum goes on from that of its beginning; bits turned within 32 that follow one another change it: for any two texts of at most 100000 bytes, any place and pattern. -/
import Derived.Test.YtfnpjjpgigoodaaPSumBurstx1
namespace Go.Proofs.Ytfnpjjpgigoodaa.Pure
open Go.RowKit Go.Proofs.Ytfnpjjpgigoodaa.PSumBurst Go.Proofs.YtfnpjjpgigoodaaW.PrintWords Go.Proofs.YtfnpjjpgigoodaaW.PrintLast

--! hand
/-- One bit through the register. -/
def S (c : BitVec 32) : BitVec 32 := (c >>> 1) ^^^ (if c.getLsbD 0 then 0x82f63b78#32 else 0#32)
def SN : Nat → BitVec 32 → BitVec 32
  | 0, c => c
  | n + 1, c => SN n (S c)
theorem xlc (a b c : BitVec 32) : a ^^^ (b ^^^ c) = b ^^^ (a ^^^ c) := by rw [← BitVec.xor_assoc, BitVec.xor_comm a b, BitVec.xor_assoc]
theorem S_xor (a b : BitVec 32) : S (a ^^^ b) = S a ^^^ S b := by
  unfold S
  rw [BitVec.ushiftRight_xor_distrib, BitVec.getLsbD_xor]
  cases a.getLsbD 0 <;> cases b.getLsbD 0 <;> simp [BitVec.xor_assoc, BitVec.xor_comm, xlc]
theorem S_zero : S 0#32 = 0#32 := by decide
theorem SN_xor (n : Nat) : ∀ a b : BitVec 32, SN n (a ^^^ b) = SN n a ^^^ SN n b := by
  induction n with
  | zero => intro a b; rfl
  | succ n ih => intro a b; simp only [SN, S_xor, ih]
theorem SN_zero (n : Nat) : SN n 0#32 = 0#32 := by
  induction n with
  | zero => rfl
  | succ n ih => simp only [SN, S_zero, ih]
theorem SN_add (n m : Nat) : ∀ c, SN (n + m) c = SN m (SN n c) := by
  induction n with
  | zero => intro c; simp [SN]
  | succ n ih => intro c; rw [Nat.succ_add]; exact ih (S c)
theorem S_inj {c : BitVec 32} (h : S c = 0#32) : c = 0#32 := by
  unfold S at h
  have h2 : (c >>> 1) = (if c.getLsbD 0 then 0x82f63b78#32 else 0#32) := by
    have := congrArg (fun z => z ^^^ (if c.getLsbD 0 then 0x82f63b78#32 else 0#32)) h
    simpa [BitVec.xor_assoc] using this
  have hl := c.isLt
  cases hb : c.getLsbD 0 with
  | true =>
    rw [hb, if_pos rfl] at h2
    have h3 := congrArg BitVec.toNat h2
    rw [BitVec.toNat_ushiftRight, Nat.shiftRight_eq_div_pow] at h3
    simp at h3
    omega
  | false =>
    rw [hb] at h2
    have h3 := congrArg BitVec.toNat h2
    rw [BitVec.toNat_ushiftRight, Nat.shiftRight_eq_div_pow] at h3
    simp at h3
    have h4 : c.toNat % 2 = 0 := by
      have : c.getLsbD 0 = c.toNat.testBit 0 := rfl
      rw [this, Nat.testBit_zero] at hb
      simpa using hb
    apply BitVec.eq_of_toNat_eq
    simp
    omega
theorem SN_inj (n : Nat) : ∀ {c : BitVec 32}, SN n c = 0#32 → c = 0#32 := by
  induction n with
  | zero => intro c h; exact h
  | succ n ih => intro c h; exact S_inj (ih h)
/-- A word that lies behind the low bit comes down. -/
theorem S_shl (x : Nat) (h : x < 2147483648) : S (BitVec.ofNat 32 (2 * x)) = BitVec.ofNat 32 x := by
  unfold S
  have h0 : (BitVec.ofNat 32 (2 * x)).getLsbD 0 = false := by
    rw [BitVec.getLsbD_ofNat, Nat.testBit_zero]
    simp
  rw [h0]
  apply BitVec.eq_of_toNat_eq
  simp [Nat.shiftRight_eq_div_pow]
  omega
theorem SN_shl (n : Nat) : ∀ x : Nat, x * 2 ^ n < 4294967296 → SN n (BitVec.ofNat 32 (x * 2 ^ n)) = BitVec.ofNat 32 x := by
  induction n with
  | zero => intro x _; simp [SN]
  | succ n ih =>
    intro x h
    have e : x * 2 ^ (n + 1) = 2 * (x * 2 ^ n) := by rw [Nat.pow_succ, ← Nat.mul_assoc, Nat.mul_comm]
    rw [e] at h ⊢
    simp only [SN]
    rw [S_shl _ (by omega)]
    exact ih x (by omega)
/-- A word is its low bits and the others. -/
theorem split_bits (x n : Nat) (h : x < 4294967296) : BitVec.ofNat 32 x = BitVec.ofNat 32 (x / 2 ^ n * 2 ^ n) ^^^ BitVec.ofNat 32 (x % 2 ^ n) := by
  apply BitVec.eq_of_toNat_eq
  have h1 : x % 2 ^ n < 2 ^ n := Nat.mod_lt _ (Nat.two_pow_pos n)
  have h2 : x / 2 ^ n * 2 ^ n + x % 2 ^ n = x := by rw [Nat.mul_comm]; exact Nat.div_add_mod x (2 ^ n)
  have h3 : x / 2 ^ n * 2 ^ n ≤ x := Nat.div_mul_le_self x (2 ^ n)
  have h4 : x % 2 ^ n ≤ x := Nat.mod_le _ _
  rw [BitVec.toNat_xor, BitVec.toNat_ofNat, BitVec.toNat_ofNat, BitVec.toNat_ofNat, Nat.mod_eq_of_lt h, Nat.mod_eq_of_lt (by omega), Nat.mod_eq_of_lt (by omega)]
  apply Nat.eq_of_testBit_eq
  intro i
  rw [Nat.testBit_xor]
  have ht := Nat.testBit_two_pow_mul_add (x / 2 ^ n) h1 i
  rw [Nat.mul_comm, h2] at ht
  rw [ht]
  have hz : (x / 2 ^ n * 2 ^ n).testBit i = (if i < n then false else (x / 2 ^ n).testBit (i - n)) := by
    have := Nat.testBit_two_pow_mul_add (x / 2 ^ n) (Nat.two_pow_pos n) i
    rw [Nat.add_zero, Nat.mul_comm] at this
    rw [this]
    simp
  rw [hz]
  by_cases hi : i < n
  · simp [hi]
  · have : (x % 2 ^ n).testBit i = false := Nat.testBit_lt_two_pow (Nat.lt_of_lt_of_le h1 (Nat.pow_le_pow_right (by decide) (by omega)))
    simp [hi, this]

/-- Bytes through the register. -/
def stepB (c : BitVec 32) (b : UInt8) : BitVec 32 := SN 8 (c ^^^ BitVec.ofNat 32 b.toNat)
def crcL (c : BitVec 32) (l : List UInt8) : BitVec 32 := l.foldl stepB c
theorem crcL_append (c : BitVec 32) (l m : List UInt8) : crcL c (l ++ m) = crcL (crcL c l) m := by simp [crcL]
theorem crcL_cons (c : BitVec 32) (b : UInt8) (l : List UInt8) : crcL c (b :: l) = crcL (stepB c b) l := rfl
theorem b8_xor (a b : UInt8) : BitVec.ofNat 32 (a ^^^ b).toNat = BitVec.ofNat 32 a.toNat ^^^ BitVec.ofNat 32 b.toNat := by
  apply BitVec.eq_of_toNat_eq
  have ha := a.toNat_lt
  have hb := b.toNat_lt
  have hx : a.toNat ^^^ b.toNat < 2 ^ 8 := Nat.xor_lt_two_pow ha hb
  rw [BitVec.toNat_xor, BitVec.toNat_ofNat, BitVec.toNat_ofNat, BitVec.toNat_ofNat, UInt8.toNat_xor, Nat.mod_eq_of_lt (by omega), Nat.mod_eq_of_lt (by omega), Nat.mod_eq_of_lt (by omega)]
theorem crcL_xor : ∀ (l m : List UInt8) (c d : BitVec 32), l.length = m.length → crcL (c ^^^ d) (List.zipWith (· ^^^ ·) l m) = crcL c l ^^^ crcL d m := by
  intro l
  induction l with
  | nil => intro m c d h; cases m with
    | nil => rfl
    | cons b m => simp at h
  | cons a l ih =>
    intro m c d h
    cases m with
    | nil => simp at h
    | cons b m =>
      rw [List.zipWith_cons_cons, crcL_cons, crcL_cons, crcL_cons, ← ih m _ _ (by simpa using h)]
      congr 1
      unfold stepB
      rw [← SN_xor, b8_xor]
      congr 1
      simp only [BitVec.xor_assoc, xlc]
/-- Feeding bits, the lowest first. -/
def bitW (b : Bool) : BitVec 32 := if b then 1#32 else 0#32
def feed (c : BitVec 32) (l : List Bool) : BitVec 32 := l.foldl (fun c b => S (c ^^^ bitW b)) c
def valB : List Bool → Nat
  | [] => 0
  | b :: l => b.toNat + 2 * valB l
theorem valB_lt (l : List Bool) : valB l < 2 ^ l.length := by
  induction l with
  | nil => simp [valB]
  | cons b l ih =>
    simp only [valB, List.length_cons, Nat.pow_succ]
    cases b <;> simp <;> omega
theorem ofNat_bit (b : Bool) (n : Nat) (h : n < 2147483648) : BitVec.ofNat 32 (b.toNat + 2 * n) = bitW b ^^^ BitVec.ofNat 32 (2 * n) := by
  have := split_bits (b.toNat + 2 * n) 1 (by cases b <;> simp <;> omega)
  have e1 : (b.toNat + 2 * n) / 2 ^ 1 * 2 ^ 1 = 2 * n := by cases b <;> simp <;> omega
  have e2 : (b.toNat + 2 * n) % 2 ^ 1 = b.toNat := by cases b <;> simp <;> omega
  rw [e1, e2, BitVec.xor_comm] at this
  rw [this]
  cases b <;> rfl
theorem feed_val : ∀ (l : List Bool) (c : BitVec 32), l.length ≤ 32 → feed c l = SN l.length (c ^^^ BitVec.ofNat 32 (valB l)) := by
  intro l
  induction l with
  | nil => intro c _; simp [feed, valB, SN]
  | cons b l ih =>
    intro c h
    have hl : l.length ≤ 31 := by simpa using h
    have hv := valB_lt l
    have hp : 2 ^ l.length ≤ 2 ^ 31 := Nat.pow_le_pow_right (by decide) hl
    have h2 : valB l < 2147483648 := by omega
    show feed (S (c ^^^ bitW b)) l = SN (l.length + 1) (c ^^^ BitVec.ofNat 32 (b.toNat + 2 * valB l))
    rw [ih _ (by omega), ofNat_bit b _ h2, ← BitVec.xor_assoc]
    simp only [SN]
    rw [S_xor (c ^^^ bitW b), S_shl _ h2]
theorem feed_append (c : BitVec 32) (l m : List Bool) : feed c (l ++ m) = feed (feed c l) m := by simp [feed]
theorem feed_zeros (n : Nat) : ∀ c, feed c (List.replicate n false) = SN n c := by
  induction n with
  | zero => intro c; rfl
  | succ n ih => intro c; rw [List.replicate_succ]; show feed (S (c ^^^ bitW false)) _ = _; rw [ih]; simp [bitW, SN]
def bits8 (n : Nat) : List Bool := (List.range 8).map fun i => n.testBit i
theorem valB_bits8 : ∀ b : Fin 256, valB (bits8 b.val) = b.val := by decide +kernel
theorem stepB_feed (c : BitVec 32) (b : UInt8) : stepB c b = feed c (bits8 b.toNat) := by
  rw [feed_val _ _ (by simp [bits8]), valB_bits8 ⟨b.toNat, b.toNat_lt⟩]
  simp [stepB, bits8]
theorem crcL_feed : ∀ (l : List UInt8) (c : BitVec 32), crcL c l = feed c (l.flatMap fun b => bits8 b.toNat) := by
  intro l
  induction l with
  | nil => intro c; rfl
  | cons b l ih => intro c; rw [crcL_cons, ih, stepB_feed, List.flatMap_cons, feed_append]
theorem valB_zero : ∀ l : List Bool, valB l = 0 → ∀ b ∈ l, b = false := by
  intro l
  induction l with
  | nil => intro _ b hb; simp at hb
  | cons a l ih =>
    intro h b hb
    simp only [valB] at h
    cases List.mem_cons.1 hb with
    | inl e => subst e; cases b with
      | true => simp at h
      | false => rfl
    | inr hm => exact ih (by omega) b hm
/-- Bits of which all that are set lie within 32 that follow one another leave something in the register. -/
theorem feed_burst (p n : Nat) (q : List Bool) (hq : q.length ≤ 32) (h : true ∈ q) : feed 0#32 (List.replicate p false ++ q ++ List.replicate n false) ≠ 0#32 := by
  intro h0
  rw [feed_append, feed_append, feed_zeros, feed_zeros, SN_zero, feed_val q _ hq] at h0
  have h1 := SN_inj _ (SN_inj _ h0)
  rw [BitVec.zero_xor] at h1
  have hv := valB_lt q
  have hp : 2 ^ q.length ≤ 2 ^ 32 := Nat.pow_le_pow_right (by decide) hq
  have h2 := congrArg BitVec.toNat h1
  rw [BitVec.toNat_ofNat, Nat.mod_eq_of_lt (by omega)] at h2
  have := valB_zero q (by simpa using h2) true h
  cases this
/-! the program's numbers, as words -/
theorem wrap_u32n (m : Nat) (h : m < 4294967296) : IntKind.u32.wrap (m : Int) = m := by rw [IntKind.wrap_u32]; omega
theorem ofInt_nat (a : BitVec 32) : BitVec.ofInt 32 (a.toNat : Int) = a := by
  rw [BitVec.ofInt_natCast, BitVec.ofNat_toNat]
  exact BitVec.setWidth_eq a
theorem xorI (a b : BitVec 32) : Go.bits .xor .u32 (a.toNat : Int) (b.toNat : Int) = ((a ^^^ b).toNat : Int) := by
  have h : Go.bits .xor .u32 (a.toNat : Int) (b.toNat : Int) = IntKind.u32.wrap (((BitVec.ofInt 32 (a.toNat : Int)) ^^^ (BitVec.ofInt 32 (b.toNat : Int))).toNat : Int) := rfl
  rw [h, ofInt_nat, ofInt_nat, wrap_u32n _ (a ^^^ b).isLt]
theorem andI (a b : BitVec 32) : Go.bits .and .u32 (a.toNat : Int) (b.toNat : Int) = ((a &&& b).toNat : Int) := by
  have h : Go.bits .and .u32 (a.toNat : Int) (b.toNat : Int) = IntKind.u32.wrap (((BitVec.ofInt 32 (a.toNat : Int)) &&& (BitVec.ofInt 32 (b.toNat : Int))).toNat : Int) := rfl
  rw [h, ofInt_nat, ofInt_nat, wrap_u32n _ (a &&& b).isLt]
theorem wordI (x : Int) (h0 : 0 ≤ x) (h1 : x < 4294967296) : ∃ a : BitVec 32, x = (a.toNat : Int) := by
  refine ⟨BitVec.ofNat 32 x.toNat, ?_⟩
  rw [BitVec.toNat_ofNat, Nat.mod_eq_of_lt (by omega)]
  omega
theorem and1 (a : BitVec 32) : (a &&& 1#32).toNat = a.toNat % 2 := by
  rw [BitVec.toNat_and]
  exact Nat.and_one_is_mod a.toNat
theorem and15n (a : BitVec 32) : (a &&& 15#32).toNat = a.toNat % 16 := by
  rw [BitVec.toNat_and]
  exact Nat.and_two_pow_sub_one_eq_mod a.toNat 4
theorem S_nat (c : BitVec 32) : S c = BitVec.ofNat 32 (c.toNat / 2) ^^^ (if c.toNat % 2 = 1 then 0x82f63b78#32 else 0#32) := by
  unfold S
  have hb : c.getLsbD 0 = decide (c.toNat % 2 = 1) := by
    have : c.getLsbD 0 = c.toNat.testBit 0 := rfl
    rw [this, Nat.testBit_zero]
  have h2 : c >>> 1 = BitVec.ofNat 32 (c.toNat / 2) := by
    have := c.isLt
    apply BitVec.eq_of_toNat_eq
    simp [Nat.shiftRight_eq_div_pow]
    omega
  rw [hb, h2]
  by_cases h : c.toNat % 2 = 1 <;> simp [h]
theorem halfN (c : BitVec 32) : SN 4 c = BitVec.ofNat 32 (c.toNat / 16) ^^^ SN 4 (BitVec.ofNat 32 (c.toNat % 16)) := by
  have hl := c.isLt
  have h := split_bits c.toNat 4 hl
  rw [BitVec.ofNat_toNat, BitVec.setWidth_eq] at h
  have h2 : SN 4 (BitVec.ofNat 32 (c.toNat / 2 ^ 4 * 2 ^ 4)) = BitVec.ofNat 32 (c.toNat / 2 ^ 4) := SN_shl 4 _ (by omega)
  have h3 : SN 4 c = SN 4 (BitVec.ofNat 32 (c.toNat / 2 ^ 4 * 2 ^ 4) ^^^ BitVec.ofNat 32 (c.toNat % 2 ^ 4)) := congrArg (SN 4) h
  rw [h3, SN_xor, h2]
/-! the program's register -/
theorem sxI (c : BitVec 32) : sx (c.toNat : Int) = ((S c).toNat : Int) := by
  have hl := c.isLt
  unfold sx
  have ha : Go.bits .and .u32 (c.toNat : Int) 1 = ((c &&& 1#32).toNat : Int) := andI c 1#32
  have hd : (c.toNat : Int) / 2 = ((BitVec.ofNat 32 (c.toNat / 2)).toNat : Int) := by rw [BitVec.toNat_ofNat, Nat.mod_eq_of_lt (by omega)]; omega
  rw [ha, and1, S_nat]
  by_cases h : c.toNat % 2 = 1
  · rw [h, if_pos (by decide), if_pos rfl, hd]
    exact xorI _ 0x82f63b78#32
  · have h0 : c.toNat % 2 = 0 := by omega
    rw [h0, if_neg (by decide), if_neg (by decide), hd]
    simp
theorem sxNI (c : BitVec 32) (n : Nat) : sxN (c.toNat : Int) n = ((SN n c).toNat : Int) := by
  have hs : ∀ (n : Nat) (c : BitVec 32), SN (n + 1) c = S (SN n c) := fun n c => SN_add n 1 c
  induction n with
  | zero => rfl
  | succ n ih => rw [sxN, ih, sxI, hs]
theorem tabI (k : Nat) (h : k < 16) : tabF k = ((SN 4 (BitVec.ofNat 32 k)).toNat : Int) := by
  have := sxNI (BitVec.ofNat 32 k) 4
  rw [BitVec.toNat_ofNat, Nat.mod_eq_of_lt (by omega)] at this
  exact this
theorem halfI (c : BitVec 32) : half (c.toNat : Int) = ((SN 4 c).toNat : Int) := by
  have hl := c.isLt
  unfold half
  have ha : Go.bits .and .u32 (c.toNat : Int) 15 = ((c &&& 15#32).toNat : Int) := andI c 15#32
  have hd : (c.toNat : Int) / 16 = ((BitVec.ofNat 32 (c.toNat / 16)).toNat : Int) := by rw [BitVec.toNat_ofNat, Nat.mod_eq_of_lt (by omega)]; omega
  rw [ha, and15n, hd, Int.toNat_natCast, tabI _ (Nat.mod_lt _ (by decide)), xorI, ← halfN]
theorem crcBI (c : BitVec 32) (b : UInt8) : crcB (c.toNat : Int) (b.toNat : Int) = ((stepB c b).toNat : Int) := by
  have hb := b.toNat_lt
  unfold crcB stepB
  have hd : (b.toNat : Int) % 4294967296 = ((BitVec.ofNat 32 b.toNat).toNat : Int) := by rw [BitVec.toNat_ofNat, Nat.mod_eq_of_lt (by omega)]; omega
  rw [hd, xorI, halfI, halfI, ← SN_add]
theorem crcWI (c : BitVec 32) (s : ByteArray) : ∀ n : Nat, n ≤ s.size → crcW (c.toNat : Int) s n = ((crcL c (s.data.toList.take n)).toNat : Int) := by
  intro n
  induction n with
  | zero => intro _; simp [crcW, crcL]
  | succ n ih =>
    intro h
    have hl : n < s.data.toList.length := by rw [Array.length_toList]; exact h
    have hbt : bt s n = ((s.data.toList[n]).toNat : Int) := by
      rw [← bt_at s n (by simp; omega)]
      simp [ByteArray.getElem_eq_getElem_data]
    rw [crcW, ih (by omega), hbt, crcBI, List.take_succ_eq_append_getElem hl, crcL_append]
    rfl
theorem maxI : (IntKind.u32.max : Int) = ((4294967295#32).toNat : Int) := by decide
theorem notI (c : BitVec 32) : Go.bits .xor .u32 IntKind.u32.max (c.toNat : Int) = ((4294967295#32 ^^^ c).toNat : Int) := by rw [maxI]; exact xorI _ _
/-- The program's sum, as a word: the register turned at both ends. -/
theorem more_f (c : BitVec 32) (s : ByteArray) (h : s.size ≤ 9223372036854775807) : sum_More.f (c.toNat : Int) s = some ((4294967295#32 ^^^ crcL (4294967295#32 ^^^ c) s.data.toList).toNat : Int) := by
  unfold sum_More.f
  rw [if_pos h, notI, crcWI _ s s.size (Nat.le_refl _), notI, List.take_of_length_le (by rw [Array.length_toList]; exact Nat.le_refl _)]
def crcS (l : List UInt8) : BitVec 32 := 4294967295#32 ^^^ crcL 4294967295#32 l
theorem crc_f (s : ByteArray) (h : s.size ≤ 9223372036854775807) : sum_Crc.f s = some ((crcS s.data.toList).toNat : Int) := by
  unfold sum_Crc.f
  have := more_f 0#32 s h
  rw [show ((0#32 : BitVec 32).toNat : Int) = 0 from rfl] at this
  rw [this]
  simp [crcS]
/-! bits turned -/
def bitAt (l : List UInt8) (j : Nat) : Bool := (l.getD (j / 8) 0).toNat.testBit (j % 8)
def flipAt (t : List UInt8) (b : Nat) : List UInt8 := t.set (b / 8) (t.getD (b / 8) 0 ^^^ UInt8.ofNat (2 ^ (b % 8)))
def flips (p pat : Nat) : Nat → List UInt8 → List UInt8
  | 0, t => t
  | n + 1, t => if pat.testBit n = true ∧ (p + n) / 8 < t.length then flipAt (flips p pat n t) (p + n) else flips p pat n t
def turnedN (p pat len : Nat) : Nat → Bool
  | 0 => false
  | n + 1 => if pat.testBit n = true ∧ (p + n) / 8 < len then true else turnedN p pat len n
theorem flipAt_len (t : List UInt8) (b : Nat) : (flipAt t b).length = t.length := by simp [flipAt]
theorem flips_len (p pat : Nat) (t : List UInt8) : ∀ n, (flips p pat n t).length = t.length := by
  intro n
  induction n with
  | zero => rfl
  | succ n ih =>
    simp only [flips]
    split
    · rw [flipAt_len, ih]
    · exact ih
theorem xor_pow (a : UInt8) (k : Nat) (h : k < 8) : (a ^^^ UInt8.ofNat (2 ^ k)).toNat = a.toNat ^^^ 2 ^ k := by
  rw [UInt8.toNat_xor]
  congr 1
  have hk : k = 0 ∨ k = 1 ∨ k = 2 ∨ k = 3 ∨ k = 4 ∨ k = 5 ∨ k = 6 ∨ k = 7 := by omega
  rcases hk with rfl | rfl | rfl | rfl | rfl | rfl | rfl | rfl <;> rfl
theorem bitAt_flip (t : List UInt8) (b j : Nat) (h : b / 8 < t.length) : bitAt (flipAt t b) j = Bool.xor (bitAt t j) (decide (b = j)) := by
  unfold bitAt flipAt
  by_cases e : b / 8 = j / 8
  · rw [List.getD_eq_getElem?_getD, e, List.getElem?_set_self (by omega), Option.getD_some, xor_pow _ _ (by omega), Nat.testBit_xor, Nat.testBit_two_pow]
    congr 1
    by_cases q : b = j
    · rw [q]; simp
    · have : ¬ b % 8 = j % 8 := by omega
      simp [q, this]
  · have q : ¬ b = j := fun h => e (by rw [h])
    rw [List.getD_eq_getElem?_getD, List.getElem?_set_ne e, ← List.getD_eq_getElem?_getD]
    simp [q]
def diffB (p pat n j : Nat) : Bool := decide (p ≤ j ∧ j < p + n) && pat.testBit (j - p)
theorem flips_bit (p pat : Nat) (t : List UInt8) (j : Nat) (hj : j / 8 < t.length) : ∀ n, bitAt (flips p pat n t) j = Bool.xor (bitAt t j) (diffB p pat n j) := by
  intro n
  induction n with
  | zero =>
    have : ¬ (p ≤ j ∧ j < p + 0) := by omega
    simp only [flips, diffB, this, decide_false, Bool.false_and, Bool.xor_false]
  | succ n ih =>
    have step : diffB p pat (n + 1) j = Bool.xor (diffB p pat n j) (decide (p + n = j) && pat.testBit n) := by
      unfold diffB
      by_cases e : p + n = j
      · subst e
        have : ¬ (p ≤ p + n ∧ p + n < p + n) := by omega
        simp
      · have q : (p ≤ j ∧ j < p + (n + 1)) ↔ (p ≤ j ∧ j < p + n) := by omega
        simp [e, q]
    rw [step]
    simp only [flips]
    split
    · rename_i h
      rw [bitAt_flip _ _ _ (by rw [flips_len]; exact h.2), ih, h.1]
      simp
    · rename_i h
      rw [ih]
      by_cases e : p + n = j
      · have : pat.testBit n = false := by
          cases hb : pat.testBit n
          · rfl
          · exact absurd ⟨hb, by rw [e]; exact hj⟩ h
        rw [this]; simp
      · simp [e]
theorem bits_map (l : List UInt8) : (l.flatMap fun b => bits8 b.toNat) = (List.range (8 * l.length)).map (bitAt l) := by
  induction l with
  | nil => rfl
  | cons a l ih =>
    rw [List.flatMap_cons, ih, List.length_cons, show 8 * (l.length + 1) = 8 + 8 * l.length by omega, List.range_add, List.map_append, List.map_map]
    have h1 : bits8 a.toNat = (List.range 8).map (bitAt (a :: l)) := by
      unfold bits8
      apply List.map_congr_left
      intro i hi
      have : i < 8 := List.mem_range.1 hi
      unfold bitAt
      rw [show i / 8 = 0 by omega, show i % 8 = i by omega]
      rfl
    have h2 : (List.range (8 * l.length)).map (bitAt l) = (List.range (8 * l.length)).map (bitAt (a :: l) ∘ fun x => 8 + x) := by
      apply List.map_congr_left
      intro i _
      simp only [Function.comp, bitAt]
      rw [show (8 + i) / 8 = i / 8 + 1 by omega, show (8 + i) % 8 = i % 8 by omega]
      rfl
    rw [h1, h2]
theorem bitAt_zip (l m : List UInt8) (h : l.length = m.length) (j : Nat) : bitAt (List.zipWith (· ^^^ ·) l m) j = Bool.xor (bitAt l j) (bitAt m j) := by
  unfold bitAt
  simp only [List.getD_eq_getElem?_getD, List.getElem?_zipWith]
  by_cases hj : j / 8 < l.length
  · rw [List.getElem?_eq_getElem hj, List.getElem?_eq_getElem (h ▸ hj)]
    simp [Nat.testBit_xor]
  · rw [List.getElem?_eq_none (by omega), List.getElem?_eq_none (by omega)]
    simp
theorem map_false (f : Nat → Bool) (n : Nat) (h : ∀ i, i < n → f i = false) : (List.range n).map f = List.replicate n false := by
  apply List.ext_getElem?
  intro i
  by_cases hi : i < n
  · rw [List.getElem?_map, List.getElem?_range hi, List.getElem?_replicate, if_pos hi]
    simp [h i hi]
  · rw [List.getElem?_eq_none (by simp; omega), List.getElem?_eq_none (by simp; omega)]
/-- A burst changes the register. -/
theorem flips_crc (p pat : Nat) (t : List UInt8) (h : turnedN p pat t.length 32 = true) : crcL 0#32 (List.zipWith (· ^^^ ·) (flips p pat 32 t) t) ≠ 0#32 := by
  have ht : ∀ n, turnedN p pat t.length n = true → ∃ i, i < n ∧ pat.testBit i = true ∧ (p + i) / 8 < t.length := by
    intro n
    induction n with
    | zero => intro h; cases h
    | succ n ih =>
      intro h
      simp only [turnedN] at h
      split at h
      · rename_i g; exact ⟨n, by omega, g⟩
      · obtain ⟨i, h1, h2⟩ := ih h; exact ⟨i, by omega, h2⟩
  obtain ⟨i, hi, hb, hl⟩ := ht 32 h
  have hz : (List.zipWith (· ^^^ ·) (flips p pat 32 t) t).length = t.length := by rw [List.length_zipWith, flips_len, Nat.min_self]
  rw [crcL_feed, bits_map, hz]
  have hm : (List.range (8 * t.length)).map (bitAt (List.zipWith (· ^^^ ·) (flips p pat 32 t) t)) = (List.range (8 * t.length)).map (diffB p pat 32) := by
    apply List.map_congr_left
    intro j hj
    have hj' := List.mem_range.1 hj
    rw [bitAt_zip _ _ (flips_len ..), flips_bit p pat t j (by omega)]
    cases bitAt t j <;> cases diffB p pat 32 j <;> rfl
  rw [hm]
  obtain ⟨m, n, e, hm32, him⟩ : ∃ m n, 8 * t.length = p + (m + n) ∧ m ≤ 32 ∧ i < m ∧ (n = 0 ∨ m = 32) := by
    by_cases q : p + 32 ≤ 8 * t.length
    · exact ⟨32, 8 * t.length - p - 32, by omega, by omega, hi, .inr rfl⟩
    · exact ⟨8 * t.length - p, 0, by omega, by omega, by omega, .inl rfl⟩
  rw [e, List.range_add, List.map_append, List.range_add, List.map_append, List.map_append, ← List.append_assoc, List.map_map, List.map_map, List.map_map]
  have e1 : (List.range p).map (diffB p pat 32) = List.replicate p false := map_false _ _ fun i hi => by
    have : ¬ (p ≤ i ∧ i < p + 32) := by omega
    simp [diffB, this]
  have e2 : (List.range n).map ((diffB p pat 32 ∘ fun x => p + x) ∘ fun x => m + x) = List.replicate n false := map_false _ _ fun i hi => by
    have : ¬ (p ≤ p + (m + i) ∧ p + (m + i) < p + 32) := by omega
    simp only [Function.comp, diffB, this, decide_false, Bool.false_and]
  rw [e1, e2]
  refine feed_burst p n _ (by simp; exact hm32) ?_
  rw [List.mem_map]
  refine ⟨i, List.mem_range.2 him.1, ?_⟩
  have : p ≤ p + i ∧ p + i < p + 32 := by omega
  simp only [Function.comp, diffB, this, and_self, decide_true, Bool.true_and, Nat.add_sub_cancel_left, hb]
theorem flips_none (p pat : Nat) (t : List UInt8) : ∀ n, turnedN p pat t.length n = false → flips p pat n t = t := by
  intro n
  induction n with
  | zero => intro _; rfl
  | succ n ih =>
    intro h
    simp only [turnedN] at h
    simp only [flips]
    split at h
    · cases h
    · rename_i g
      rw [if_neg g, ih h]
theorem awake_f : meterlaw01_awake.f = some true := by
  unfold meterlaw01_awake.f
  rw [crc_f _ (by decide)]
  have e : (crcS (⟨#[49, 50, 51, 52, 53, 54, 55, 56, 57]⟩ : ByteArray).data.toList).toNat = 3808858755 := by decide +kernel
  rw [e]
  rfl
theorem goes_on (a b : ByteArray) (ha : a.size ≤ 100000) (hb : b.size ≤ 100000) : ∃ c d, sum_Crc.f a = some c ∧ sum_More.f c b = some d ∧ sum_Crc.f (a ++ b) = some d ∧ sum_More.f c ⟨#[]⟩ = some c := by
  have hab : (a ++ b).size ≤ 9223372036854775807 := by rw [ByteArray.size_append]; omega
  have h1 := crc_f a (by omega)
  have h2 := more_f (crcS a.data.toList) b (by omega)
  have h3 := crc_f (a ++ b) hab
  have h4 := more_f (crcS a.data.toList) ⟨#[]⟩ (by decide)
  have ex : ∀ x : BitVec 32, 4294967295#32 ^^^ (4294967295#32 ^^^ x) = x := fun x => by rw [← BitVec.xor_assoc, BitVec.xor_self, BitVec.zero_xor]
  refine ⟨_, _, h1, h2, ?_, ?_⟩
  · rw [h3]
    unfold crcS
    rw [ex, ByteArray.data_append, Array.toList_append, crcL_append]
  · rw [h4]
    unfold crcS
    rw [ex]
    rfl
theorem turned_ne (a : ByteArray) (p pat : Nat) (c : Int) (ha : a.size ≤ 100000) (h : sum_Crc.f a = some c) :
    ∃ e, sum_Crc.f ⟨(flips p pat 32 a.data.toList).toArray⟩ = some e ∧ (turnedN p pat a.data.toList.length 32 = true → e ≠ c) := by
  rw [crc_f a (by omega)] at h
  obtain rfl := Option.some.inj h
  have hs : (⟨(flips p pat 32 a.data.toList).toArray⟩ : ByteArray).size ≤ 9223372036854775807 := by
    show (flips p pat 32 a.data.toList).toArray.size ≤ _
    rw [List.size_toArray, flips_len]
    have : a.data.toList.length = a.size := by simp
    omega
  refine ⟨_, crc_f _ hs, fun ht he => ?_⟩
  have q := flips_crc p pat a.data.toList ht
  apply q
  have e1 : crcS (flips p pat 32 a.data.toList) = crcS a.data.toList := by
    apply BitVec.eq_of_toNat_eq
    exact Int.ofNat.inj he
  have e2 : crcL 4294967295#32 (flips p pat 32 a.data.toList) = crcL 4294967295#32 a.data.toList := by
    unfold crcS at e1
    have := congrArg (fun x => 4294967295#32 ^^^ x) e1
    simpa [← BitVec.xor_assoc] using this
  have := crcL_xor (flips p pat 32 a.data.toList) a.data.toList 4294967295#32 4294967295#32 (flips_len ..)
  rw [e2, BitVec.xor_self, BitVec.xor_self] at this
  exact this

end Go.Proofs.Ytfnpjjpgigoodaa.Pure
