/- Of three texts of one length, xored byte by byte, the sum is the three sums xored: for any text of at most 30000 bytes and two others brought to its length. -/
import Derived.Test.YtfnpjjpgigoodaaPSumLinearx2
namespace Go.Proofs.Ytfnpjjpgigoodaa.Pure
open Go.RowKit Go.Proofs.Ytfnpjjpgigoodaa.PSumLinear Go.Proofs.YtfnpjjpgigoodaaW.PrintWords Go.Proofs.YtfnpjjpgigoodaaW.PrintLast

/-- One bit through the register. -/
def S (c : BitVec 32) : BitVec 32 := (c >>> 1) ^^^ (if c.getLsbD 0 then 0x82f63b78#32 else 0#32)
def SN : Nat → BitVec 32 → BitVec 32
  | 0, c => c
  | n + 1, c => SN n (S c)
theorem xlc (a b c : BitVec 32) : a ^^^ (b ^^^ c) = b ^^^ (a ^^^ c) := by rw [← BitVec.xor_assoc, BitVec.xor_comm a b, BitVec.xor_assoc]
theorem S_xor (a b : BitVec 32) : S (a ^^^ b) = S a ^^^ S b := by
  unfold S
  rw [BitVec.ushiftRight_xor_distrib, BitVec.getLsbD_xor]
  cases a.getLsbD 0 <;> cases b.getLsbD 0 <;> simp [BitVec.xor_assoc, BitVec.xor_comm, xlc]
theorem S_zero : S 0#32 = 0#32 := by decide
theorem SN_xor (n : Nat) : ∀ a b : BitVec 32, SN n (a ^^^ b) = SN n a ^^^ SN n b := by
  induction n with
  | zero => intro a b; rfl
  | succ n ih => intro a b; simp only [SN, S_xor, ih]
theorem SN_zero (n : Nat) : SN n 0#32 = 0#32 := by
  induction n with
  | zero => rfl
  | succ n ih => simp only [SN, S_zero, ih]
theorem SN_add (n m : Nat) : ∀ c, SN (n + m) c = SN m (SN n c) := by
  induction n with
  | zero => intro c; simp [SN]
  | succ n ih => intro c; rw [Nat.succ_add]; exact ih (S c)
theorem S_inj {c : BitVec 32} (h : S c = 0#32) : c = 0#32 := by
  unfold S at h
  have h2 : (c >>> 1) = (if c.getLsbD 0 then 0x82f63b78#32 else 0#32) := by
    have := congrArg (fun z => z ^^^ (if c.getLsbD 0 then 0x82f63b78#32 else 0#32)) h
    simpa [BitVec.xor_assoc] using this
  have hl := c.isLt
  cases hb : c.getLsbD 0 with
  | true =>
    rw [hb, if_pos rfl] at h2
    have h3 := congrArg BitVec.toNat h2
    rw [BitVec.toNat_ushiftRight, Nat.shiftRight_eq_div_pow] at h3
    simp at h3
    omega
  | false =>
    rw [hb] at h2
    have h3 := congrArg BitVec.toNat h2
    rw [BitVec.toNat_ushiftRight, Nat.shiftRight_eq_div_pow] at h3
    simp at h3
    have h4 : c.toNat % 2 = 0 := by
      have : c.getLsbD 0 = c.toNat.testBit 0 := rfl
      rw [this, Nat.testBit_zero] at hb
      simpa using hb
    apply BitVec.eq_of_toNat_eq
    simp
    omega
theorem SN_inj (n : Nat) : ∀ {c : BitVec 32}, SN n c = 0#32 → c = 0#32 := by
  induction n with
  | zero => intro c h; exact h
  | succ n ih => intro c h; exact S_inj (ih h)
/-- A word that lies behind the low bit comes down. -/
theorem S_shl (x : Nat) (h : x < 2147483648) : S (BitVec.ofNat 32 (2 * x)) = BitVec.ofNat 32 x := by
  unfold S
  have h0 : (BitVec.ofNat 32 (2 * x)).getLsbD 0 = false := by
    rw [BitVec.getLsbD_ofNat, Nat.testBit_zero]
    simp
  rw [h0]
  apply BitVec.eq_of_toNat_eq
  simp [Nat.shiftRight_eq_div_pow]
  omega
theorem SN_shl (n : Nat) : ∀ x : Nat, x * 2 ^ n < 4294967296 → SN n (BitVec.ofNat 32 (x * 2 ^ n)) = BitVec.ofNat 32 x := by
  induction n with
  | zero => intro x _; simp [SN]
  | succ n ih =>
    intro x h
    have e : x * 2 ^ (n + 1) = 2 * (x * 2 ^ n) := by rw [Nat.pow_succ, ← Nat.mul_assoc, Nat.mul_comm]
    rw [e] at h ⊢
    simp only [SN]
    rw [S_shl _ (by omega)]
    exact ih x (by omega)
/-- A word is its low bits and the others. -/
theorem split_bits (x n : Nat) (h : x < 4294967296) : BitVec.ofNat 32 x = BitVec.ofNat 32 (x / 2 ^ n * 2 ^ n) ^^^ BitVec.ofNat 32 (x % 2 ^ n) := by
  apply BitVec.eq_of_toNat_eq
  have h1 : x % 2 ^ n < 2 ^ n := Nat.mod_lt _ (Nat.two_pow_pos n)
  have h2 : x / 2 ^ n * 2 ^ n + x % 2 ^ n = x := by rw [Nat.mul_comm]; exact Nat.div_add_mod x (2 ^ n)
  have h3 : x / 2 ^ n * 2 ^ n ≤ x := Nat.div_mul_le_self x (2 ^ n)
  have h4 : x % 2 ^ n ≤ x := Nat.mod_le _ _
  rw [BitVec.toNat_xor, BitVec.toNat_ofNat, BitVec.toNat_ofNat, BitVec.toNat_ofNat, Nat.mod_eq_of_lt h, Nat.mod_eq_of_lt (by omega), Nat.mod_eq_of_lt (by omega)]
  apply Nat.eq_of_testBit_eq
  intro i
  rw [Nat.testBit_xor]
  have ht := Nat.testBit_two_pow_mul_add (x / 2 ^ n) h1 i
  rw [Nat.mul_comm, h2] at ht
  rw [ht]
  have hz : (x / 2 ^ n * 2 ^ n).testBit i = (if i < n then false else (x / 2 ^ n).testBit (i - n)) := by
    have := Nat.testBit_two_pow_mul_add (x / 2 ^ n) (Nat.two_pow_pos n) i
    rw [Nat.add_zero, Nat.mul_comm] at this
    rw [this]
    simp
  rw [hz]
  by_cases hi : i < n
  · simp [hi]
  · have : (x % 2 ^ n).testBit i = false := Nat.testBit_lt_two_pow (Nat.lt_of_lt_of_le h1 (Nat.pow_le_pow_right (by decide) (by omega)))
    simp [hi, this]

/-- Bytes through the register. -/
def stepB (c : BitVec 32) (b : UInt8) : BitVec 32 := SN 8 (c ^^^ BitVec.ofNat 32 b.toNat)
def crcL (c : BitVec 32) (l : List UInt8) : BitVec 32 := l.foldl stepB c
theorem crcL_append (c : BitVec 32) (l m : List UInt8) : crcL c (l ++ m) = crcL (crcL c l) m := by simp [crcL]
theorem crcL_cons (c : BitVec 32) (b : UInt8) (l : List UInt8) : crcL c (b :: l) = crcL (stepB c b) l := rfl
theorem b8_xor (a b : UInt8) : BitVec.ofNat 32 (a ^^^ b).toNat = BitVec.ofNat 32 a.toNat ^^^ BitVec.ofNat 32 b.toNat := by
  apply BitVec.eq_of_toNat_eq
  have ha := a.toNat_lt
  have hb := b.toNat_lt
  have hx : a.toNat ^^^ b.toNat < 2 ^ 8 := Nat.xor_lt_two_pow ha hb
  rw [BitVec.toNat_xor, BitVec.toNat_ofNat, BitVec.toNat_ofNat, BitVec.toNat_ofNat, UInt8.toNat_xor, Nat.mod_eq_of_lt (by omega), Nat.mod_eq_of_lt (by omega), Nat.mod_eq_of_lt (by omega)]
theorem crcL_xor : ∀ (l m : List UInt8) (c d : BitVec 32), l.length = m.length → crcL (c ^^^ d) (List.zipWith (· ^^^ ·) l m) = crcL c l ^^^ crcL d m := by
  intro l
  induction l with
  | nil => intro m c d h; cases m with
    | nil => rfl
    | cons b m => simp at h
  | cons a l ih =>
    intro m c d h
    cases m with
    | nil => simp at h
    | cons b m =>
      rw [List.zipWith_cons_cons, crcL_cons, crcL_cons, crcL_cons, ← ih m _ _ (by simpa using h)]
      congr 1
      unfold stepB
      rw [← SN_xor, b8_xor]
      congr 1
      simp only [BitVec.xor_assoc, xlc]
/-- Feeding bits, the lowest first. -/
def bitW (b : Bool) : BitVec 32 := if b then 1#32 else 0#32
def feed (c : BitVec 32) (l : List Bool) : BitVec 32 := l.foldl (fun c b => S (c ^^^ bitW b)) c
def valB : List Bool → Nat
  | [] => 0
  | b :: l => b.toNat + 2 * valB l
theorem valB_lt (l : List Bool) : valB l < 2 ^ l.length := by
  induction l with
  | nil => simp [valB]
  | cons b l ih =>
    simp only [valB, List.length_cons, Nat.pow_succ]
    cases b <;> simp <;> omega
theorem ofNat_bit (b : Bool) (n : Nat) (h : n < 2147483648) : BitVec.ofNat 32 (b.toNat + 2 * n) = bitW b ^^^ BitVec.ofNat 32 (2 * n) := by
  have := split_bits (b.toNat + 2 * n) 1 (by cases b <;> simp <;> omega)
  have e1 : (b.toNat + 2 * n) / 2 ^ 1 * 2 ^ 1 = 2 * n := by cases b <;> simp <;> omega
  have e2 : (b.toNat + 2 * n) % 2 ^ 1 = b.toNat := by cases b <;> simp <;> omega
  rw [e1, e2, BitVec.xor_comm] at this
  rw [this]
  cases b <;> rfl
theorem feed_val : ∀ (l : List Bool) (c : BitVec 32), l.length ≤ 32 → feed c l = SN l.length (c ^^^ BitVec.ofNat 32 (valB l)) := by
  intro l
  induction l with
  | nil => intro c _; simp [feed, valB, SN]
  | cons b l ih =>
    intro c h
    have hl : l.length ≤ 31 := by simpa using h
    have hv := valB_lt l
    have hp : 2 ^ l.length ≤ 2 ^ 31 := Nat.pow_le_pow_right (by decide) hl
    have h2 : valB l < 2147483648 := by omega
    show feed (S (c ^^^ bitW b)) l = SN (l.length + 1) (c ^^^ BitVec.ofNat 32 (b.toNat + 2 * valB l))
    rw [ih _ (by omega), ofNat_bit b _ h2, ← BitVec.xor_assoc]
    simp only [SN]
    rw [S_xor (c ^^^ bitW b), S_shl _ h2]
theorem feed_append (c : BitVec 32) (l m : List Bool) : feed c (l ++ m) = feed (feed c l) m := by simp [feed]
theorem feed_zeros (n : Nat) : ∀ c, feed c (List.replicate n false) = SN n c := by
  induction n with
  | zero => intro c; rfl
  | succ n ih => intro c; rw [List.replicate_succ]; show feed (S (c ^^^ bitW false)) _ = _; rw [ih]; simp [bitW, SN]
def bits8 (n : Nat) : List Bool := (List.range 8).map fun i => n.testBit i
theorem valB_bits8 : ∀ b : Fin 256, valB (bits8 b.val) = b.val := by decide +kernel
theorem stepB_feed (c : BitVec 32) (b : UInt8) : stepB c b = feed c (bits8 b.toNat) := by
  rw [feed_val _ _ (by simp [bits8]), valB_bits8 ⟨b.toNat, b.toNat_lt⟩]
  simp [stepB, bits8]
theorem crcL_feed : ∀ (l : List UInt8) (c : BitVec 32), crcL c l = feed c (l.flatMap fun b => bits8 b.toNat) := by
  intro l
  induction l with
  | nil => intro c; rfl
  | cons b l ih => intro c; rw [crcL_cons, ih, stepB_feed, List.flatMap_cons, feed_append]
theorem valB_zero : ∀ l : List Bool, valB l = 0 → ∀ b ∈ l, b = false := by
  intro l
  induction l with
  | nil => intro _ b hb; simp at hb
  | cons a l ih =>
    intro h b hb
    simp only [valB] at h
    cases List.mem_cons.1 hb with
    | inl e => subst e; cases b with
      | true => simp at h
      | false => rfl
    | inr hm => exact ih (by omega) b hm
/-- Bits of which all that are set lie within 32 that follow one another leave something in the register. -/
theorem feed_burst (p n : Nat) (q : List Bool) (hq : q.length ≤ 32) (h : true ∈ q) : feed 0#32 (List.replicate p false ++ q ++ List.replicate n false) ≠ 0#32 := by
  intro h0
  rw [feed_append, feed_append, feed_zeros, feed_zeros, SN_zero, feed_val q _ hq] at h0
  have h1 := SN_inj _ (SN_inj _ h0)
  rw [BitVec.zero_xor] at h1
  have hv := valB_lt q
  have hp : 2 ^ q.length ≤ 2 ^ 32 := Nat.pow_le_pow_right (by decide) hq
  have h2 := congrArg BitVec.toNat h1
  rw [BitVec.toNat_ofNat, Nat.mod_eq_of_lt (by omega)] at h2
  have := valB_zero q (by simpa using h2) true h
  cases this
/-! the program's numbers, as words -/
theorem wrap_u32n (m : Nat) (h : m < 4294967296) : IntKind.u32.wrap (m : Int) = m := by rw [IntKind.wrap_u32]; omega
theorem ofInt_nat (a : BitVec 32) : BitVec.ofInt 32 (a.toNat : Int) = a := by
  rw [BitVec.ofInt_natCast, BitVec.ofNat_toNat]
  exact BitVec.setWidth_eq a
theorem xorI (a b : BitVec 32) : Go.bits .xor .u32 (a.toNat : Int) (b.toNat : Int) = ((a ^^^ b).toNat : Int) := by
  have h : Go.bits .xor .u32 (a.toNat : Int) (b.toNat : Int) = IntKind.u32.wrap (((BitVec.ofInt 32 (a.toNat : Int)) ^^^ (BitVec.ofInt 32 (b.toNat : Int))).toNat : Int) := rfl
  rw [h, ofInt_nat, ofInt_nat, wrap_u32n _ (a ^^^ b).isLt]
theorem andI (a b : BitVec 32) : Go.bits .and .u32 (a.toNat : Int) (b.toNat : Int) = ((a &&& b).toNat : Int) := by
  have h : Go.bits .and .u32 (a.toNat : Int) (b.toNat : Int) = IntKind.u32.wrap (((BitVec.ofInt 32 (a.toNat : Int)) &&& (BitVec.ofInt 32 (b.toNat : Int))).toNat : Int) := rfl
  rw [h, ofInt_nat, ofInt_nat, wrap_u32n _ (a &&& b).isLt]
theorem wordI (x : Int) (h0 : 0 ≤ x) (h1 : x < 4294967296) : ∃ a : BitVec 32, x = (a.toNat : Int) := by
  refine ⟨BitVec.ofNat 32 x.toNat, ?_⟩
  rw [BitVec.toNat_ofNat, Nat.mod_eq_of_lt (by omega)]
  omega
theorem and1 (a : BitVec 32) : (a &&& 1#32).toNat = a.toNat % 2 := by
  rw [BitVec.toNat_and]
  exact Nat.and_one_is_mod a.toNat
theorem and15n (a : BitVec 32) : (a &&& 15#32).toNat = a.toNat % 16 := by
  rw [BitVec.toNat_and]
  exact Nat.and_two_pow_sub_one_eq_mod a.toNat 4
theorem S_nat (c : BitVec 32) : S c = BitVec.ofNat 32 (c.toNat / 2) ^^^ (if c.toNat % 2 = 1 then 0x82f63b78#32 else 0#32) := by
  unfold S
  have hb : c.getLsbD 0 = decide (c.toNat % 2 = 1) := by
    have : c.getLsbD 0 = c.toNat.testBit 0 := rfl
    rw [this, Nat.testBit_zero]
  have h2 : c >>> 1 = BitVec.ofNat 32 (c.toNat / 2) := by
    have := c.isLt
    apply BitVec.eq_of_toNat_eq
    simp [Nat.shiftRight_eq_div_pow]
    omega
  rw [hb, h2]
  by_cases h : c.toNat % 2 = 1 <;> simp [h]
theorem halfN (c : BitVec 32) : SN 4 c = BitVec.ofNat 32 (c.toNat / 16) ^^^ SN 4 (BitVec.ofNat 32 (c.toNat % 16)) := by
  have hl := c.isLt
  have h := split_bits c.toNat 4 hl
  rw [BitVec.ofNat_toNat, BitVec.setWidth_eq] at h
  have h2 : SN 4 (BitVec.ofNat 32 (c.toNat / 2 ^ 4 * 2 ^ 4)) = BitVec.ofNat 32 (c.toNat / 2 ^ 4) := SN_shl 4 _ (by omega)
  have h3 : SN 4 c = SN 4 (BitVec.ofNat 32 (c.toNat / 2 ^ 4 * 2 ^ 4) ^^^ BitVec.ofNat 32 (c.toNat % 2 ^ 4)) := congrArg (SN 4) h
  rw [h3, SN_xor, h2]
/-! the program's register -/
theorem sxI (c : BitVec 32) : sx (c.toNat : Int) = ((S c).toNat : Int) := by
  have hl := c.isLt
  unfold sx
  have ha : Go.bits .and .u32 (c.toNat : Int) 1 = ((c &&& 1#32).toNat : Int) := andI c 1#32
  have hd : (c.toNat : Int) / 2 = ((BitVec.ofNat 32 (c.toNat / 2)).toNat : Int) := by rw [BitVec.toNat_ofNat, Nat.mod_eq_of_lt (by omega)]; omega
  rw [ha, and1, S_nat]
  by_cases h : c.toNat % 2 = 1
  · rw [h, if_pos (by decide), if_pos rfl, hd]
    exact xorI _ 0x82f63b78#32
  · have h0 : c.toNat % 2 = 0 := by omega
    rw [h0, if_neg (by decide), if_neg (by decide), hd]
    simp
theorem sxNI (c : BitVec 32) (n : Nat) : sxN (c.toNat : Int) n = ((SN n c).toNat : Int) := by
  have hs : ∀ (n : Nat) (c : BitVec 32), SN (n + 1) c = S (SN n c) := fun n c => SN_add n 1 c
  induction n with
  | zero => rfl
  | succ n ih => rw [sxN, ih, sxI, hs]
theorem tabI (k : Nat) (h : k < 16) : tabF k = ((SN 4 (BitVec.ofNat 32 k)).toNat : Int) := by
  have := sxNI (BitVec.ofNat 32 k) 4
  rw [BitVec.toNat_ofNat, Nat.mod_eq_of_lt (by omega)] at this
  exact this
theorem halfI (c : BitVec 32) : half (c.toNat : Int) = ((SN 4 c).toNat : Int) := by
  have hl := c.isLt
  unfold half
  have ha : Go.bits .and .u32 (c.toNat : Int) 15 = ((c &&& 15#32).toNat : Int) := andI c 15#32
  have hd : (c.toNat : Int) / 16 = ((BitVec.ofNat 32 (c.toNat / 16)).toNat : Int) := by rw [BitVec.toNat_ofNat, Nat.mod_eq_of_lt (by omega)]; omega
  rw [ha, and15n, hd, Int.toNat_natCast, tabI _ (Nat.mod_lt _ (by decide)), xorI, ← halfN]
theorem crcBI (c : BitVec 32) (b : UInt8) : crcB (c.toNat : Int) (b.toNat : Int) = ((stepB c b).toNat : Int) := by
  have hb := b.toNat_lt
  unfold crcB stepB
  have hd : (b.toNat : Int) % 4294967296 = ((BitVec.ofNat 32 b.toNat).toNat : Int) := by rw [BitVec.toNat_ofNat, Nat.mod_eq_of_lt (by omega)]; omega
  rw [hd, xorI, halfI, halfI, ← SN_add]
theorem crcWI (c : BitVec 32) (s : ByteArray) : ∀ n : Nat, n ≤ s.size → crcW (c.toNat : Int) s n = ((crcL c (s.data.toList.take n)).toNat : Int) := by
  intro n
  induction n with
  | zero => intro _; simp [crcW, crcL]
  | succ n ih =>
    intro h
    have hl : n < s.data.toList.length := by rw [Array.length_toList]; exact h
    have hbt : bt s n = ((s.data.toList[n]).toNat : Int) := by
      rw [← bt_at s n (by simp; omega)]
      simp [ByteArray.getElem_eq_getElem_data]
    rw [crcW, ih (by omega), hbt, crcBI, List.take_succ_eq_append_getElem hl, crcL_append]
    rfl
theorem maxI : (IntKind.u32.max : Int) = ((4294967295#32).toNat : Int) := by decide
theorem notI (c : BitVec 32) : Go.bits .xor .u32 IntKind.u32.max (c.toNat : Int) = ((4294967295#32 ^^^ c).toNat : Int) := by rw [maxI]; exact xorI _ _
/-- The program's sum, as a word: the register turned at both ends. -/
theorem more_f (c : BitVec 32) (s : ByteArray) (h : s.size ≤ 9223372036854775807) : sum_More.f (c.toNat : Int) s = some ((4294967295#32 ^^^ crcL (4294967295#32 ^^^ c) s.data.toList).toNat : Int) := by
  unfold sum_More.f
  rw [if_pos h, notI, crcWI _ s s.size (Nat.le_refl _), notI, List.take_of_length_le (by rw [Array.length_toList]; exact Nat.le_refl _)]
def crcS (l : List UInt8) : BitVec 32 := 4294967295#32 ^^^ crcL 4294967295#32 l
theorem crc_f (s : ByteArray) (h : s.size ≤ 9223372036854775807) : sum_Crc.f s = some ((crcS s.data.toList).toNat : Int) := by
  unfold sum_Crc.f
  have := more_f 0#32 s h
  rw [show ((0#32 : BitVec 32).toNat : Int) = 0 from rfl] at this
  rw [this]
  simp [crcS]
theorem awake_f : meterlaw01_awake.f = some true := by
  unfold meterlaw01_awake.f
  rw [crc_f _ (by decide)]
  have e : (crcS (⟨#[49, 50, 51, 52, 53, 54, 55, 56, 57]⟩ : ByteArray).data.toList).toNat = 3808858755 := by decide +kernel
  rw [e]
  rfl
/-- A text's byte; none behind its end. -/
def byteOf (s : ByteArray) (j : Nat) : UInt8 := s.data.toList.getD j 0
theorem bt_byteOf (s : ByteArray) (j : Nat) (h : j < s.size) : bt s j = ((byteOf s j).toNat : Int) := by
  have hl : j < s.data.toList.length := by rw [Array.length_toList]; exact h
  rw [← bt_at s j (by simpa using h)]
  unfold byteOf
  rw [List.getD_eq_getElem?_getD, List.getElem?_eq_getElem hl]
  simp [ByteArray.getElem_eq_getElem_data]
theorem byteOf_far (s : ByteArray) (j : Nat) (h : s.size ≤ j) : byteOf s j = 0 := by
  unfold byteOf
  rw [List.getD_eq_getElem?_getD, List.getElem?_eq_none (by rw [Array.length_toList]; exact h)]
  rfl
/-- The first i of n numbers are f's, the others nothing. -/
def upto (f : Nat → UInt8) (n i : Nat) : List Int := (List.range n).map fun j => if j < i then ((f j).toNat : Int) else 0
theorem upto_zero (f : Nat → UInt8) (n : Nat) : upto f n 0 = List.replicate n 0 := by
  apply List.ext_getElem?
  intro j
  by_cases h : j < n <;> simp [upto, h]
theorem upto_len (f : Nat → UInt8) (n i : Nat) : (upto f n i).length = n := by simp [upto]
theorem upto_set (f : Nat → UInt8) (n i : Nat) : (upto f n i).set i ((f i).toNat : Int) = upto f n (i + 1) := by
  apply List.ext_getElem?
  intro j
  rw [List.getElem?_set]
  by_cases h : i = j
  · subst h
    by_cases hi : i < n <;> simp [upto, hi]
  · rw [if_neg h]
    by_cases hj : j < n
    · by_cases h1 : j < i
      · simp [upto, hj, h1, show j < i + 1 by omega]
      · simp [upto, hj, h1, show ¬ j < i + 1 by omega]
    · simp [upto, hj]
theorem upto_same (f : Nat → UInt8) (n i : Nat) (h : f i = 0) : upto f n i = upto f n (i + 1) := by
  apply List.ext_getElem?
  intro j
  by_cases hj : j < n
  · by_cases h1 : j < i
    · simp [upto, hj, h1, show j < i + 1 by omega]
    · by_cases h2 : j = i
      · subst h2
        simp [upto, hj, h]
      · simp [upto, hj, h1, show ¬ j < i + 1 by omega]
  · simp [upto, hj]
theorem upto_rd (f : Nat → UInt8) (n i : Nat) (h : i < n) : rd (upto f n (i + 1)) (i : Int) = ((f i).toNat : Int) := by
  unfold rd
  rw [Int.toNat_natCast, List.getD_eq_getElem?_getD]
  simp [upto, h]
theorem upto_str (f : Nat → UInt8) (n : Nat) : (strOfNums (upto f n n)).data.toList = (List.range n).map f := by
  apply List.ext_getElem?
  intro j
  by_cases h : j < n
  · simp [strOfNums, upto, h]
  · simp [strOfNums, upto, h]
theorem wrap_u8n (m : Nat) (h : m < 256) : IntKind.u8.wrap (m : Int) = m := by rw [IntKind.wrap_u8]; omega
theorem ofInt8 (a : UInt8) : BitVec.ofInt 8 (a.toNat : Int) = a.toBitVec := by
  rw [BitVec.ofInt_natCast]
  exact BitVec.eq_of_toNat_eq (by rw [BitVec.toNat_ofNat, Nat.mod_eq_of_lt a.toNat_lt]; rfl)
theorem xor8 (a b : UInt8) : Go.bits .xor .u8 (a.toNat : Int) (b.toNat : Int) = ((a ^^^ b).toNat : Int) := by
  have h : Go.bits .xor .u8 (a.toNat : Int) (b.toNat : Int) = IntKind.u8.wrap (((BitVec.ofInt 8 (a.toNat : Int)) ^^^ (BitVec.ofInt 8 (b.toNat : Int))).toNat : Int) := rfl
  rw [h, ofInt8, ofInt8, wrap_u8n _ (a.toBitVec ^^^ b.toBitVec).isLt]
  rfl
theorem list_of (s : ByteArray) : s.data.toList = (List.range s.size).map (byteOf s) := by
  apply List.ext_getElem?
  intro j
  by_cases h : j < s.size
  · have hl : j < s.data.toList.length := by rw [Array.length_toList]; exact h
    rw [List.getElem?_eq_getElem hl]
    simp only [List.getElem?_map, List.getElem?_range h, Option.map_some]
    unfold byteOf
    rw [List.getD_eq_getElem?_getD, List.getElem?_eq_getElem hl]
    rfl
  · rw [List.getElem?_eq_none (by rw [Array.length_toList]; exact Nat.le_of_not_lt h), List.getElem?_eq_none (by simp; omega)]
theorem zip_range (f g : Nat → UInt8) (n : Nat) : List.zipWith (· ^^^ ·) ((List.range n).map f) ((List.range n).map g) = (List.range n).map fun j => f j ^^^ g j := by
  apply List.ext_getElem?
  intro j
  rw [List.getElem?_zipWith]
  by_cases h : j < n <;> simp [h]
theorem crcS_three (f g h : Nat → UInt8) (n : Nat) : crcS ((List.range n).map fun j => f j ^^^ g j ^^^ h j) = crcS ((List.range n).map f) ^^^ crcS ((List.range n).map g) ^^^ crcS ((List.range n).map h) := by
  have e1 : crcL 4294967295#32 ((List.range n).map fun j => f j ^^^ g j ^^^ h j) = crcL (4294967295#32 ^^^ 4294967295#32) ((List.range n).map fun j => f j ^^^ g j) ^^^ crcL 4294967295#32 ((List.range n).map h) := by
    rw [← crcL_xor _ _ _ _ (by simp), zip_range]
    congr 1
  have e2 : crcL (4294967295#32 ^^^ 4294967295#32) ((List.range n).map fun j => f j ^^^ g j) = crcL 4294967295#32 ((List.range n).map f) ^^^ crcL 4294967295#32 ((List.range n).map g) := by
    rw [← crcL_xor _ _ _ _ (by simp), zip_range]
  unfold crcS
  rw [e1, e2]
  generalize crcL 4294967295#32 ((List.range n).map f) = A
  generalize crcL 4294967295#32 ((List.range n).map g) = B
  generalize crcL 4294967295#32 ((List.range n).map h) = C
  generalize 4294967295#32 = M
  simp only [BitVec.xor_assoc]
  rw [xlc A M, ← BitVec.xor_assoc M M]
  simp only [BitVec.xor_self, BitVec.zero_xor]
  rw [xlc M A, xlc M B]
theorem wrap1 (i : Nat) (h : i < 9223372036854775807) : wrap64 ((i : Int) + 1) = ((i + 1 : Nat) : Int) := by unfold wrap64; omega
theorem l0_true (a b c : ByteArray) (ha : a.size ≤ 30000) : ∀ (d i k : Nat), i + d = a.size → d < k →
    meterlaw01_SumLinear.l0 k a b c (upto (byteOf b) a.size i) (upto (byteOf c) a.size i) (upto (fun j => byteOf a j ^^^ byteOf b j ^^^ byteOf c j) a.size i) i = some true := by
  intro d
  induction d with
  | zero =>
    intro i k h hk
    obtain ⟨k, rfl⟩ : ∃ m, k = m + 1 := ⟨k - 1, by omega⟩
    obtain rfl : i = a.size := by omega
    have hz : ∀ f : Nat → UInt8, (strOfNums (upto f a.size a.size)).size = a.size := fun f => by
      show (strOfNums (upto f a.size a.size)).data.size = a.size
      rw [← Array.length_toList, upto_str]
      simp
    simp only [meterlaw01_SumLinear.l0]
    rw [if_neg (by omega), crc_f _ (by rw [hz]; omega), crc_f _ (by omega), crc_f _ (by rw [hz]; omega), crc_f _ (by rw [hz]; omega), upto_str, upto_str, upto_str]
    simp only [Option.bind_some]
    rw [xorI, xorI, crcS_three, ← list_of a]
    simp
  | succ d ih =>
    intro i k h hk
    obtain ⟨k, rfl⟩ : ∃ m, k = m + 1 := ⟨k - 1, by omega⟩
    have hi : i < a.size := by omega
    have hn := ih (i + 1) k (by omega) (by omega)
    have hb := upto_len (byteOf b) a.size i
    have hc := upto_len (byteOf c) a.size i
    have hz := upto_len (fun j => byteOf a j ^^^ byteOf b j ^^^ byteOf c j) a.size i
    have hset := upto_set (fun j => byteOf a j ^^^ byteOf b j ^^^ byteOf c j) a.size i
    have hx : Go.bits .xor .u8 (Go.bits .xor .u8 (bt a i) (rd (upto (byteOf b) a.size (i + 1)) i)) (rd (upto (byteOf c) a.size (i + 1)) i) = ((byteOf a i ^^^ byteOf b i ^^^ byteOf c i).toNat : Int) := by
      rw [bt_byteOf a i hi, upto_rd _ _ _ hi, upto_rd _ _ _ hi, xor8, xor8]
    simp only [meterlaw01_SumLinear.l0]
    rw [if_pos (by omega), wrap1 i (by omega)]
    by_cases h1 : i < b.size
    · have e1 : (upto (byteOf b) a.size i).set (i : Int).toNat (bt b i) = upto (byteOf b) a.size (i + 1) := by rw [Int.toNat_natCast, bt_byteOf b i h1, upto_set]
      rw [if_pos (by omega), if_pos (by omega), if_pos (by omega), e1]
      simp only [Option.bind_some]
      by_cases h2 : i < c.size
      · have e2 : (upto (byteOf c) a.size i).set (i : Int).toNat (bt c i) = upto (byteOf c) a.size (i + 1) := by rw [Int.toNat_natCast, bt_byteOf c i h2, upto_set]
        rw [if_pos (by omega), if_pos (by omega), e2]
        rw [if_pos (by omega), hx, Int.toNat_natCast, hset, hn]
      · have e2 := upto_same (byteOf c) a.size i (byteOf_far c i (by omega))
        rw [e2] at hc ⊢
        rw [if_neg (by omega), if_pos (by omega), if_pos (by omega), hx, Int.toNat_natCast, hset, hn]
    · have e1 := upto_same (byteOf b) a.size i (byteOf_far b i (by omega))
      rw [e1] at hb ⊢
      rw [if_neg (by omega)]
      by_cases h2 : i < c.size
      · have e2 : (upto (byteOf c) a.size i).set (i : Int).toNat (bt c i) = upto (byteOf c) a.size (i + 1) := by rw [Int.toNat_natCast, bt_byteOf c i h2, upto_set]
        rw [if_pos (by omega), if_pos (by omega), if_pos (by omega), e2]
        simp only [Option.bind_some]
        rw [if_pos (by omega), if_pos (by omega), hx, Int.toNat_natCast, hset, hn]
      · have e2 := upto_same (byteOf c) a.size i (byteOf_far c i (by omega))
        rw [e2] at hc ⊢
        rw [if_neg (by omega), if_pos (by omega), if_pos (by omega), if_pos (by omega), if_pos (by omega), hx, Int.toNat_natCast, hset, hn]
theorem j0_true (k : Nat) (a b c : ByteArray) : meterlaw01_SumLinear.j0 (k + 1) a b c true = some true := by
  simp only [meterlaw01_SumLinear.j0, if_true]
theorem j0_false (a b c : ByteArray) (ha : a.size ≤ 30000) (k : Nat) (hk : a.size < k) : meterlaw01_SumLinear.j0 (k + 1) a b c false = some true := by
  simp only [meterlaw01_SumLinear.j0]
  have h := l0_true a b c ha a.size 0 k (by omega) hk
  rw [upto_zero, upto_zero, upto_zero] at h
  rw [if_neg (by simp), if_pos (by omega), if_pos (by omega), Int.toNat_natCast]
  exact h
theorem SumLinear : meterlaw01_SumLinear.Pure := by
  intro a b c _ _ _
  refine ⟨a.size + 2, ?_⟩
  unfold meterlaw01_SumLinear.f
  rw [awake_f]
  simp only [Option.bind_some, if_true]
  by_cases h : (a.size : Int) > 30000
  · rw [if_pos h, j0_true]
  rw [if_neg h]
  by_cases h2 : (b.size : Int) > 30000
  · rw [if_pos h2, j0_true]
  rw [if_neg h2]
  by_cases h3 : (c.size : Int) > 30000
  · rw [decide_eq_true h3, j0_true]
  · rw [decide_eq_false h3, j0_false a b c (by omega) _ (by omega)]

end Go.Proofs.Ytfnpjjpgigoodaa.Pure
