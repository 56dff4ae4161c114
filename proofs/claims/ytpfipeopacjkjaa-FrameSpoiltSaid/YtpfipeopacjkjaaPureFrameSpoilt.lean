/- A frame in which bits are turned within 32 that follow one another is refused as a whole: for any body of at most 16384 bytes, any place and pattern. -/
import Derived.Test.YtpfipeopacjkjaaPFrameSpoiltx3
namespace Go.Proofs.Ytpfipeopacjkjaa.Pure
open Go.RowKit Go.Proofs.Ytpfipeopacjkjaa.PFrameSpoilt Go.Proofs.YtpfipeopacjkjaaW.PrintWords Go.Proofs.YtpfipeopacjkjaaW.PrintLast

--! hand
/-- One bit through the register. -/
def S (c : BitVec 32) : BitVec 32 := (c >>> 1) ^^^ (if c.getLsbD 0 then 0x82f63b78#32 else 0#32)
def SN : Nat → BitVec 32 → BitVec 32
  | 0, c => c
  | n + 1, c => SN n (S c)
theorem xlc (a b c : BitVec 32) : a ^^^ (b ^^^ c) = b ^^^ (a ^^^ c) := by rw [← BitVec.xor_assoc, BitVec.xor_comm a b, BitVec.xor_assoc]
theorem S_xor (a b : BitVec 32) : S (a ^^^ b) = S a ^^^ S b := by
  unfold S
  rw [BitVec.ushiftRight_xor_distrib, BitVec.getLsbD_xor]
  cases a.getLsbD 0 <;> cases b.getLsbD 0 <;> simp [BitVec.xor_assoc, BitVec.xor_comm, xlc]
theorem S_zero : S 0#32 = 0#32 := by decide
theorem SN_xor (n : Nat) : ∀ a b : BitVec 32, SN n (a ^^^ b) = SN n a ^^^ SN n b := by
  induction n with
  | zero => intro a b; rfl
  | succ n ih => intro a b; simp only [SN, S_xor, ih]
theorem SN_zero (n : Nat) : SN n 0#32 = 0#32 := by
  induction n with
  | zero => rfl
  | succ n ih => simp only [SN, S_zero, ih]
theorem SN_add (n m : Nat) : ∀ c, SN (n + m) c = SN m (SN n c) := by
  induction n with
  | zero => intro c; simp [SN]
  | succ n ih => intro c; rw [Nat.succ_add]; exact ih (S c)
theorem S_inj {c : BitVec 32} (h : S c = 0#32) : c = 0#32 := by
  unfold S at h
  have h2 : (c >>> 1) = (if c.getLsbD 0 then 0x82f63b78#32 else 0#32) := by
    have := congrArg (fun z => z ^^^ (if c.getLsbD 0 then 0x82f63b78#32 else 0#32)) h
    simpa [BitVec.xor_assoc] using this
  have hl := c.isLt
  cases hb : c.getLsbD 0 with
  | true =>
    rw [hb, if_pos rfl] at h2
    have h3 := congrArg BitVec.toNat h2
    rw [BitVec.toNat_ushiftRight, Nat.shiftRight_eq_div_pow] at h3
    simp at h3
    omega
  | false =>
    rw [hb] at h2
    have h3 := congrArg BitVec.toNat h2
    rw [BitVec.toNat_ushiftRight, Nat.shiftRight_eq_div_pow] at h3
    simp at h3
    have h4 : c.toNat % 2 = 0 := by
      have : c.getLsbD 0 = c.toNat.testBit 0 := rfl
      rw [this, Nat.testBit_zero] at hb
      simpa using hb
    apply BitVec.eq_of_toNat_eq
    simp
    omega
theorem SN_inj (n : Nat) : ∀ {c : BitVec 32}, SN n c = 0#32 → c = 0#32 := by
  induction n with
  | zero => intro c h; exact h
  | succ n ih => intro c h; exact S_inj (ih h)
/-- A word that lies behind the low bit comes down. -/
theorem S_shl (x : Nat) (h : x < 2147483648) : S (BitVec.ofNat 32 (2 * x)) = BitVec.ofNat 32 x := by
  unfold S
  have h0 : (BitVec.ofNat 32 (2 * x)).getLsbD 0 = false := by
    rw [BitVec.getLsbD_ofNat, Nat.testBit_zero]
    simp
  rw [h0]
  apply BitVec.eq_of_toNat_eq
  simp [Nat.shiftRight_eq_div_pow]
  omega
theorem SN_shl (n : Nat) : ∀ x : Nat, x * 2 ^ n < 4294967296 → SN n (BitVec.ofNat 32 (x * 2 ^ n)) = BitVec.ofNat 32 x := by
  induction n with
  | zero => intro x _; simp [SN]
  | succ n ih =>
    intro x h
    have e : x * 2 ^ (n + 1) = 2 * (x * 2 ^ n) := by rw [Nat.pow_succ, ← Nat.mul_assoc, Nat.mul_comm]
    rw [e] at h ⊢
    simp only [SN]
    rw [S_shl _ (by omega)]
    exact ih x (by omega)
/-- A word is its low bits and the others. -/
theorem split_bits (x n : Nat) (h : x < 4294967296) : BitVec.ofNat 32 x = BitVec.ofNat 32 (x / 2 ^ n * 2 ^ n) ^^^ BitVec.ofNat 32 (x % 2 ^ n) := by
  apply BitVec.eq_of_toNat_eq
  have h1 : x % 2 ^ n < 2 ^ n := Nat.mod_lt _ (Nat.two_pow_pos n)
  have h2 : x / 2 ^ n * 2 ^ n + x % 2 ^ n = x := by rw [Nat.mul_comm]; exact Nat.div_add_mod x (2 ^ n)
  have h3 : x / 2 ^ n * 2 ^ n ≤ x := Nat.div_mul_le_self x (2 ^ n)
  have h4 : x % 2 ^ n ≤ x := Nat.mod_le _ _
  rw [BitVec.toNat_xor, BitVec.toNat_ofNat, BitVec.toNat_ofNat, BitVec.toNat_ofNat, Nat.mod_eq_of_lt h, Nat.mod_eq_of_lt (by omega), Nat.mod_eq_of_lt (by omega)]
  apply Nat.eq_of_testBit_eq
  intro i
  rw [Nat.testBit_xor]
  have ht := Nat.testBit_two_pow_mul_add (x / 2 ^ n) h1 i
  rw [Nat.mul_comm, h2] at ht
  rw [ht]
  have hz : (x / 2 ^ n * 2 ^ n).testBit i = (if i < n then false else (x / 2 ^ n).testBit (i - n)) := by
    have := Nat.testBit_two_pow_mul_add (x / 2 ^ n) (Nat.two_pow_pos n) i
    rw [Nat.add_zero, Nat.mul_comm] at this
    rw [this]
    simp
  rw [hz]
  by_cases hi : i < n
  · simp [hi]
  · have : (x % 2 ^ n).testBit i = false := Nat.testBit_lt_two_pow (Nat.lt_of_lt_of_le h1 (Nat.pow_le_pow_right (by decide) (by omega)))
    simp [hi, this]

/-- Bytes through the register. -/
def stepB (c : BitVec 32) (b : UInt8) : BitVec 32 := SN 8 (c ^^^ BitVec.ofNat 32 b.toNat)
def crcL (c : BitVec 32) (l : List UInt8) : BitVec 32 := l.foldl stepB c
theorem crcL_append (c : BitVec 32) (l m : List UInt8) : crcL c (l ++ m) = crcL (crcL c l) m := by simp [crcL]
theorem crcL_cons (c : BitVec 32) (b : UInt8) (l : List UInt8) : crcL c (b :: l) = crcL (stepB c b) l := rfl
theorem b8_xor (a b : UInt8) : BitVec.ofNat 32 (a ^^^ b).toNat = BitVec.ofNat 32 a.toNat ^^^ BitVec.ofNat 32 b.toNat := by
  apply BitVec.eq_of_toNat_eq
  have ha := a.toNat_lt
  have hb := b.toNat_lt
  have hx : a.toNat ^^^ b.toNat < 2 ^ 8 := Nat.xor_lt_two_pow ha hb
  rw [BitVec.toNat_xor, BitVec.toNat_ofNat, BitVec.toNat_ofNat, BitVec.toNat_ofNat, UInt8.toNat_xor, Nat.mod_eq_of_lt (by omega), Nat.mod_eq_of_lt (by omega), Nat.mod_eq_of_lt (by omega)]
theorem crcL_xor : ∀ (l m : List UInt8) (c d : BitVec 32), l.length = m.length → crcL (c ^^^ d) (List.zipWith (· ^^^ ·) l m) = crcL c l ^^^ crcL d m := by
  intro l
  induction l with
  | nil => intro m c d h; cases m with
    | nil => rfl
    | cons b m => simp at h
  | cons a l ih =>
    intro m c d h
    cases m with
    | nil => simp at h
    | cons b m =>
      rw [List.zipWith_cons_cons, crcL_cons, crcL_cons, crcL_cons, ← ih m _ _ (by simpa using h)]
      congr 1
      unfold stepB
      rw [← SN_xor, b8_xor]
      congr 1
      simp only [BitVec.xor_assoc, xlc]
/-- Feeding bits, the lowest first. -/
def bitW (b : Bool) : BitVec 32 := if b then 1#32 else 0#32
def feed (c : BitVec 32) (l : List Bool) : BitVec 32 := l.foldl (fun c b => S (c ^^^ bitW b)) c
def valB : List Bool → Nat
  | [] => 0
  | b :: l => b.toNat + 2 * valB l
theorem valB_lt (l : List Bool) : valB l < 2 ^ l.length := by
  induction l with
  | nil => simp [valB]
  | cons b l ih =>
    simp only [valB, List.length_cons, Nat.pow_succ]
    cases b <;> simp <;> omega
theorem ofNat_bit (b : Bool) (n : Nat) (h : n < 2147483648) : BitVec.ofNat 32 (b.toNat + 2 * n) = bitW b ^^^ BitVec.ofNat 32 (2 * n) := by
  have := split_bits (b.toNat + 2 * n) 1 (by cases b <;> simp <;> omega)
  have e1 : (b.toNat + 2 * n) / 2 ^ 1 * 2 ^ 1 = 2 * n := by cases b <;> simp <;> omega
  have e2 : (b.toNat + 2 * n) % 2 ^ 1 = b.toNat := by cases b <;> simp <;> omega
  rw [e1, e2, BitVec.xor_comm] at this
  rw [this]
  cases b <;> rfl
theorem feed_val : ∀ (l : List Bool) (c : BitVec 32), l.length ≤ 32 → feed c l = SN l.length (c ^^^ BitVec.ofNat 32 (valB l)) := by
  intro l
  induction l with
  | nil => intro c _; simp [feed, valB, SN]
  | cons b l ih =>
    intro c h
    have hl : l.length ≤ 31 := by simpa using h
    have hv := valB_lt l
    have hp : 2 ^ l.length ≤ 2 ^ 31 := Nat.pow_le_pow_right (by decide) hl
    have h2 : valB l < 2147483648 := by omega
    show feed (S (c ^^^ bitW b)) l = SN (l.length + 1) (c ^^^ BitVec.ofNat 32 (b.toNat + 2 * valB l))
    rw [ih _ (by omega), ofNat_bit b _ h2, ← BitVec.xor_assoc]
    simp only [SN]
    rw [S_xor (c ^^^ bitW b), S_shl _ h2]
theorem feed_append (c : BitVec 32) (l m : List Bool) : feed c (l ++ m) = feed (feed c l) m := by simp [feed]
theorem feed_zeros (n : Nat) : ∀ c, feed c (List.replicate n false) = SN n c := by
  induction n with
  | zero => intro c; rfl
  | succ n ih => intro c; rw [List.replicate_succ]; show feed (S (c ^^^ bitW false)) _ = _; rw [ih]; simp [bitW, SN]
def bits8 (n : Nat) : List Bool := (List.range 8).map fun i => n.testBit i
theorem valB_bits8 : ∀ b : Fin 256, valB (bits8 b.val) = b.val := by decide +kernel
theorem stepB_feed (c : BitVec 32) (b : UInt8) : stepB c b = feed c (bits8 b.toNat) := by
  rw [feed_val _ _ (by simp [bits8]), valB_bits8 ⟨b.toNat, b.toNat_lt⟩]
  simp [stepB, bits8]
theorem crcL_feed : ∀ (l : List UInt8) (c : BitVec 32), crcL c l = feed c (l.flatMap fun b => bits8 b.toNat) := by
  intro l
  induction l with
  | nil => intro c; rfl
  | cons b l ih => intro c; rw [crcL_cons, ih, stepB_feed, List.flatMap_cons, feed_append]
theorem valB_zero : ∀ l : List Bool, valB l = 0 → ∀ b ∈ l, b = false := by
  intro l
  induction l with
  | nil => intro _ b hb; simp at hb
  | cons a l ih =>
    intro h b hb
    simp only [valB] at h
    cases List.mem_cons.1 hb with
    | inl e => subst e; cases b with
      | true => simp at h
      | false => rfl
    | inr hm => exact ih (by omega) b hm
/-- Bits of which all that are set lie within 32 that follow one another leave something in the register. -/
theorem feed_burst (p n : Nat) (q : List Bool) (hq : q.length ≤ 32) (h : true ∈ q) : feed 0#32 (List.replicate p false ++ q ++ List.replicate n false) ≠ 0#32 := by
  intro h0
  rw [feed_append, feed_append, feed_zeros, feed_zeros, SN_zero, feed_val q _ hq] at h0
  have h1 := SN_inj _ (SN_inj _ h0)
  rw [BitVec.zero_xor] at h1
  have hv := valB_lt q
  have hp : 2 ^ q.length ≤ 2 ^ 32 := Nat.pow_le_pow_right (by decide) hq
  have h2 := congrArg BitVec.toNat h1
  rw [BitVec.toNat_ofNat, Nat.mod_eq_of_lt (by omega)] at h2
  have := valB_zero q (by simpa using h2) true h
  cases this
/-! the program's numbers, as words -/
theorem wrap_u32n (m : Nat) (h : m < 4294967296) : IntKind.u32.wrap (m : Int) = m := by rw [IntKind.wrap_u32]; omega
theorem ofInt_nat (a : BitVec 32) : BitVec.ofInt 32 (a.toNat : Int) = a := by
  rw [BitVec.ofInt_natCast, BitVec.ofNat_toNat]
  exact BitVec.setWidth_eq a
theorem xorI (a b : BitVec 32) : Go.bits .xor .u32 (a.toNat : Int) (b.toNat : Int) = ((a ^^^ b).toNat : Int) := by
  have h : Go.bits .xor .u32 (a.toNat : Int) (b.toNat : Int) = IntKind.u32.wrap (((BitVec.ofInt 32 (a.toNat : Int)) ^^^ (BitVec.ofInt 32 (b.toNat : Int))).toNat : Int) := rfl
  rw [h, ofInt_nat, ofInt_nat, wrap_u32n _ (a ^^^ b).isLt]
theorem andI (a b : BitVec 32) : Go.bits .and .u32 (a.toNat : Int) (b.toNat : Int) = ((a &&& b).toNat : Int) := by
  have h : Go.bits .and .u32 (a.toNat : Int) (b.toNat : Int) = IntKind.u32.wrap (((BitVec.ofInt 32 (a.toNat : Int)) &&& (BitVec.ofInt 32 (b.toNat : Int))).toNat : Int) := rfl
  rw [h, ofInt_nat, ofInt_nat, wrap_u32n _ (a &&& b).isLt]
theorem wordI (x : Int) (h0 : 0 ≤ x) (h1 : x < 4294967296) : ∃ a : BitVec 32, x = (a.toNat : Int) := by
  refine ⟨BitVec.ofNat 32 x.toNat, ?_⟩
  rw [BitVec.toNat_ofNat, Nat.mod_eq_of_lt (by omega)]
  omega
theorem and1 (a : BitVec 32) : (a &&& 1#32).toNat = a.toNat % 2 := by
  rw [BitVec.toNat_and]
  exact Nat.and_one_is_mod a.toNat
theorem and15n (a : BitVec 32) : (a &&& 15#32).toNat = a.toNat % 16 := by
  rw [BitVec.toNat_and]
  exact Nat.and_two_pow_sub_one_eq_mod a.toNat 4
theorem S_nat (c : BitVec 32) : S c = BitVec.ofNat 32 (c.toNat / 2) ^^^ (if c.toNat % 2 = 1 then 0x82f63b78#32 else 0#32) := by
  unfold S
  have hb : c.getLsbD 0 = decide (c.toNat % 2 = 1) := by
    have : c.getLsbD 0 = c.toNat.testBit 0 := rfl
    rw [this, Nat.testBit_zero]
  have h2 : c >>> 1 = BitVec.ofNat 32 (c.toNat / 2) := by
    have := c.isLt
    apply BitVec.eq_of_toNat_eq
    simp [Nat.shiftRight_eq_div_pow]
    omega
  rw [hb, h2]
  by_cases h : c.toNat % 2 = 1 <;> simp [h]
theorem halfN (c : BitVec 32) : SN 4 c = BitVec.ofNat 32 (c.toNat / 16) ^^^ SN 4 (BitVec.ofNat 32 (c.toNat % 16)) := by
  have hl := c.isLt
  have h := split_bits c.toNat 4 hl
  rw [BitVec.ofNat_toNat, BitVec.setWidth_eq] at h
  have h2 : SN 4 (BitVec.ofNat 32 (c.toNat / 2 ^ 4 * 2 ^ 4)) = BitVec.ofNat 32 (c.toNat / 2 ^ 4) := SN_shl 4 _ (by omega)
  have h3 : SN 4 c = SN 4 (BitVec.ofNat 32 (c.toNat / 2 ^ 4 * 2 ^ 4) ^^^ BitVec.ofNat 32 (c.toNat % 2 ^ 4)) := congrArg (SN 4) h
  rw [h3, SN_xor, h2]
/-! the program's register -/
theorem sxI (c : BitVec 32) : sx (c.toNat : Int) = ((S c).toNat : Int) := by
  have hl := c.isLt
  unfold sx
  have ha : Go.bits .and .u32 (c.toNat : Int) 1 = ((c &&& 1#32).toNat : Int) := andI c 1#32
  have hd : (c.toNat : Int) / 2 = ((BitVec.ofNat 32 (c.toNat / 2)).toNat : Int) := by rw [BitVec.toNat_ofNat, Nat.mod_eq_of_lt (by omega)]; omega
  rw [ha, and1, S_nat]
  by_cases h : c.toNat % 2 = 1
  · rw [h, if_pos (by decide), if_pos rfl, hd]
    exact xorI _ 0x82f63b78#32
  · have h0 : c.toNat % 2 = 0 := by omega
    rw [h0, if_neg (by decide), if_neg (by decide), hd]
    simp
theorem sxNI (c : BitVec 32) (n : Nat) : sxN (c.toNat : Int) n = ((SN n c).toNat : Int) := by
  have hs : ∀ (n : Nat) (c : BitVec 32), SN (n + 1) c = S (SN n c) := fun n c => SN_add n 1 c
  induction n with
  | zero => rfl
  | succ n ih => rw [sxN, ih, sxI, hs]
theorem tabI (k : Nat) (h : k < 16) : tabF k = ((SN 4 (BitVec.ofNat 32 k)).toNat : Int) := by
  have := sxNI (BitVec.ofNat 32 k) 4
  rw [BitVec.toNat_ofNat, Nat.mod_eq_of_lt (by omega)] at this
  exact this
theorem halfI (c : BitVec 32) : half (c.toNat : Int) = ((SN 4 c).toNat : Int) := by
  have hl := c.isLt
  unfold half
  have ha : Go.bits .and .u32 (c.toNat : Int) 15 = ((c &&& 15#32).toNat : Int) := andI c 15#32
  have hd : (c.toNat : Int) / 16 = ((BitVec.ofNat 32 (c.toNat / 16)).toNat : Int) := by rw [BitVec.toNat_ofNat, Nat.mod_eq_of_lt (by omega)]; omega
  rw [ha, and15n, hd, Int.toNat_natCast, tabI _ (Nat.mod_lt _ (by decide)), xorI, ← halfN]
theorem crcBI (c : BitVec 32) (b : UInt8) : crcB (c.toNat : Int) (b.toNat : Int) = ((stepB c b).toNat : Int) := by
  have hb := b.toNat_lt
  unfold crcB stepB
  have hd : (b.toNat : Int) % 4294967296 = ((BitVec.ofNat 32 b.toNat).toNat : Int) := by rw [BitVec.toNat_ofNat, Nat.mod_eq_of_lt (by omega)]; omega
  rw [hd, xorI, halfI, halfI, ← SN_add]
theorem crcWI (c : BitVec 32) (s : ByteArray) : ∀ n : Nat, n ≤ s.size → crcW (c.toNat : Int) s n = ((crcL c (s.data.toList.take n)).toNat : Int) := by
  intro n
  induction n with
  | zero => intro _; simp [crcW, crcL]
  | succ n ih =>
    intro h
    have hl : n < s.data.toList.length := by rw [Array.length_toList]; exact h
    have hbt : bt s n = ((s.data.toList[n]).toNat : Int) := by
      rw [← bt_at s n (by simp; omega)]
      simp [ByteArray.getElem_eq_getElem_data]
    rw [crcW, ih (by omega), hbt, crcBI, List.take_succ_eq_append_getElem hl, crcL_append]
    rfl
theorem maxI : (IntKind.u32.max : Int) = ((4294967295#32).toNat : Int) := by decide
theorem notI (c : BitVec 32) : Go.bits .xor .u32 IntKind.u32.max (c.toNat : Int) = ((4294967295#32 ^^^ c).toNat : Int) := by rw [maxI]; exact xorI _ _
/-- The program's sum, as a word: the register turned at both ends. -/
theorem more_f (c : BitVec 32) (s : ByteArray) (h : s.size ≤ 9223372036854775807) : sum_More.f (c.toNat : Int) s = some ((4294967295#32 ^^^ crcL (4294967295#32 ^^^ c) s.data.toList).toNat : Int) := by
  unfold sum_More.f
  rw [if_pos h, notI, crcWI _ s s.size (Nat.le_refl _), notI, List.take_of_length_le (by rw [Array.length_toList]; exact Nat.le_refl _)]
def crcS (l : List UInt8) : BitVec 32 := 4294967295#32 ^^^ crcL 4294967295#32 l
theorem crc_f (s : ByteArray) (h : s.size ≤ 9223372036854775807) : sum_Crc.f s = some ((crcS s.data.toList).toNat : Int) := by
  unfold sum_Crc.f
  have := more_f 0#32 s h
  rw [show ((0#32 : BitVec 32).toNat : Int) = 0 from rfl] at this
  rw [this]
  simp [crcS]
/-! frames, plainly -/
/-- The bytes of a word, the lowest first. -/
def leB (n : Nat) : List UInt8 := [UInt8.ofNat (n % 256), UInt8.ofNat (n / 256 % 256), UInt8.ofNat (n / 65536 % 256), UInt8.ofNat (n / 16777216 % 256)]
def wordL : List UInt8 → Nat
  | [] => 0
  | b :: l => b.toNat + 256 * wordL l
theorem leB_len (n : Nat) : (leB n).length = 4 := rfl
theorem u8_mod (n : Nat) : (UInt8.ofNat (n % 256)).toNat = n % 256 := by simp
theorem wordL_leB (n : Nat) (h : n < 4294967296) : wordL (leB n) = n := by
  simp only [leB, wordL, u8_mod]
  omega
theorem leB_wordL (l : List UInt8) (h : l.length = 4) : leB (wordL l) = l := by
  match l, h with
  | [a, b, c, d], _ =>
    have ha := a.toNat_lt
    have hb := b.toNat_lt
    have hc := c.toNat_lt
    have hd := d.toNat_lt
    have e : ∀ (x : UInt8) (m : Nat), m = x.toNat → UInt8.ofNat m = x := fun x m hm => by rw [hm]; exact UInt8.ofNat_toNat
    simp only [leB, wordL]
    rw [e a _ (by omega), e b _ (by omega), e c _ (by omega), e d _ (by omega)]
theorem wordL_lt (l : List UInt8) (h : l.length = 4) : wordL l < 4294967296 := by
  match l, h with
  | [a, b, c, d], _ =>
    have ha := a.toNat_lt
    have hb := b.toNat_lt
    have hc := c.toNat_lt
    have hd := d.toNat_lt
    simp only [wordL]
    omega
theorem leB_inj {n m : Nat} (hn : n < 4294967296) (hm : m < 4294967296) (h : leB n = leB m) : n = m := by
  rw [← wordL_leB n hn, ← wordL_leB m hm, h]
def numsB (l : List UInt8) : List Int := l.map fun b => (b.toNat : Int)
theorem strOf_numsB (l : List UInt8) : strOfNums (numsB l) = ⟨l.toArray⟩ := by
  unfold strOfNums numsB
  rw [List.map_map]
  congr 2
  apply List.ext_getElem?
  intro j
  simp only [List.getElem?_map]
  cases l[j]? <;> simp
theorem bytesOf_numsB (s : ByteArray) : bytesOf s = numsB s.data.toList := rfl
theorem ba_size (l : List UInt8) : (⟨l.toArray⟩ : ByteArray).size = l.length := by
  show l.toArray.size = _
  simp
theorem ba_list (l : List UInt8) : (⟨l.toArray⟩ : ByteArray).data.toList = l := by simp
theorem ba_of (s : ByteArray) : (⟨s.data.toList.toArray⟩ : ByteArray) = s := by
  cases s
  simp
theorem s_len (s : ByteArray) : s.data.toList.length = s.size := by rw [Array.length_toList]; rfl
theorem shr_u64 (x : Int) (n : Nat) (hn : n ≤ 64) : shr .u64 x (n : Int) = x / 2 ^ n := by
  unfold shr
  have hb : IntKind.u64.bits = 64 := rfl
  rw [Int.toNat_natCast, hb, Nat.min_eq_left hn]
theorem putLittle_f (k : Nat) (l : List Int) (x : Nat) (hl : l.length < 1000000) : frame_putLittle.f (k + 5) l (x : Int) 4 = some (l ++ numsB (leB x)) := by
  have st : ∀ (m : Nat) (l : List Int) (i : Nat), i < 4 → l.length < 1000004 → frame_putLittle.l0 (m + 1) l (x : Int) 4 (i : Int) = frame_putLittle.l0 m (l ++ [(x : Int) / 2 ^ (8 * i) % 256]) (x : Int) 4 ((i + 1 : Nat) : Int) := by
    intro m l i hi hl
    simp only [frame_putLittle.l0]
    have hw : wrap64 (8 * (i : Int)) = ((8 * i : Nat) : Int) := by unfold wrap64; omega
    have hw2 : wrap64 ((i : Int) + 1) = ((i + 1 : Nat) : Int) := by unfold wrap64; omega
    rw [if_pos (by omega), hw, if_pos (by omega), if_pos (by omega), hw2, shr_u64 _ _ (by omega)]
  unfold frame_putLittle.f
  have e0 := st (k + 4) l 0 (by omega) (by omega)
  have e1 := st (k + 3) (l ++ [(x : Int) / 2 ^ (8 * 0) % 256]) 1 (by omega) (by simp; omega)
  have e2 := st (k + 2) (l ++ [(x : Int) / 2 ^ (8 * 0) % 256] ++ [(x : Int) / 2 ^ (8 * 1) % 256]) 2 (by omega) (by simp; omega)
  have e3 := st (k + 1) (l ++ [(x : Int) / 2 ^ (8 * 0) % 256] ++ [(x : Int) / 2 ^ (8 * 1) % 256] ++ [(x : Int) / 2 ^ (8 * 2) % 256]) 3 (by omega) (by simp; omega)
  rw [show ((0 : Nat) : Int) = 0 from rfl] at e0
  rw [e0, e1, e2, e3]
  simp only [frame_putLittle.l0]
  rw [if_neg (by omega)]
  congr 1
  simp only [List.append_assoc]
  congr 1
  simp only [numsB, leB, List.map_cons, List.map_nil, List.cons_append, List.nil_append, u8_mod]
  have q0 : (x : Int) / 2 ^ (8 * 0) % 256 = ((x % 256 : Nat) : Int) := by simp
  have q1 : (x : Int) / 2 ^ (8 * 1) % 256 = ((x / 256 % 256 : Nat) : Int) := by simp
  have q2 : (x : Int) / 2 ^ (8 * 2) % 256 = ((x / 65536 % 256 : Nat) : Int) := by simp
  have q3 : (x : Int) / 2 ^ (8 * 3) % 256 = ((x / 16777216 % 256 : Nat) : Int) := by simp
  rw [q0, q1, q2, q3]
theorem put_word (k : Nat) (hk : 5 ≤ k) (l : List Int) (x : Nat) (hx : x < 4294967296) (hl : l.length < 1000000) : frame_put.f k l (x : Int) = some (l ++ numsB (leB x)) := by
  obtain ⟨k, rfl⟩ : ∃ m, k = m + 5 := ⟨k - 5, by omega⟩
  unfold frame_put.f
  have hw : IntKind.u64.wrap (x : Int) = (x : Int) := by
    have : IntKind.u64.wrap (x : Int) = (x : Int) % 18446744073709551616 := by simp [IntKind.wrap, IntKind.bits, IntKind.signed]
    rw [this]
    omega
  rw [hw, putLittle_f k l x hl]
  rfl
def frameL (b : List UInt8) : List UInt8 := leB b.length ++ leB (crcS (leB b.length)).toNat ++ b ++ leB (crcS b).toNat
theorem frameL_len (b : List UInt8) : (frameL b).length = b.length + 12 := by simp [frameL, leB_len]; omega
theorem put_f (k : Nat) (hk : 5 ≤ k) (s : ByteArray) (h : s.size ≤ 16384) : frame_Put.f k s = some (⟨(frameL s.data.toList).toArray⟩, 0) := by
  have h1 := (crcS (leB s.size)).isLt
  have h2 := (crcS s.data.toList).isLt
  have hm : ((s.size : Int)) % 4294967296 = (s.size : Int) := by omega
  unfold frame_Put.f
  rw [if_neg (by omega), hm, put_word k hk [] s.size (by omega) (by simp)]
  simp only [Option.bind_some, List.nil_append]
  rw [strOf_numsB, crc_f _ (by rw [ba_size, leB_len]; omega), ba_list]
  simp only [Option.bind_some]
  rw [put_word k hk _ _ h1 (by simp [numsB, leB_len])]
  simp only [Option.bind_some]
  rw [if_pos (by simp [numsB, leB_len]; omega), crc_f s (by omega)]
  simp only [Option.bind_some]
  rw [put_word k hk _ _ h2 (by simp [numsB, leB_len, bytesOf_length]; omega)]
  simp only [Option.bind_some]
  have e : numsB (leB s.size) ++ numsB (leB (crcS (leB s.size)).toNat) ++ bytesOf s ++ numsB (leB (crcS s.data.toList).toNat) = numsB (frameL s.data.toList) := by
    rw [bytesOf_numsB]
    simp [numsB, frameL]
  rw [e, strOf_numsB]
theorem put_long (k : Nat) (s : ByteArray) (h : 16384 < s.size) : frame_Put.f k s = some (⟨#[]⟩, 3) := by
  unfold frame_Put.f
  rw [if_pos (by omega)]
theorem shl_u64 (x : Int) (n : Nat) (hn : n ≤ 64) : shl .u64 x (n : Int) = IntKind.u64.wrap (x * 2 ^ n) := by
  unfold shl
  have hb : IntKind.u64.bits = 64 := rfl
  rw [Int.toNat_natCast, hb, Nat.min_eq_left hn]
theorem wrap_u64n (m : Nat) (h : m < 18446744073709551616) : IntKind.u64.wrap (m : Int) = m := by
  have : IntKind.u64.wrap (m : Int) = (m : Int) % 18446744073709551616 := by simp [IntKind.wrap, IntKind.bits, IntKind.signed]
  rw [this]
  omega
theorem or_join (x y i : Nat) (hx : x < 2 ^ i) (hs : y * 2 ^ i + x < 18446744073709551616) : Go.bits .or .u64 (x : Int) ((y * 2 ^ i : Nat) : Int) = ((x + y * 2 ^ i : Nat) : Int) := by
  have h : Go.bits .or .u64 (x : Int) ((y * 2 ^ i : Nat) : Int) = IntKind.u64.wrap (((BitVec.ofInt 64 (x : Int)) ||| (BitVec.ofInt 64 ((y * 2 ^ i : Nat) : Int))).toNat : Int) := rfl
  have hx2 : x < 18446744073709551616 := by omega
  have hy2 : y * 2 ^ i < 18446744073709551616 := by omega
  rw [h, BitVec.ofInt_natCast, BitVec.ofInt_natCast, BitVec.toNat_or, BitVec.toNat_ofNat, BitVec.toNat_ofNat, Nat.mod_eq_of_lt hx2, Nat.mod_eq_of_lt hy2, Nat.or_comm, Nat.mul_comm, ← Nat.two_pow_add_eq_or_of_lt hx, wrap_u64n _ (by rw [Nat.mul_comm]; exact hs), Nat.add_comm]
theorem bt_list (s : ByteArray) (i : Nat) (h : i < s.data.toList.length) : bt s i = ((s.data.toList[i]).toNat : Int) := by
  have h2 : i < s.size := by rw [← s_len]; exact h
  rw [← bt_at s i (by simpa using h2)]
  simp [ByteArray.getElem_eq_getElem_data]
theorem getLittle_f (k : Nat) (s : ByteArray) (h : s.size = 4) : frame_getLittle.f (k + 5) s 4 = some (wordL s.data.toList : Int) := by
  have hl : s.data.toList.length = 4 := by rw [s_len]; exact h
  have st : ∀ (m i x : Nat) (_hi : i < s.data.toList.length), x < 2 ^ (8 * i) → i < 4 → frame_getLittle.l0 (m + 1) s (x : Int) 4 (i : Int) = frame_getLittle.l0 m s ((x + (s.data.toList[i]).toNat * 2 ^ (8 * i) : Nat) : Int) 4 ((i + 1 : Nat) : Int) := by
    intro m i x hi hx hi4
    simp only [frame_getLittle.l0]
    have hw : wrap64 (8 * (i : Int)) = ((8 * i : Nat) : Int) := by unfold wrap64; omega
    have hw2 : wrap64 ((i : Int) + 1) = ((i + 1 : Nat) : Int) := by unfold wrap64; omega
    have hb := (s.data.toList[i]).toNat_lt
    have hp : 2 ^ (8 * i) ≤ 2 ^ 24 := Nat.pow_le_pow_right (by decide) (by omega)
    have hm : (s.data.toList[i]).toNat * 2 ^ (8 * i) ≤ 255 * 2 ^ 24 := Nat.mul_le_mul (by omega) hp
    have hc : ((s.data.toList[i]).toNat : Int) * 2 ^ (8 * i) = (((s.data.toList[i]).toNat * 2 ^ (8 * i) : Nat) : Int) := by simp
    rw [if_pos (by omega), if_pos (by omega), if_pos (by omega), hw, if_pos (by omega), hw2, bt_list s i hi, wrap_u64n _ (by omega), shl_u64 _ _ (by omega), hc, wrap_u64n _ (by omega), or_join _ _ _ hx (by omega)]
  unfold frame_getLittle.f
  match hs : s.data.toList, hl with
  | [a, b, c, d], _ =>
    rw [hs] at st
    have ha := a.toNat_lt
    have hb := b.toNat_lt
    have hc := c.toNat_lt
    have e0 := st (k + 4) 0 0 (by simp) (by omega) (by omega)
    have e1 := st (k + 3) 1 (0 + a.toNat * 2 ^ (8 * 0)) (by simp) (by omega) (by omega)
    have e2 := st (k + 2) 2 (0 + a.toNat * 2 ^ (8 * 0) + b.toNat * 2 ^ (8 * 1)) (by simp) (by omega) (by omega)
    have e3 := st (k + 1) 3 (0 + a.toNat * 2 ^ (8 * 0) + b.toNat * 2 ^ (8 * 1) + c.toNat * 2 ^ (8 * 2)) (by simp) (by omega) (by omega)
    simp only [List.getElem_cons_zero, List.getElem_cons_succ] at e0 e1 e2 e3
    rw [show ((0 : Nat) : Int) = 0 from rfl] at e0
    rw [e0, e1, e2, e3]
    simp only [frame_getLittle.l0]
    rw [if_neg (by omega)]
    congr 1
    simp only [wordL]
    omega
theorem ext_list (s : ByteArray) (i j : Nat) : (s.extract i j).data.toList = (s.data.toList.take j).drop i := by
  rw [ByteArray.data_extract, Array.toList_extract, List.extract_eq_take_drop, List.drop_take]
theorem ext_len (s : ByteArray) (i j : Nat) (h : j ≤ s.size) : (s.extract i j).size = j - i := by
  rw [ByteArray.size_extract]
  omega
/-- The four bytes from a place on, as a number. -/
theorem get_f (k : Nat) (hk : 5 ≤ k) (s : ByteArray) (hs : s.size ≤ 140737488351232) (i : Nat) (h : i + 4 ≤ s.size) : frame_get.f k s (i : Int) = some (wordL ((s.data.toList.drop i).take 4) : Int) := by
  obtain ⟨k, rfl⟩ : ∃ m, k = m + 5 := ⟨k - 5, by omega⟩
  unfold frame_get.f
  have hw : wrap64 ((i : Int) + 4) = ((i + 4 : Nat) : Int) := by unfold wrap64; omega
  have he : (s.extract i (i + 4)).data.toList = (s.data.toList.drop i).take 4 := by rw [ext_list, List.drop_take, show i + 4 - i = 4 by omega]
  have hl := wordL_lt ((s.data.toList.drop i).take 4) (by rw [List.length_take, List.length_drop, s_len]; omega)
  rw [if_pos (by omega), hw, if_pos (by omega), if_pos (by omega), Int.toNat_natCast, Int.toNat_natCast, getLittle_f k _ (by rw [ext_len _ _ _ h]; omega), he]
  simp only [Option.bind_some]
  congr 1
  omega
/-- What stands at the beginning of a text: its body and the bytes that it takes, or an error. -/
def readL (r : List UInt8) : List UInt8 × Nat × Int :=
  if r.length < 8 then ([], 0, 7)
  else if wordL ((r.drop 4).take 4) ≠ (crcS (r.take 4)).toNat then ([], 0, 9)
  else if 16384 < wordL (r.take 4) then ([], 0, 3)
  else if r.length < wordL (r.take 4) + 12 then ([], 0, 7)
  else if wordL ((r.drop (8 + wordL (r.take 4))).take 4) ≠ (crcS ((r.drop 8).take (wordL (r.take 4)))).toNat then ([], 0, 9)
  else ((r.drop 8).take (wordL (r.take 4)), wordL (r.take 4) + 12, 0)
def nextL (s : List UInt8) (at_ : Int) : List UInt8 × Int × Int :=
  if at_ < 0 ∨ at_ > s.length then ([], 0, 1)
  else if (readL (s.drop at_.toNat)).2.2 = 0 then ((readL (s.drop at_.toNat)).1, at_ + (readL (s.drop at_.toNat)).2.1, 0)
  else ([], 0, (readL (s.drop at_.toNat)).2.2)
theorem read_7 (r : List UInt8) (h : r.length < 8) : readL r = ([], 0, 7) := by unfold readL; rw [if_pos h]
theorem read_9 (r : List UInt8) (h : ¬ r.length < 8) (hc : wordL ((r.drop 4).take 4) ≠ (crcS (r.take 4)).toNat) : readL r = ([], 0, 9) := by unfold readL; rw [if_neg h, if_pos hc]
theorem read_3 (r : List UInt8) (h : ¬ r.length < 8) (hc : wordL ((r.drop 4).take 4) = (crcS (r.take 4)).toNat) (h3 : 16384 < wordL (r.take 4)) : readL r = ([], 0, 3) := by unfold readL; rw [if_neg h, if_neg (by simpa using hc), if_pos h3]
theorem read_7b (r : List UInt8) (h : ¬ r.length < 8) (hc : wordL ((r.drop 4).take 4) = (crcS (r.take 4)).toNat) (h3 : ¬ 16384 < wordL (r.take 4)) (h7 : r.length < wordL (r.take 4) + 12) : readL r = ([], 0, 7) := by
  unfold readL; rw [if_neg h, if_neg (by simpa using hc), if_neg h3, if_pos h7]
theorem read_9b (r : List UInt8) (h : ¬ r.length < 8) (hc : wordL ((r.drop 4).take 4) = (crcS (r.take 4)).toNat) (h3 : ¬ 16384 < wordL (r.take 4)) (h7 : ¬ r.length < wordL (r.take 4) + 12)
    (h9 : wordL ((r.drop (8 + wordL (r.take 4))).take 4) ≠ (crcS ((r.drop 8).take (wordL (r.take 4)))).toNat) : readL r = ([], 0, 9) := by
  unfold readL; rw [if_neg h, if_neg (by simpa using hc), if_neg h3, if_neg h7, if_pos h9]
theorem read_0 (r : List UInt8) (h : ¬ r.length < 8) (hc : wordL ((r.drop 4).take 4) = (crcS (r.take 4)).toNat) (h3 : ¬ 16384 < wordL (r.take 4)) (h7 : ¬ r.length < wordL (r.take 4) + 12)
    (h9 : wordL ((r.drop (8 + wordL (r.take 4))).take 4) = (crcS ((r.drop 8).take (wordL (r.take 4)))).toNat) : readL r = ((r.drop 8).take (wordL (r.take 4)), wordL (r.take 4) + 12, 0) := by
  unfold readL; rw [if_neg h, if_neg (by simpa using hc), if_neg h3, if_neg h7, if_neg (by simpa using h9)]
theorem wr (m : Nat) (h : m < 9223372036854775808) : wrap64 (m : Int) = (m : Int) := by unfold wrap64; omega
theorem wr_sub (a b : Nat) (h : a < 9223372036854775808) (hb : b ≤ a) : wrap64 ((a : Int) - (b : Int)) = ((a - b : Nat) : Int) := by unfold wrap64; omega
theorem wr_add (a b : Nat) (h : a + b < 9223372036854775808) : wrap64 ((a : Int) + (b : Int)) = ((a + b : Nat) : Int) := by unfold wrap64; omega
theorem wr_4 (a : Nat) (h : a < 9223372036854775800) : wrap64 ((a : Int) + 4) = ((a + 4 : Nat) : Int) := by unfold wrap64; omega
theorem wr_8 (a : Nat) (h : a < 9223372036854775800) : wrap64 ((a : Int) + 8) = ((a + 8 : Nat) : Int) := by unfold wrap64; omega
theorem bind_s {α β : Type} (a : α) (f : α → Option β) : (some a).bind f = f a := by
  cases h : f a with
  | none => rw [Option.bind_some, h]
  | some b => rw [Option.bind_some, h]
/-- The reading of a place that lies in the text. -/
theorem next_j0 (k : Nat) (hk : 5 ≤ k) (s : ByteArray) (hs : s.size ≤ 140737488351232) (i : Nat) (hi : i ≤ s.size) :
    frame_Next.j0 (k + 1) s (i : Int) false = some (if (readL (s.data.toList.drop i)).2.2 = 0 then (⟨(readL (s.data.toList.drop i)).1.toArray⟩, (i : Int) + (readL (s.data.toList.drop i)).2.1, 0) else (⟨#[]⟩, 0, (readL (s.data.toList.drop i)).2.2)) := by
  have hr : (s.data.toList.drop i).length = s.size - i := by rw [List.length_drop, s_len]
  simp only [frame_Next.j0]
  rw [if_neg (by simp), wr_sub _ _ (by omega) hi, wr_4 _ (by omega), wr_8 _ (by omega)]
  by_cases h8 : s.size - i < 8
  · rw [if_pos (show ((s.size - i : Nat) : Int) < 8 by omega), read_7 _ (by omega)]
    simp
  have g1 := get_f k hk s hs (i + 4) (by omega)
  have g0 := get_f k hk s hs i (by omega)
  have e4 : (s.extract i (i + 4)).data.toList = (s.data.toList.drop i).take 4 := by rw [ext_list, List.drop_take, show i + 4 - i = 4 by omega]
  have d4 : (s.data.toList.drop (i + 4)).take 4 = ((s.data.toList.drop i).drop 4).take 4 := by rw [List.drop_drop]
  have hn := wordL_lt ((s.data.toList.drop i).take 4) (by rw [List.length_take, hr]; omega)
  have c1 := crc_f (s.extract i (i + 4)) (by rw [ext_len _ _ _ (by omega)]; omega)
  have b4 : ∀ m : Nat, (s.data.toList.drop (i + 8 + m)).take 4 = ((s.data.toList.drop i).drop (8 + m)).take 4 := fun m => by rw [List.drop_drop, Nat.add_assoc]
  have b8 : ∀ m : Nat, (s.extract (i + 8) (i + 8 + m)).data.toList = ((s.data.toList.drop i).drop 8).take m := fun m => by rw [ext_list, List.drop_take, show i + 8 + m - (i + 8) = m by omega, List.drop_drop]
  have r9 := read_9 (s.data.toList.drop i)
  have r3 := read_3 (s.data.toList.drop i)
  have r7 := read_7b (s.data.toList.drop i)
  have r9b := read_9b (s.data.toList.drop i)
  have r0 := read_0 (s.data.toList.drop i)
  rw [e4] at c1
  rw [d4] at g1
  rw [hr] at r9 r3 r7 r9b r0
  rw [if_neg (show ¬ ((s.size - i : Nat) : Int) < 8 by omega), g1, g0]
  simp only [bind_s]
  rw [if_pos (show (0 : Int) ≤ i by omega), if_pos (show (i : Int) ≤ ((i + 4 : Nat) : Int) by omega), if_pos (show ((i + 4 : Nat) : Int) ≤ (s.size : Int) by omega), Int.toNat_natCast, Int.toNat_natCast, c1]
  simp only [bind_s]
  generalize readL (s.data.toList.drop i) = rr at *
  generalize s.data.toList.drop i = R at *
  generalize wordL ((R.drop 4).take 4) = A at *
  generalize (crcS (R.take 4)).toNat = C at *
  generalize wordL (R.take 4) = n at *
  clear g0 g1 c1 e4 d4 hr
  by_cases hc : A = C
  · rw [if_pos (show (A : Int) = (C : Int) by omega), wr n (by omega)]
    by_cases h3 : 16384 < n
    · rw [if_pos (show (n : Int) > 16384 by omega), r3 h8 hc h3]
      simp
    clear r3 r9
    rw [if_neg (show ¬ (n : Int) > 16384 by omega), wr_4 n (by omega), wr_sub s.size (i + 8) (by omega) (by omega), wr_add _ _ (by omega), wr_4 (i + 8 + n) (by omega)]
    by_cases h7 : s.size - (i + 8) < n + 4
    · rw [if_pos (show ((s.size - (i + 8) : Nat) : Int) < ((n + 4 : Nat) : Int) by omega), r7 h8 hc h3 (by omega)]
      simp
    have g2 := get_f k hk s hs (i + 8 + n) (by omega)
    have c2 := crc_f (s.extract (i + 8) (i + 8 + n)) (by rw [ext_len _ _ _ (by omega)]; omega)
    rw [b4] at g2
    rw [b8] at c2
    rw [if_neg (show ¬ ((s.size - (i + 8) : Nat) : Int) < ((n + 4 : Nat) : Int) by omega), g2]
    simp only [bind_s]
    rw [if_pos (show (0 : Int) ≤ ((i + 8 : Nat) : Int) by omega), if_pos (show ((i + 8 : Nat) : Int) ≤ ((i + 8 + n : Nat) : Int) by omega), if_pos (show ((i + 8 + n : Nat) : Int) ≤ (s.size : Int) by omega), Int.toNat_natCast, Int.toNat_natCast, c2]
    simp only [bind_s]
    have eb := b8 n
    generalize wordL ((R.drop (8 + n)).take 4) = A2 at *
    generalize hC2 : (crcS ((R.drop 8).take n)).toNat = C2 at *
    by_cases h9 : A2 = C2
    · rw [if_pos (show (A2 : Int) = (C2 : Int) by omega), r0 h8 hc h3 (by omega) h9]
      simp only [if_true]
      rw [← eb, ba_of]
      congr 3
      omega
    · rw [if_neg (show ¬ (A2 : Int) = (C2 : Int) by omega), r9b h8 hc h3 (by omega) h9]
      simp
  · rw [if_neg (show ¬ (A : Int) = (C : Int) by omega), r9 h8 hc]
    simp
theorem next_f (k : Nat) (hk : 6 ≤ k) (s : ByteArray) (hs : s.size ≤ 140737488351232) (a : Int) : frame_Next.f k s a = some (⟨(nextL s.data.toList a).1.toArray⟩, (nextL s.data.toList a).2.1, (nextL s.data.toList a).2.2) := by
  obtain ⟨k, rfl⟩ : ∃ m, k = m + 1 := ⟨k - 1, by omega⟩
  have jt : frame_Next.j0 (k + 1) s a true = some (⟨#[]⟩, 0, 1) := by
    simp only [frame_Next.j0, if_true]
  unfold frame_Next.f
  by_cases h0 : a < 0
  · rw [if_pos h0, jt]
    unfold nextL
    rw [if_pos (.inl h0)]
  rw [if_neg h0]
  by_cases h1 : a > (s.size : Int)
  · rw [decide_eq_true h1, jt]
    unfold nextL
    rw [if_pos (.inr (by rw [s_len]; exact h1))]
  rw [decide_eq_false h1]
  obtain ⟨i, rfl⟩ := Int.eq_ofNat_of_zero_le (show 0 ≤ a by omega)
  rw [next_j0 k (by omega) s hs i (by omega)]
  unfold nextL
  rw [if_neg (show ¬ ((i : Int) < 0 ∨ (i : Int) > s.data.toList.length) by rw [s_len]; omega), Int.toNat_natCast]
  by_cases hz : (readL (s.data.toList.drop i)).2.2 = 0
  · rw [if_pos hz, if_pos hz]
  · rw [if_neg hz, if_neg hz]
theorem frame_parts (b post : List UInt8) : (frameL b ++ post).take 4 = leB b.length ∧ ((frameL b ++ post).drop 4).take 4 = leB (crcS (leB b.length)).toNat ∧ ((frameL b ++ post).drop 8).take b.length = b ∧ ((frameL b ++ post).drop (8 + b.length)).take 4 = leB (crcS b).toNat := by
  have e : frameL b ++ post = leB b.length ++ (leB (crcS (leB b.length)).toNat ++ (b ++ (leB (crcS b).toNat ++ post))) := by simp [frameL]
  have d4 : (frameL b ++ post).drop 4 = leB (crcS (leB b.length)).toNat ++ (b ++ (leB (crcS b).toNat ++ post)) := by rw [e]; exact List.drop_left' (leB_len _)
  have d8 : (frameL b ++ post).drop 8 = b ++ (leB (crcS b).toNat ++ post) := by
    have : (frameL b ++ post).drop 8 = ((frameL b ++ post).drop 4).drop 4 := by rw [List.drop_drop]
    rw [this, d4]
    exact List.drop_left' (leB_len _)
  have d8n : (frameL b ++ post).drop (8 + b.length) = leB (crcS b).toNat ++ post := by
    rw [← List.drop_drop, d8]
    exact List.drop_left' rfl
  refine ⟨?_, ?_, ?_, ?_⟩
  · rw [e]; exact List.take_left' (leB_len _)
  · rw [d4]; exact List.take_left' (leB_len _)
  · rw [d8]; exact List.take_left' rfl
  · rw [d8n]; exact List.take_left' (leB_len _)
theorem read_frame (b post : List UInt8) (h : b.length ≤ 16384) : readL (frameL b ++ post) = (b, b.length + 12, 0) := by
  obtain ⟨p1, p2, p3, p4⟩ := frame_parts b post
  have h1 := (crcS (leB b.length)).isLt
  have h2 := (crcS b).isLt
  have hw : wordL (leB b.length) = b.length := wordL_leB _ (by omega)
  have hl : (frameL b ++ post).length = b.length + 12 + post.length := by rw [List.length_append, frameL_len]
  unfold readL
  rw [p1, hw, p2, p3, p4, wordL_leB _ h1, wordL_leB _ h2]
  rw [if_neg (by omega), if_neg (by simp), if_neg (by omega), if_neg (by omega), if_neg (by simp)]
/-- What is read is just those bytes. -/
theorem read_back (r : List UInt8) (h : (readL r).2.2 = 0) : ∃ b post, b.length ≤ 16384 ∧ r = frameL b ++ post ∧ readL r = (b, b.length + 12, 0) := by
  by_cases h8 : r.length < 8
  · unfold readL at h; rw [if_pos h8] at h; cases h
  by_cases hc : wordL ((r.drop 4).take 4) ≠ (crcS (r.take 4)).toNat
  · unfold readL at h; rw [if_neg h8, if_pos hc] at h; cases h
  by_cases h3 : 16384 < wordL (r.take 4)
  · unfold readL at h; rw [if_neg h8, if_neg hc, if_pos h3] at h; cases h
  by_cases h7 : r.length < wordL (r.take 4) + 12
  · unfold readL at h; rw [if_neg h8, if_neg hc, if_neg h3, if_pos h7] at h; cases h
  by_cases h9 : wordL ((r.drop (8 + wordL (r.take 4))).take 4) ≠ (crcS ((r.drop 8).take (wordL (r.take 4)))).toNat
  · unfold readL at h; rw [if_neg h8, if_neg hc, if_neg h3, if_neg h7, if_pos h9] at h; cases h
  clear h
  generalize hn : wordL (r.take 4) = n at *
  have hb : ((r.drop 8).take n).length = n := by rw [List.length_take, List.length_drop]; omega
  refine ⟨(r.drop 8).take n, r.drop (12 + n), by omega, ?_, ?_⟩
  · have l4 : (r.take 4).length = 4 := by rw [List.length_take]; omega
    have l4b : ((r.drop 4).take 4).length = 4 := by rw [List.length_take, List.length_drop]; omega
    have l4c : ((r.drop (8 + n)).take 4).length = 4 := by rw [List.length_take, List.length_drop]; omega
    have e1 : leB n = r.take 4 := by rw [← hn]; exact leB_wordL _ l4
    have e2 : leB (crcS (leB n)).toNat = (r.drop 4).take 4 := by rw [e1, ← Classical.not_not.1 hc]; exact leB_wordL _ l4b
    have e3 : leB (crcS ((r.drop 8).take n)).toNat = (r.drop (8 + n)).take 4 := by rw [← Classical.not_not.1 h9]; exact leB_wordL _ l4c
    unfold frameL
    rw [hb, e2, e1, e3]
    have q1 : r = r.take 4 ++ r.drop 4 := (List.take_append_drop 4 r).symm
    have q2 : r.drop 4 = (r.drop 4).take 4 ++ r.drop 8 := by
      have := (List.take_append_drop 4 (r.drop 4)).symm
      rwa [List.drop_drop] at this
    have q3 : r.drop 8 = (r.drop 8).take n ++ r.drop (8 + n) := by
      have := (List.take_append_drop n (r.drop 8)).symm
      rwa [List.drop_drop] at this
    have q4 : r.drop (8 + n) = (r.drop (8 + n)).take 4 ++ r.drop (12 + n) := by
      have := (List.take_append_drop 4 (r.drop (8 + n))).symm
      rwa [List.drop_drop, show 8 + n + 4 = 12 + n by omega] at this
    simp only [List.append_assoc]
    rw [← q4, ← q3, ← q2, ← q1]
  · unfold readL
    rw [hn, if_neg h8, if_neg hc, if_neg h3, if_neg h7, if_neg h9, hb]
theorem read_err (r : List UInt8) (h : (readL r).2.2 ≠ 0) : readL r = ([], 0, (readL r).2.2) := by
  unfold readL at h ⊢
  by_cases h8 : r.length < 8
  · rw [if_pos h8]
  rw [if_neg h8] at h ⊢
  by_cases hc : wordL ((r.drop 4).take 4) ≠ (crcS (r.take 4)).toNat
  · rw [if_pos hc]
  rw [if_neg hc] at h ⊢
  by_cases h3 : 16384 < wordL (r.take 4)
  · rw [if_pos h3]
  rw [if_neg h3] at h ⊢
  by_cases h7 : r.length < wordL (r.take 4) + 12
  · rw [if_pos h7]
  rw [if_neg h7] at h ⊢
  by_cases h9 : wordL ((r.drop (8 + wordL (r.take 4))).take 4) ≠ (crcS ((r.drop 8).take (wordL (r.take 4)))).toNat
  · rw [if_pos h9]
  · rw [if_neg h9] at h
    exact absurd rfl h
theorem awake8 : meterlaw03_awake.f 8 = some true := by decide +kernel
theorem awake_f (k : Nat) (hk : 8 ≤ k) : meterlaw03_awake.f k = some true := at_rounds meterlaw03_awake.mono hk awake8
theorem whole_f (k : Nat) (hk : 6 ≤ k) (s : ByteArray) (hs : s.size ≤ 140737488351232) : frame_Whole.f k s = some (if (nextL s.data.toList 0).2.2 = 0 then (if (nextL s.data.toList 0).2.1 = (s.size : Int) then (⟨(nextL s.data.toList 0).1.toArray⟩, (nextL s.data.toList 0).2.2) else (⟨#[]⟩, 8)) else (⟨(nextL s.data.toList 0).1.toArray⟩, (nextL s.data.toList 0).2.2)) := by
  unfold frame_Whole.f
  rw [next_f k hk s hs, bind_s]
  by_cases h : (nextL s.data.toList 0).2.2 = 0
  · rw [if_pos h, if_pos h]
    by_cases h2 : (nextL s.data.toList 0).2.1 = (s.size : Int)
    · rw [if_pos h2, if_pos h2]
    · rw [if_neg h2, if_neg h2]
  · rw [if_neg h, if_neg h]
/-! bits turned -/
def bitAt (l : List UInt8) (j : Nat) : Bool := (l.getD (j / 8) 0).toNat.testBit (j % 8)
def flipAt (t : List UInt8) (b : Nat) : List UInt8 := t.set (b / 8) (t.getD (b / 8) 0 ^^^ UInt8.ofNat (2 ^ (b % 8)))
def flips (p pat : Nat) : Nat → List UInt8 → List UInt8
  | 0, t => t
  | n + 1, t => if pat.testBit n = true ∧ (p + n) / 8 < t.length then flipAt (flips p pat n t) (p + n) else flips p pat n t
def turnedN (p pat len : Nat) : Nat → Bool
  | 0 => false
  | n + 1 => if pat.testBit n = true ∧ (p + n) / 8 < len then true else turnedN p pat len n
theorem flipAt_len (t : List UInt8) (b : Nat) : (flipAt t b).length = t.length := by simp [flipAt]
theorem flips_len (p pat : Nat) (t : List UInt8) : ∀ n, (flips p pat n t).length = t.length := by
  intro n
  induction n with
  | zero => rfl
  | succ n ih =>
    simp only [flips]
    split
    · rw [flipAt_len, ih]
    · exact ih
theorem xor_pow (a : UInt8) (k : Nat) (h : k < 8) : (a ^^^ UInt8.ofNat (2 ^ k)).toNat = a.toNat ^^^ 2 ^ k := by
  rw [UInt8.toNat_xor]
  congr 1
  have hk : k = 0 ∨ k = 1 ∨ k = 2 ∨ k = 3 ∨ k = 4 ∨ k = 5 ∨ k = 6 ∨ k = 7 := by omega
  rcases hk with rfl | rfl | rfl | rfl | rfl | rfl | rfl | rfl <;> rfl
theorem bitAt_flip (t : List UInt8) (b j : Nat) (h : b / 8 < t.length) : bitAt (flipAt t b) j = Bool.xor (bitAt t j) (decide (b = j)) := by
  unfold bitAt flipAt
  by_cases e : b / 8 = j / 8
  · rw [List.getD_eq_getElem?_getD, e, List.getElem?_set_self (by omega), Option.getD_some, xor_pow _ _ (by omega), Nat.testBit_xor, Nat.testBit_two_pow]
    congr 1
    by_cases q : b = j
    · rw [q]; simp
    · have : ¬ b % 8 = j % 8 := by omega
      simp [q, this]
  · have q : ¬ b = j := fun h => e (by rw [h])
    rw [List.getD_eq_getElem?_getD, List.getElem?_set_ne e, ← List.getD_eq_getElem?_getD]
    simp [q]
def diffB (p pat n j : Nat) : Bool := decide (p ≤ j ∧ j < p + n) && pat.testBit (j - p)
theorem flips_bit (p pat : Nat) (t : List UInt8) (j : Nat) (hj : j / 8 < t.length) : ∀ n, bitAt (flips p pat n t) j = Bool.xor (bitAt t j) (diffB p pat n j) := by
  intro n
  induction n with
  | zero =>
    have : ¬ (p ≤ j ∧ j < p + 0) := by omega
    simp only [flips, diffB, this, decide_false, Bool.false_and, Bool.xor_false]
  | succ n ih =>
    have step : diffB p pat (n + 1) j = Bool.xor (diffB p pat n j) (decide (p + n = j) && pat.testBit n) := by
      unfold diffB
      by_cases e : p + n = j
      · subst e
        have : ¬ (p ≤ p + n ∧ p + n < p + n) := by omega
        simp
      · have q : (p ≤ j ∧ j < p + (n + 1)) ↔ (p ≤ j ∧ j < p + n) := by omega
        simp [e, q]
    rw [step]
    simp only [flips]
    split
    · rename_i h
      rw [bitAt_flip _ _ _ (by rw [flips_len]; exact h.2), ih, h.1]
      simp
    · rename_i h
      rw [ih]
      by_cases e : p + n = j
      · have : pat.testBit n = false := by
          cases hb : pat.testBit n
          · rfl
          · exact absurd ⟨hb, by rw [e]; exact hj⟩ h
        rw [this]; simp
      · simp [e]
theorem bits_map (l : List UInt8) : (l.flatMap fun b => bits8 b.toNat) = (List.range (8 * l.length)).map (bitAt l) := by
  induction l with
  | nil => rfl
  | cons a l ih =>
    rw [List.flatMap_cons, ih, List.length_cons, show 8 * (l.length + 1) = 8 + 8 * l.length by omega, List.range_add, List.map_append, List.map_map]
    have h1 : bits8 a.toNat = (List.range 8).map (bitAt (a :: l)) := by
      unfold bits8
      apply List.map_congr_left
      intro i hi
      have : i < 8 := List.mem_range.1 hi
      unfold bitAt
      rw [show i / 8 = 0 by omega, show i % 8 = i by omega]
      rfl
    have h2 : (List.range (8 * l.length)).map (bitAt l) = (List.range (8 * l.length)).map (bitAt (a :: l) ∘ fun x => 8 + x) := by
      apply List.map_congr_left
      intro i _
      simp only [Function.comp, bitAt]
      rw [show (8 + i) / 8 = i / 8 + 1 by omega, show (8 + i) % 8 = i % 8 by omega]
      rfl
    rw [h1, h2]
theorem bitAt_zip (l m : List UInt8) (h : l.length = m.length) (j : Nat) : bitAt (List.zipWith (· ^^^ ·) l m) j = Bool.xor (bitAt l j) (bitAt m j) := by
  unfold bitAt
  simp only [List.getD_eq_getElem?_getD, List.getElem?_zipWith]
  by_cases hj : j / 8 < l.length
  · rw [List.getElem?_eq_getElem hj, List.getElem?_eq_getElem (h ▸ hj)]
    simp [Nat.testBit_xor]
  · rw [List.getElem?_eq_none (by omega), List.getElem?_eq_none (by omega)]
    simp
theorem map_false (f : Nat → Bool) (n : Nat) (h : ∀ i, i < n → f i = false) : (List.range n).map f = List.replicate n false := by
  apply List.ext_getElem?
  intro i
  by_cases hi : i < n
  · rw [List.getElem?_map, List.getElem?_range hi, List.getElem?_replicate, if_pos hi]
    simp [h i hi]
  · rw [List.getElem?_eq_none (by simp; omega), List.getElem?_eq_none (by simp; omega)]
/-- A burst changes the register. -/
theorem flips_crc (p pat : Nat) (t : List UInt8) (h : turnedN p pat t.length 32 = true) : crcL 0#32 (List.zipWith (· ^^^ ·) (flips p pat 32 t) t) ≠ 0#32 := by
  have ht : ∀ n, turnedN p pat t.length n = true → ∃ i, i < n ∧ pat.testBit i = true ∧ (p + i) / 8 < t.length := by
    intro n
    induction n with
    | zero => intro h; cases h
    | succ n ih =>
      intro h
      simp only [turnedN] at h
      split at h
      · rename_i g; exact ⟨n, by omega, g⟩
      · obtain ⟨i, h1, h2⟩ := ih h; exact ⟨i, by omega, h2⟩
  obtain ⟨i, hi, hb, hl⟩ := ht 32 h
  have hz : (List.zipWith (· ^^^ ·) (flips p pat 32 t) t).length = t.length := by rw [List.length_zipWith, flips_len, Nat.min_self]
  rw [crcL_feed, bits_map, hz]
  have hm : (List.range (8 * t.length)).map (bitAt (List.zipWith (· ^^^ ·) (flips p pat 32 t) t)) = (List.range (8 * t.length)).map (diffB p pat 32) := by
    apply List.map_congr_left
    intro j hj
    have hj' := List.mem_range.1 hj
    rw [bitAt_zip _ _ (flips_len ..), flips_bit p pat t j (by omega)]
    cases bitAt t j <;> cases diffB p pat 32 j <;> rfl
  rw [hm]
  obtain ⟨m, n, e, hm32, him⟩ : ∃ m n, 8 * t.length = p + (m + n) ∧ m ≤ 32 ∧ i < m ∧ (n = 0 ∨ m = 32) := by
    by_cases q : p + 32 ≤ 8 * t.length
    · exact ⟨32, 8 * t.length - p - 32, by omega, by omega, hi, .inr rfl⟩
    · exact ⟨8 * t.length - p, 0, by omega, by omega, by omega, .inl rfl⟩
  rw [e, List.range_add, List.map_append, List.range_add, List.map_append, List.map_append, ← List.append_assoc, List.map_map, List.map_map, List.map_map]
  have e1 : (List.range p).map (diffB p pat 32) = List.replicate p false := map_false _ _ fun i hi => by
    have : ¬ (p ≤ i ∧ i < p + 32) := by omega
    simp [diffB, this]
  have e2 : (List.range n).map ((diffB p pat 32 ∘ fun x => p + x) ∘ fun x => m + x) = List.replicate n false := map_false _ _ fun i hi => by
    have : ¬ (p ≤ p + (m + i) ∧ p + (m + i) < p + 32) := by omega
    simp only [Function.comp, diffB, this, decide_false, Bool.false_and]
  rw [e1, e2]
  refine feed_burst p n _ (by simp; exact hm32) ?_
  rw [List.mem_map]
  refine ⟨i, List.mem_range.2 him.1, ?_⟩
  have : p ≤ p + i ∧ p + i < p + 32 := by omega
  simp only [Function.comp, diffB, this, and_self, decide_true, Bool.true_and, Nat.add_sub_cancel_left, hb]
theorem flips_none (p pat : Nat) (t : List UInt8) : ∀ n, turnedN p pat t.length n = false → flips p pat n t = t := by
  intro n
  induction n with
  | zero => intro _; rfl
  | succ n ih =>
    intro h
    simp only [turnedN] at h
    simp only [flips]
    split at h
    · cases h
    · rename_i g
      rw [if_neg g, ih h]
theorem stepB_low (c : BitVec 32) (b : UInt8) : stepB c b = SN 8 c ^^^ SN 8 (BitVec.ofNat 32 b.toNat) := SN_xor 8 _ _
theorem step_le (x : Nat) (h : x < 4294967296) : SN 8 (BitVec.ofNat 32 x) = SN 8 (BitVec.ofNat 32 (x % 256)) ^^^ BitVec.ofNat 32 (x / 256) := by
  have h1 := split_bits x 8 h
  have h2 : SN 8 (BitVec.ofNat 32 (x / 2 ^ 8 * 2 ^ 8)) = BitVec.ofNat 32 (x / 2 ^ 8) := SN_shl 8 _ (by omega)
  have h3 := congrArg (SN 8) h1
  rw [SN_xor, h2, BitVec.xor_comm] at h3
  exact h3
/-- A word fed as its four bytes. -/
theorem feed_word (c : BitVec 32) (x : Nat) (h : x < 4294967296) : crcL c (leB x) = SN 32 (c ^^^ BitVec.ofNat 32 x) := by
  have b : ∀ n : Nat, (UInt8.ofNat (n % 256)).toNat = n % 256 := fun n => by simp
  have e1 := step_le x h
  have e2 := step_le (x / 256) (by omega)
  have e3 := step_le (x / 65536) (by omega)
  have e4 := step_le (x / 16777216) (by omega)
  rw [show x / 256 / 256 = x / 65536 by omega] at e2
  rw [show x / 65536 / 256 = x / 16777216 by omega] at e3
  rw [show x / 16777216 / 256 = 0 by omega] at e4
  unfold leB
  rw [crcL_cons, crcL_cons, crcL_cons, crcL_cons]
  show stepB (stepB (stepB (stepB c _) _) _) _ = _
  rw [stepB_low, stepB_low, stepB_low, stepB_low, b, b, b, b]
  have s32 : ∀ z, SN 32 z = SN 8 (SN 8 (SN 8 (SN 8 z))) := fun z => by rw [← SN_add, ← SN_add, ← SN_add]
  rw [s32, SN_xor 8 c, e1]
  simp only [SN_xor]
  rw [e2]
  simp only [SN_xor]
  rw [e3]
  simp only [SN_xor]
  rw [e4]
  simp only [BitVec.xor_assoc]
  simp
/-- A text with its own sum behind it comes to one register. -/
theorem residue (b : List UInt8) : crcL 4294967295#32 (b ++ leB (crcS b).toNat) = SN 32 4294967295#32 := by
  rw [crcL_append, feed_word _ _ (crcS b).isLt]
  congr 1
  have : BitVec.ofNat 32 (crcS b).toNat = crcS b := by simp
  rw [this]
  unfold crcS
  rw [BitVec.xor_comm, BitVec.xor_assoc, BitVec.xor_self, BitVec.xor_zero]
theorem zip_self_crc (l : List UInt8) : crcL 0#32 (List.zipWith (· ^^^ ·) l l) = 0#32 := by
  have := crcL_xor l l 0#32 0#32 rfl
  rw [BitVec.xor_self, BitVec.xor_self] at this
  exact this
/-- Two frames of one length: what turns one into the other comes to nothing. -/
theorem frames_xor (b c : List UInt8) (h : b.length = c.length) : crcL 0#32 (List.zipWith (· ^^^ ·) (frameL b) (frameL c)) = 0#32 := by
  have e : ∀ d : List UInt8, frameL d = (leB d.length ++ leB (crcS (leB d.length)).toNat) ++ (d ++ leB (crcS d).toNat) := fun d => by unfold frameL; rw [List.append_assoc]
  rw [e b, e c, h, List.zipWith_append (by rfl), crcL_append, zip_self_crc]
  have := crcL_xor (b ++ leB (crcS b).toNat) (c ++ leB (crcS c).toNat) 4294967295#32 4294967295#32 (by rw [List.length_append, List.length_append, h, leB_len, leB_len])
  rw [residue, residue, BitVec.xor_self, BitVec.xor_self] at this
  exact this
theorem spoilt (a : ByteArray) (p pat : Nat) (ha : a.size ≤ 16384) : ∃ fb, frame_Put.f 10 a = some (fb, 0) ∧ ∃ sv gv, frame_Whole.f 10 ⟨(flips p pat 32 fb.data.toList).toArray⟩ = some (sv, gv) ∧
    (turnedN p pat fb.data.toList.length 32 = true → gv ≠ 0) ∧ (turnedN p pat fb.data.toList.length 32 = false → gv = 0 ∧ sv = a) := by
  have hl : a.data.toList.length = a.size := s_len a
  refine ⟨_, put_f 10 (by omega) a ha, ?_⟩
  have e0 : ((⟨(frameL a.data.toList).toArray⟩ : ByteArray)).data.toList = frameL a.data.toList := rfl
  rw [e0]
  have ht := flips_len p pat (frameL a.data.toList) 32
  have hfl := frameL_len a.data.toList
  have hts : ((⟨(flips p pat 32 (frameL a.data.toList)).toArray⟩ : ByteArray)).size = a.size + 12 := by
    show (flips p pat 32 (frameL a.data.toList)).toArray.size = _
    rw [List.size_toArray, ht, hfl, hl]
  have hw := whole_f 10 (by omega) ⟨(flips p pat 32 (frameL a.data.toList)).toArray⟩ (by rw [hts]; omega)
  rw [hts] at hw
  have e1 : ((⟨(flips p pat 32 (frameL a.data.toList)).toArray⟩ : ByteArray)).data.toList = flips p pat 32 (frameL a.data.toList) := rfl
  rw [e1] at hw
  obtain ⟨sv, gv, hv⟩ : ∃ sv gv, (if (nextL (flips p pat 32 (frameL a.data.toList)) 0).2.2 = 0 then (if (nextL (flips p pat 32 (frameL a.data.toList)) 0).2.1 = ((a.size + 12 : Nat) : Int) then ((⟨(nextL (flips p pat 32 (frameL a.data.toList)) 0).1.toArray⟩ : ByteArray), (nextL (flips p pat 32 (frameL a.data.toList)) 0).2.2) else (⟨#[]⟩, 8)) else (⟨(nextL (flips p pat 32 (frameL a.data.toList)) 0).1.toArray⟩, (nextL (flips p pat 32 (frameL a.data.toList)) 0).2.2)) = (sv, gv) := ⟨_, _, rfl⟩
  refine ⟨sv, gv, hw.trans (congrArg some hv), ?_, ?_⟩
  · intro hT hg
    have hx := flips_crc p pat (frameL a.data.toList) hT
    generalize flips p pat 32 (frameL a.data.toList) = T at *
    have hn : nextL T 0 = if (readL T).2.2 = 0 then ((readL T).1, 0 + ((readL T).2.1 : Int), 0) else ([], 0, (readL T).2.2) := by
      unfold nextL
      rw [if_neg (show ¬ ((0 : Int) < 0 ∨ (0 : Int) > (T.length : Int)) by omega)]
      rfl
    by_cases hr : (readL T).2.2 = 0
    · obtain ⟨b, post, hb, he, hrd⟩ := read_back T hr
      rw [if_pos hr, hrd] at hn
      rw [hn, if_pos rfl] at hv
      by_cases hz : (0 : Int) + ((b.length + 12 : Nat) : Int) = ((a.size + 12 : Nat) : Int)
      · have hlen := congrArg List.length he
        rw [List.length_append, frameL_len, ht, hfl, hl] at hlen
        have hp0 : post = [] := List.eq_nil_of_length_eq_zero (by omega)
        rw [hp0, List.append_nil] at he
        rw [he] at hx
        exact hx (frames_xor b a.data.toList (by omega))
      · rw [if_neg hz] at hv
        have h8 : (8 : Int) = gv := congrArg Prod.snd hv
        rw [hg] at h8
        exact absurd h8 (by decide)
    · rw [if_neg hr] at hn
      rw [hn, if_neg hr] at hv
      have h8 : (readL T).2.2 = gv := congrArg Prod.snd hv
      exact hr (h8.trans hg)
  · intro hT
    have hf := flips_none p pat (frameL a.data.toList) 32
    rw [hT] at *
    have hf' : flips p pat 32 (frameL a.data.toList) = frameL a.data.toList := by
      apply hf
      rw [← hT]
    rw [hf'] at hv
    have hr := read_frame a.data.toList [] (by omega)
    rw [List.append_nil] at hr
    have hn : nextL (frameL a.data.toList) 0 = (a.data.toList, 0 + ((a.data.toList.length + 12 : Nat) : Int), 0) := by
      unfold nextL
      rw [if_neg (show ¬ ((0 : Int) < 0 ∨ (0 : Int) > ((frameL a.data.toList).length : Int)) by omega)]
      show (if (readL (frameL a.data.toList)).2.2 = 0 then ((readL (frameL a.data.toList)).1, 0 + ((readL (frameL a.data.toList)).2.1 : Int), 0) else ([], 0, (readL (frameL a.data.toList)).2.2)) = _
      rw [hr]
      rfl
    rw [hn, if_pos rfl, if_pos (show (0 : Int) + ((a.data.toList.length + 12 : Nat) : Int) = ((a.size + 12 : Nat) : Int) by omega)] at hv
    have h1 : (⟨a.data.toList.toArray⟩ : ByteArray) = sv := congrArg Prod.fst hv
    have h2 : (0 : Int) = gv := congrArg Prod.snd hv
    exact ⟨h2.symm, h1.symm.trans (ba_of a)⟩

end Go.Proofs.Ytpfipeopacjkjaa.Pure
