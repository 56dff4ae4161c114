/- The chapter's examples of frames, and the limit. -/
import Derived.Test.YtpfipeopacjkjaaPFrameKnownx3
namespace Go.Proofs.Ytpfipeopacjkjaa.Pure
open Go.RowKit Go.Proofs.Ytpfipeopacjkjaa.PFrameKnown Go.Proofs.YtpfipeopacjkjaaW.PrintWords Go.Proofs.YtpfipeopacjkjaaW.PrintLast

/-- One bit through the register. -/
def S (c : BitVec 32) : BitVec 32 := (c >>> 1) ^^^ (if c.getLsbD 0 then 0x82f63b78#32 else 0#32)
def SN : Nat → BitVec 32 → BitVec 32
  | 0, c => c
  | n + 1, c => SN n (S c)
theorem xlc (a b c : BitVec 32) : a ^^^ (b ^^^ c) = b ^^^ (a ^^^ c) := by rw [← BitVec.xor_assoc, BitVec.xor_comm a b, BitVec.xor_assoc]
theorem S_xor (a b : BitVec 32) : S (a ^^^ b) = S a ^^^ S b := by
  unfold S
  rw [BitVec.ushiftRight_xor_distrib, BitVec.getLsbD_xor]
  cases a.getLsbD 0 <;> cases b.getLsbD 0 <;> simp [BitVec.xor_assoc, BitVec.xor_comm, xlc]
theorem S_zero : S 0#32 = 0#32 := by decide
theorem SN_xor (n : Nat) : ∀ a b : BitVec 32, SN n (a ^^^ b) = SN n a ^^^ SN n b := by
  induction n with
  | zero => intro a b; rfl
  | succ n ih => intro a b; simp only [SN, S_xor, ih]
theorem SN_zero (n : Nat) : SN n 0#32 = 0#32 := by
  induction n with
  | zero => rfl
  | succ n ih => simp only [SN, S_zero, ih]
theorem SN_add (n m : Nat) : ∀ c, SN (n + m) c = SN m (SN n c) := by
  induction n with
  | zero => intro c; simp [SN]
  | succ n ih => intro c; rw [Nat.succ_add]; exact ih (S c)
theorem S_inj {c : BitVec 32} (h : S c = 0#32) : c = 0#32 := by
  unfold S at h
  have h2 : (c >>> 1) = (if c.getLsbD 0 then 0x82f63b78#32 else 0#32) := by
    have := congrArg (fun z => z ^^^ (if c.getLsbD 0 then 0x82f63b78#32 else 0#32)) h
    simpa [BitVec.xor_assoc] using this
  have hl := c.isLt
  cases hb : c.getLsbD 0 with
  | true =>
    rw [hb, if_pos rfl] at h2
    have h3 := congrArg BitVec.toNat h2
    rw [BitVec.toNat_ushiftRight, Nat.shiftRight_eq_div_pow] at h3
    simp at h3
    omega
  | false =>
    rw [hb] at h2
    have h3 := congrArg BitVec.toNat h2
    rw [BitVec.toNat_ushiftRight, Nat.shiftRight_eq_div_pow] at h3
    simp at h3
    have h4 : c.toNat % 2 = 0 := by
      have : c.getLsbD 0 = c.toNat.testBit 0 := rfl
      rw [this, Nat.testBit_zero] at hb
      simpa using hb
    apply BitVec.eq_of_toNat_eq
    simp
    omega
theorem SN_inj (n : Nat) : ∀ {c : BitVec 32}, SN n c = 0#32 → c = 0#32 := by
  induction n with
  | zero => intro c h; exact h
  | succ n ih => intro c h; exact S_inj (ih h)
/-- A word that lies behind the low bit comes down. -/
theorem S_shl (x : Nat) (h : x < 2147483648) : S (BitVec.ofNat 32 (2 * x)) = BitVec.ofNat 32 x := by
  unfold S
  have h0 : (BitVec.ofNat 32 (2 * x)).getLsbD 0 = false := by
    rw [BitVec.getLsbD_ofNat, Nat.testBit_zero]
    simp
  rw [h0]
  apply BitVec.eq_of_toNat_eq
  simp [Nat.shiftRight_eq_div_pow]
  omega
theorem SN_shl (n : Nat) : ∀ x : Nat, x * 2 ^ n < 4294967296 → SN n (BitVec.ofNat 32 (x * 2 ^ n)) = BitVec.ofNat 32 x := by
  induction n with
  | zero => intro x _; simp [SN]
  | succ n ih =>
    intro x h
    have e : x * 2 ^ (n + 1) = 2 * (x * 2 ^ n) := by rw [Nat.pow_succ, ← Nat.mul_assoc, Nat.mul_comm]
    rw [e] at h ⊢
    simp only [SN]
    rw [S_shl _ (by omega)]
    exact ih x (by omega)
/-- A word is its low bits and the others. -/
theorem split_bits (x n : Nat) (h : x < 4294967296) : BitVec.ofNat 32 x = BitVec.ofNat 32 (x / 2 ^ n * 2 ^ n) ^^^ BitVec.ofNat 32 (x % 2 ^ n) := by
  apply BitVec.eq_of_toNat_eq
  have h1 : x % 2 ^ n < 2 ^ n := Nat.mod_lt _ (Nat.two_pow_pos n)
  have h2 : x / 2 ^ n * 2 ^ n + x % 2 ^ n = x := by rw [Nat.mul_comm]; exact Nat.div_add_mod x (2 ^ n)
  have h3 : x / 2 ^ n * 2 ^ n ≤ x := Nat.div_mul_le_self x (2 ^ n)
  have h4 : x % 2 ^ n ≤ x := Nat.mod_le _ _
  rw [BitVec.toNat_xor, BitVec.toNat_ofNat, BitVec.toNat_ofNat, BitVec.toNat_ofNat, Nat.mod_eq_of_lt h, Nat.mod_eq_of_lt (by omega), Nat.mod_eq_of_lt (by omega)]
  apply Nat.eq_of_testBit_eq
  intro i
  rw [Nat.testBit_xor]
  have ht := Nat.testBit_two_pow_mul_add (x / 2 ^ n) h1 i
  rw [Nat.mul_comm, h2] at ht
  rw [ht]
  have hz : (x / 2 ^ n * 2 ^ n).testBit i = (if i < n then false else (x / 2 ^ n).testBit (i - n)) := by
    have := Nat.testBit_two_pow_mul_add (x / 2 ^ n) (Nat.two_pow_pos n) i
    rw [Nat.add_zero, Nat.mul_comm] at this
    rw [this]
    simp
  rw [hz]
  by_cases hi : i < n
  · simp [hi]
  · have : (x % 2 ^ n).testBit i = false := Nat.testBit_lt_two_pow (Nat.lt_of_lt_of_le h1 (Nat.pow_le_pow_right (by decide) (by omega)))
    simp [hi, this]

/-- Bytes through the register. -/
def stepB (c : BitVec 32) (b : UInt8) : BitVec 32 := SN 8 (c ^^^ BitVec.ofNat 32 b.toNat)
def crcL (c : BitVec 32) (l : List UInt8) : BitVec 32 := l.foldl stepB c
theorem crcL_append (c : BitVec 32) (l m : List UInt8) : crcL c (l ++ m) = crcL (crcL c l) m := by simp [crcL]
theorem crcL_cons (c : BitVec 32) (b : UInt8) (l : List UInt8) : crcL c (b :: l) = crcL (stepB c b) l := rfl
theorem b8_xor (a b : UInt8) : BitVec.ofNat 32 (a ^^^ b).toNat = BitVec.ofNat 32 a.toNat ^^^ BitVec.ofNat 32 b.toNat := by
  apply BitVec.eq_of_toNat_eq
  have ha := a.toNat_lt
  have hb := b.toNat_lt
  have hx : a.toNat ^^^ b.toNat < 2 ^ 8 := Nat.xor_lt_two_pow ha hb
  rw [BitVec.toNat_xor, BitVec.toNat_ofNat, BitVec.toNat_ofNat, BitVec.toNat_ofNat, UInt8.toNat_xor, Nat.mod_eq_of_lt (by omega), Nat.mod_eq_of_lt (by omega), Nat.mod_eq_of_lt (by omega)]
theorem crcL_xor : ∀ (l m : List UInt8) (c d : BitVec 32), l.length = m.length → crcL (c ^^^ d) (List.zipWith (· ^^^ ·) l m) = crcL c l ^^^ crcL d m := by
  intro l
  induction l with
  | nil => intro m c d h; cases m with
    | nil => rfl
    | cons b m => simp at h
  | cons a l ih =>
    intro m c d h
    cases m with
    | nil => simp at h
    | cons b m =>
      rw [List.zipWith_cons_cons, crcL_cons, crcL_cons, crcL_cons, ← ih m _ _ (by simpa using h)]
      congr 1
      unfold stepB
      rw [← SN_xor, b8_xor]
      congr 1
      simp only [BitVec.xor_assoc, xlc]
/-- Feeding bits, the lowest first. -/
def bitW (b : Bool) : BitVec 32 := if b then 1#32 else 0#32
def feed (c : BitVec 32) (l : List Bool) : BitVec 32 := l.foldl (fun c b => S (c ^^^ bitW b)) c
def valB : List Bool → Nat
  | [] => 0
  | b :: l => b.toNat + 2 * valB l
theorem valB_lt (l : List Bool) : valB l < 2 ^ l.length := by
  induction l with
  | nil => simp [valB]
  | cons b l ih =>
    simp only [valB, List.length_cons, Nat.pow_succ]
    cases b <;> simp <;> omega
theorem ofNat_bit (b : Bool) (n : Nat) (h : n < 2147483648) : BitVec.ofNat 32 (b.toNat + 2 * n) = bitW b ^^^ BitVec.ofNat 32 (2 * n) := by
  have := split_bits (b.toNat + 2 * n) 1 (by cases b <;> simp <;> omega)
  have e1 : (b.toNat + 2 * n) / 2 ^ 1 * 2 ^ 1 = 2 * n := by cases b <;> simp <;> omega
  have e2 : (b.toNat + 2 * n) % 2 ^ 1 = b.toNat := by cases b <;> simp <;> omega
  rw [e1, e2, BitVec.xor_comm] at this
  rw [this]
  cases b <;> rfl
theorem feed_val : ∀ (l : List Bool) (c : BitVec 32), l.length ≤ 32 → feed c l = SN l.length (c ^^^ BitVec.ofNat 32 (valB l)) := by
  intro l
  induction l with
  | nil => intro c _; simp [feed, valB, SN]
  | cons b l ih =>
    intro c h
    have hl : l.length ≤ 31 := by simpa using h
    have hv := valB_lt l
    have hp : 2 ^ l.length ≤ 2 ^ 31 := Nat.pow_le_pow_right (by decide) hl
    have h2 : valB l < 2147483648 := by omega
    show feed (S (c ^^^ bitW b)) l = SN (l.length + 1) (c ^^^ BitVec.ofNat 32 (b.toNat + 2 * valB l))
    rw [ih _ (by omega), ofNat_bit b _ h2, ← BitVec.xor_assoc]
    simp only [SN]
    rw [S_xor (c ^^^ bitW b), S_shl _ h2]
theorem feed_append (c : BitVec 32) (l m : List Bool) : feed c (l ++ m) = feed (feed c l) m := by simp [feed]
theorem feed_zeros (n : Nat) : ∀ c, feed c (List.replicate n false) = SN n c := by
  induction n with
  | zero => intro c; rfl
  | succ n ih => intro c; rw [List.replicate_succ]; show feed (S (c ^^^ bitW false)) _ = _; rw [ih]; simp [bitW, SN]
def bits8 (n : Nat) : List Bool := (List.range 8).map fun i => n.testBit i
theorem valB_bits8 : ∀ b : Fin 256, valB (bits8 b.val) = b.val := by decide +kernel
theorem stepB_feed (c : BitVec 32) (b : UInt8) : stepB c b = feed c (bits8 b.toNat) := by
  rw [feed_val _ _ (by simp [bits8]), valB_bits8 ⟨b.toNat, b.toNat_lt⟩]
  simp [stepB, bits8]
theorem crcL_feed : ∀ (l : List UInt8) (c : BitVec 32), crcL c l = feed c (l.flatMap fun b => bits8 b.toNat) := by
  intro l
  induction l with
  | nil => intro c; rfl
  | cons b l ih => intro c; rw [crcL_cons, ih, stepB_feed, List.flatMap_cons, feed_append]
theorem valB_zero : ∀ l : List Bool, valB l = 0 → ∀ b ∈ l, b = false := by
  intro l
  induction l with
  | nil => intro _ b hb; simp at hb
  | cons a l ih =>
    intro h b hb
    simp only [valB] at h
    cases List.mem_cons.1 hb with
    | inl e => subst e; cases b with
      | true => simp at h
      | false => rfl
    | inr hm => exact ih (by omega) b hm
/-- Bits of which all that are set lie within 32 that follow one another leave something in the register. -/
theorem feed_burst (p n : Nat) (q : List Bool) (hq : q.length ≤ 32) (h : true ∈ q) : feed 0#32 (List.replicate p false ++ q ++ List.replicate n false) ≠ 0#32 := by
  intro h0
  rw [feed_append, feed_append, feed_zeros, feed_zeros, SN_zero, feed_val q _ hq] at h0
  have h1 := SN_inj _ (SN_inj _ h0)
  rw [BitVec.zero_xor] at h1
  have hv := valB_lt q
  have hp : 2 ^ q.length ≤ 2 ^ 32 := Nat.pow_le_pow_right (by decide) hq
  have h2 := congrArg BitVec.toNat h1
  rw [BitVec.toNat_ofNat, Nat.mod_eq_of_lt (by omega)] at h2
  have := valB_zero q (by simpa using h2) true h
  cases this
/-! the program's numbers, as words -/
theorem wrap_u32n (m : Nat) (h : m < 4294967296) : IntKind.u32.wrap (m : Int) = m := by rw [IntKind.wrap_u32]; omega
theorem ofInt_nat (a : BitVec 32) : BitVec.ofInt 32 (a.toNat : Int) = a := by
  rw [BitVec.ofInt_natCast, BitVec.ofNat_toNat]
  exact BitVec.setWidth_eq a
theorem xorI (a b : BitVec 32) : Go.bits .xor .u32 (a.toNat : Int) (b.toNat : Int) = ((a ^^^ b).toNat : Int) := by
  have h : Go.bits .xor .u32 (a.toNat : Int) (b.toNat : Int) = IntKind.u32.wrap (((BitVec.ofInt 32 (a.toNat : Int)) ^^^ (BitVec.ofInt 32 (b.toNat : Int))).toNat : Int) := rfl
  rw [h, ofInt_nat, ofInt_nat, wrap_u32n _ (a ^^^ b).isLt]
theorem andI (a b : BitVec 32) : Go.bits .and .u32 (a.toNat : Int) (b.toNat : Int) = ((a &&& b).toNat : Int) := by
  have h : Go.bits .and .u32 (a.toNat : Int) (b.toNat : Int) = IntKind.u32.wrap (((BitVec.ofInt 32 (a.toNat : Int)) &&& (BitVec.ofInt 32 (b.toNat : Int))).toNat : Int) := rfl
  rw [h, ofInt_nat, ofInt_nat, wrap_u32n _ (a &&& b).isLt]
theorem wordI (x : Int) (h0 : 0 ≤ x) (h1 : x < 4294967296) : ∃ a : BitVec 32, x = (a.toNat : Int) := by
  refine ⟨BitVec.ofNat 32 x.toNat, ?_⟩
  rw [BitVec.toNat_ofNat, Nat.mod_eq_of_lt (by omega)]
  omega
theorem and1 (a : BitVec 32) : (a &&& 1#32).toNat = a.toNat % 2 := by
  rw [BitVec.toNat_and]
  exact Nat.and_one_is_mod a.toNat
theorem and15n (a : BitVec 32) : (a &&& 15#32).toNat = a.toNat % 16 := by
  rw [BitVec.toNat_and]
  exact Nat.and_two_pow_sub_one_eq_mod a.toNat 4
theorem S_nat (c : BitVec 32) : S c = BitVec.ofNat 32 (c.toNat / 2) ^^^ (if c.toNat % 2 = 1 then 0x82f63b78#32 else 0#32) := by
  unfold S
  have hb : c.getLsbD 0 = decide (c.toNat % 2 = 1) := by
    have : c.getLsbD 0 = c.toNat.testBit 0 := rfl
    rw [this, Nat.testBit_zero]
  have h2 : c >>> 1 = BitVec.ofNat 32 (c.toNat / 2) := by
    have := c.isLt
    apply BitVec.eq_of_toNat_eq
    simp [Nat.shiftRight_eq_div_pow]
    omega
  rw [hb, h2]
  by_cases h : c.toNat % 2 = 1 <;> simp [h]
theorem halfN (c : BitVec 32) : SN 4 c = BitVec.ofNat 32 (c.toNat / 16) ^^^ SN 4 (BitVec.ofNat 32 (c.toNat % 16)) := by
  have hl := c.isLt
  have h := split_bits c.toNat 4 hl
  rw [BitVec.ofNat_toNat, BitVec.setWidth_eq] at h
  have h2 : SN 4 (BitVec.ofNat 32 (c.toNat / 2 ^ 4 * 2 ^ 4)) = BitVec.ofNat 32 (c.toNat / 2 ^ 4) := SN_shl 4 _ (by omega)
  have h3 : SN 4 c = SN 4 (BitVec.ofNat 32 (c.toNat / 2 ^ 4 * 2 ^ 4) ^^^ BitVec.ofNat 32 (c.toNat % 2 ^ 4)) := congrArg (SN 4) h
  rw [h3, SN_xor, h2]
/-! the program's register -/
theorem sxI (c : BitVec 32) : sx (c.toNat : Int) = ((S c).toNat : Int) := by
  have hl := c.isLt
  unfold sx
  have ha : Go.bits .and .u32 (c.toNat : Int) 1 = ((c &&& 1#32).toNat : Int) := andI c 1#32
  have hd : (c.toNat : Int) / 2 = ((BitVec.ofNat 32 (c.toNat / 2)).toNat : Int) := by rw [BitVec.toNat_ofNat, Nat.mod_eq_of_lt (by omega)]; omega
  rw [ha, and1, S_nat]
  by_cases h : c.toNat % 2 = 1
  · rw [h, if_pos (by decide), if_pos rfl, hd]
    exact xorI _ 0x82f63b78#32
  · have h0 : c.toNat % 2 = 0 := by omega
    rw [h0, if_neg (by decide), if_neg (by decide), hd]
    simp
theorem sxNI (c : BitVec 32) (n : Nat) : sxN (c.toNat : Int) n = ((SN n c).toNat : Int) := by
  have hs : ∀ (n : Nat) (c : BitVec 32), SN (n + 1) c = S (SN n c) := fun n c => SN_add n 1 c
  induction n with
  | zero => rfl
  | succ n ih => rw [sxN, ih, sxI, hs]
theorem tabI (k : Nat) (h : k < 16) : tabF k = ((SN 4 (BitVec.ofNat 32 k)).toNat : Int) := by
  have := sxNI (BitVec.ofNat 32 k) 4
  rw [BitVec.toNat_ofNat, Nat.mod_eq_of_lt (by omega)] at this
  exact this
theorem halfI (c : BitVec 32) : half (c.toNat : Int) = ((SN 4 c).toNat : Int) := by
  have hl := c.isLt
  unfold half
  have ha : Go.bits .and .u32 (c.toNat : Int) 15 = ((c &&& 15#32).toNat : Int) := andI c 15#32
  have hd : (c.toNat : Int) / 16 = ((BitVec.ofNat 32 (c.toNat / 16)).toNat : Int) := by rw [BitVec.toNat_ofNat, Nat.mod_eq_of_lt (by omega)]; omega
  rw [ha, and15n, hd, Int.toNat_natCast, tabI _ (Nat.mod_lt _ (by decide)), xorI, ← halfN]
theorem crcBI (c : BitVec 32) (b : UInt8) : crcB (c.toNat : Int) (b.toNat : Int) = ((stepB c b).toNat : Int) := by
  have hb := b.toNat_lt
  unfold crcB stepB
  have hd : (b.toNat : Int) % 4294967296 = ((BitVec.ofNat 32 b.toNat).toNat : Int) := by rw [BitVec.toNat_ofNat, Nat.mod_eq_of_lt (by omega)]; omega
  rw [hd, xorI, halfI, halfI, ← SN_add]
theorem crcWI (c : BitVec 32) (s : ByteArray) : ∀ n : Nat, n ≤ s.size → crcW (c.toNat : Int) s n = ((crcL c (s.data.toList.take n)).toNat : Int) := by
  intro n
  induction n with
  | zero => intro _; simp [crcW, crcL]
  | succ n ih =>
    intro h
    have hl : n < s.data.toList.length := by rw [Array.length_toList]; exact h
    have hbt : bt s n = ((s.data.toList[n]).toNat : Int) := by
      rw [← bt_at s n (by simp; omega)]
      simp [ByteArray.getElem_eq_getElem_data]
    rw [crcW, ih (by omega), hbt, crcBI, List.take_succ_eq_append_getElem hl, crcL_append]
    rfl
theorem maxI : (IntKind.u32.max : Int) = ((4294967295#32).toNat : Int) := by decide
theorem notI (c : BitVec 32) : Go.bits .xor .u32 IntKind.u32.max (c.toNat : Int) = ((4294967295#32 ^^^ c).toNat : Int) := by rw [maxI]; exact xorI _ _
/-- The program's sum, as a word: the register turned at both ends. -/
theorem more_f (c : BitVec 32) (s : ByteArray) (h : s.size ≤ 9223372036854775807) : sum_More.f (c.toNat : Int) s = some ((4294967295#32 ^^^ crcL (4294967295#32 ^^^ c) s.data.toList).toNat : Int) := by
  unfold sum_More.f
  rw [if_pos h, notI, crcWI _ s s.size (Nat.le_refl _), notI, List.take_of_length_le (by rw [Array.length_toList]; exact Nat.le_refl _)]
def crcS (l : List UInt8) : BitVec 32 := 4294967295#32 ^^^ crcL 4294967295#32 l
theorem crc_f (s : ByteArray) (h : s.size ≤ 9223372036854775807) : sum_Crc.f s = some ((crcS s.data.toList).toNat : Int) := by
  unfold sum_Crc.f
  have := more_f 0#32 s h
  rw [show ((0#32 : BitVec 32).toNat : Int) = 0 from rfl] at this
  rw [this]
  simp [crcS]
/-! frames, plainly -/
/-- The bytes of a word, the lowest first. -/
def leB (n : Nat) : List UInt8 := [UInt8.ofNat (n % 256), UInt8.ofNat (n / 256 % 256), UInt8.ofNat (n / 65536 % 256), UInt8.ofNat (n / 16777216 % 256)]
def wordL : List UInt8 → Nat
  | [] => 0
  | b :: l => b.toNat + 256 * wordL l
theorem leB_len (n : Nat) : (leB n).length = 4 := rfl
theorem u8_mod (n : Nat) : (UInt8.ofNat (n % 256)).toNat = n % 256 := by simp
theorem wordL_leB (n : Nat) (h : n < 4294967296) : wordL (leB n) = n := by
  simp only [leB, wordL, u8_mod]
  omega
theorem leB_wordL (l : List UInt8) (h : l.length = 4) : leB (wordL l) = l := by
  match l, h with
  | [a, b, c, d], _ =>
    have ha := a.toNat_lt
    have hb := b.toNat_lt
    have hc := c.toNat_lt
    have hd := d.toNat_lt
    have e : ∀ (x : UInt8) (m : Nat), m = x.toNat → UInt8.ofNat m = x := fun x m hm => by rw [hm]; exact UInt8.ofNat_toNat
    simp only [leB, wordL]
    rw [e a _ (by omega), e b _ (by omega), e c _ (by omega), e d _ (by omega)]
theorem wordL_lt (l : List UInt8) (h : l.length = 4) : wordL l < 4294967296 := by
  match l, h with
  | [a, b, c, d], _ =>
    have ha := a.toNat_lt
    have hb := b.toNat_lt
    have hc := c.toNat_lt
    have hd := d.toNat_lt
    simp only [wordL]
    omega
theorem leB_inj {n m : Nat} (hn : n < 4294967296) (hm : m < 4294967296) (h : leB n = leB m) : n = m := by
  rw [← wordL_leB n hn, ← wordL_leB m hm, h]
def numsB (l : List UInt8) : List Int := l.map fun b => (b.toNat : Int)
theorem strOf_numsB (l : List UInt8) : strOfNums (numsB l) = ⟨l.toArray⟩ := by
  unfold strOfNums numsB
  rw [List.map_map]
  congr 2
  apply List.ext_getElem?
  intro j
  simp only [List.getElem?_map]
  cases l[j]? <;> simp
theorem bytesOf_numsB (s : ByteArray) : bytesOf s = numsB s.data.toList := rfl
theorem ba_size (l : List UInt8) : (⟨l.toArray⟩ : ByteArray).size = l.length := by
  show l.toArray.size = _
  simp
theorem ba_list (l : List UInt8) : (⟨l.toArray⟩ : ByteArray).data.toList = l := by simp
theorem ba_of (s : ByteArray) : (⟨s.data.toList.toArray⟩ : ByteArray) = s := by
  cases s
  simp
theorem s_len (s : ByteArray) : s.data.toList.length = s.size := by rw [Array.length_toList]; rfl
theorem shr_u64 (x : Int) (n : Nat) (hn : n ≤ 64) : shr .u64 x (n : Int) = x / 2 ^ n := by
  unfold shr
  have hb : IntKind.u64.bits = 64 := rfl
  rw [Int.toNat_natCast, hb, Nat.min_eq_left hn]
theorem putLittle_f (k : Nat) (l : List Int) (x : Nat) (hl : l.length < 1000000) : frame_putLittle.f (k + 5) l (x : Int) 4 = some (l ++ numsB (leB x)) := by
  have st : ∀ (m : Nat) (l : List Int) (i : Nat), i < 4 → l.length < 1000004 → frame_putLittle.l0 (m + 1) l (x : Int) 4 (i : Int) = frame_putLittle.l0 m (l ++ [(x : Int) / 2 ^ (8 * i) % 256]) (x : Int) 4 ((i + 1 : Nat) : Int) := by
    intro m l i hi hl
    simp only [frame_putLittle.l0]
    have hw : wrap64 (8 * (i : Int)) = ((8 * i : Nat) : Int) := by unfold wrap64; omega
    have hw2 : wrap64 ((i : Int) + 1) = ((i + 1 : Nat) : Int) := by unfold wrap64; omega
    rw [if_pos (by omega), hw, if_pos (by omega), if_pos (by omega), hw2, shr_u64 _ _ (by omega)]
  unfold frame_putLittle.f
  have e0 := st (k + 4) l 0 (by omega) (by omega)
  have e1 := st (k + 3) (l ++ [(x : Int) / 2 ^ (8 * 0) % 256]) 1 (by omega) (by simp; omega)
  have e2 := st (k + 2) (l ++ [(x : Int) / 2 ^ (8 * 0) % 256] ++ [(x : Int) / 2 ^ (8 * 1) % 256]) 2 (by omega) (by simp; omega)
  have e3 := st (k + 1) (l ++ [(x : Int) / 2 ^ (8 * 0) % 256] ++ [(x : Int) / 2 ^ (8 * 1) % 256] ++ [(x : Int) / 2 ^ (8 * 2) % 256]) 3 (by omega) (by simp; omega)
  rw [show ((0 : Nat) : Int) = 0 from rfl] at e0
  rw [e0, e1, e2, e3]
  simp only [frame_putLittle.l0]
  rw [if_neg (by omega)]
  congr 1
  simp only [List.append_assoc]
  congr 1
  simp only [numsB, leB, List.map_cons, List.map_nil, List.cons_append, List.nil_append, u8_mod]
  have q0 : (x : Int) / 2 ^ (8 * 0) % 256 = ((x % 256 : Nat) : Int) := by simp
  have q1 : (x : Int) / 2 ^ (8 * 1) % 256 = ((x / 256 % 256 : Nat) : Int) := by simp
  have q2 : (x : Int) / 2 ^ (8 * 2) % 256 = ((x / 65536 % 256 : Nat) : Int) := by simp
  have q3 : (x : Int) / 2 ^ (8 * 3) % 256 = ((x / 16777216 % 256 : Nat) : Int) := by simp
  rw [q0, q1, q2, q3]
theorem put_word (k : Nat) (hk : 5 ≤ k) (l : List Int) (x : Nat) (hx : x < 4294967296) (hl : l.length < 1000000) : frame_put.f k l (x : Int) = some (l ++ numsB (leB x)) := by
  obtain ⟨k, rfl⟩ : ∃ m, k = m + 5 := ⟨k - 5, by omega⟩
  unfold frame_put.f
  have hw : IntKind.u64.wrap (x : Int) = (x : Int) := by
    have : IntKind.u64.wrap (x : Int) = (x : Int) % 18446744073709551616 := by simp [IntKind.wrap, IntKind.bits, IntKind.signed]
    rw [this]
    omega
  rw [hw, putLittle_f k l x hl]
  rfl
def frameL (b : List UInt8) : List UInt8 := leB b.length ++ leB (crcS (leB b.length)).toNat ++ b ++ leB (crcS b).toNat
theorem frameL_len (b : List UInt8) : (frameL b).length = b.length + 12 := by simp [frameL, leB_len]; omega
theorem put_f (k : Nat) (hk : 5 ≤ k) (s : ByteArray) (h : s.size ≤ 16384) : frame_Put.f k s = some (⟨(frameL s.data.toList).toArray⟩, 0) := by
  have h1 := (crcS (leB s.size)).isLt
  have h2 := (crcS s.data.toList).isLt
  have hm : ((s.size : Int)) % 4294967296 = (s.size : Int) := by omega
  unfold frame_Put.f
  rw [if_neg (by omega), hm, put_word k hk [] s.size (by omega) (by simp)]
  simp only [Option.bind_some, List.nil_append]
  rw [strOf_numsB, crc_f _ (by rw [ba_size, leB_len]; omega), ba_list]
  simp only [Option.bind_some]
  rw [put_word k hk _ _ h1 (by simp [numsB, leB_len])]
  simp only [Option.bind_some]
  rw [if_pos (by simp [numsB, leB_len]; omega), crc_f s (by omega)]
  simp only [Option.bind_some]
  rw [put_word k hk _ _ h2 (by simp [numsB, leB_len, bytesOf_length]; omega)]
  simp only [Option.bind_some]
  have e : numsB (leB s.size) ++ numsB (leB (crcS (leB s.size)).toNat) ++ bytesOf s ++ numsB (leB (crcS s.data.toList).toNat) = numsB (frameL s.data.toList) := by
    rw [bytesOf_numsB]
    simp [numsB, frameL]
  rw [e, strOf_numsB]
theorem put_long (k : Nat) (s : ByteArray) (h : 16384 < s.size) : frame_Put.f k s = some (⟨#[]⟩, 3) := by
  unfold frame_Put.f
  rw [if_pos (by omega)]
theorem shl_u64 (x : Int) (n : Nat) (hn : n ≤ 64) : shl .u64 x (n : Int) = IntKind.u64.wrap (x * 2 ^ n) := by
  unfold shl
  have hb : IntKind.u64.bits = 64 := rfl
  rw [Int.toNat_natCast, hb, Nat.min_eq_left hn]
theorem wrap_u64n (m : Nat) (h : m < 18446744073709551616) : IntKind.u64.wrap (m : Int) = m := by
  have : IntKind.u64.wrap (m : Int) = (m : Int) % 18446744073709551616 := by simp [IntKind.wrap, IntKind.bits, IntKind.signed]
  rw [this]
  omega
theorem or_join (x y i : Nat) (hx : x < 2 ^ i) (hs : y * 2 ^ i + x < 18446744073709551616) : Go.bits .or .u64 (x : Int) ((y * 2 ^ i : Nat) : Int) = ((x + y * 2 ^ i : Nat) : Int) := by
  have h : Go.bits .or .u64 (x : Int) ((y * 2 ^ i : Nat) : Int) = IntKind.u64.wrap (((BitVec.ofInt 64 (x : Int)) ||| (BitVec.ofInt 64 ((y * 2 ^ i : Nat) : Int))).toNat : Int) := rfl
  have hx2 : x < 18446744073709551616 := by omega
  have hy2 : y * 2 ^ i < 18446744073709551616 := by omega
  rw [h, BitVec.ofInt_natCast, BitVec.ofInt_natCast, BitVec.toNat_or, BitVec.toNat_ofNat, BitVec.toNat_ofNat, Nat.mod_eq_of_lt hx2, Nat.mod_eq_of_lt hy2, Nat.or_comm, Nat.mul_comm, ← Nat.two_pow_add_eq_or_of_lt hx, wrap_u64n _ (by rw [Nat.mul_comm]; exact hs), Nat.add_comm]
theorem bt_list (s : ByteArray) (i : Nat) (h : i < s.data.toList.length) : bt s i = ((s.data.toList[i]).toNat : Int) := by
  have h2 : i < s.size := by rw [← s_len]; exact h
  rw [← bt_at s i (by simpa using h2)]
  simp [ByteArray.getElem_eq_getElem_data]
theorem getLittle_f (k : Nat) (s : ByteArray) (h : s.size = 4) : frame_getLittle.f (k + 5) s 4 = some (wordL s.data.toList : Int) := by
  have hl : s.data.toList.length = 4 := by rw [s_len]; exact h
  have st : ∀ (m i x : Nat) (_hi : i < s.data.toList.length), x < 2 ^ (8 * i) → i < 4 → frame_getLittle.l0 (m + 1) s (x : Int) 4 (i : Int) = frame_getLittle.l0 m s ((x + (s.data.toList[i]).toNat * 2 ^ (8 * i) : Nat) : Int) 4 ((i + 1 : Nat) : Int) := by
    intro m i x hi hx hi4
    simp only [frame_getLittle.l0]
    have hw : wrap64 (8 * (i : Int)) = ((8 * i : Nat) : Int) := by unfold wrap64; omega
    have hw2 : wrap64 ((i : Int) + 1) = ((i + 1 : Nat) : Int) := by unfold wrap64; omega
    have hb := (s.data.toList[i]).toNat_lt
    have hp : 2 ^ (8 * i) ≤ 2 ^ 24 := Nat.pow_le_pow_right (by decide) (by omega)
    have hm : (s.data.toList[i]).toNat * 2 ^ (8 * i) ≤ 255 * 2 ^ 24 := Nat.mul_le_mul (by omega) hp
    have hc : ((s.data.toList[i]).toNat : Int) * 2 ^ (8 * i) = (((s.data.toList[i]).toNat * 2 ^ (8 * i) : Nat) : Int) := by simp
    rw [if_pos (by omega), if_pos (by omega), if_pos (by omega), hw, if_pos (by omega), hw2, bt_list s i hi, wrap_u64n _ (by omega), shl_u64 _ _ (by omega), hc, wrap_u64n _ (by omega), or_join _ _ _ hx (by omega)]
  unfold frame_getLittle.f
  match hs : s.data.toList, hl with
  | [a, b, c, d], _ =>
    rw [hs] at st
    have ha := a.toNat_lt
    have hb := b.toNat_lt
    have hc := c.toNat_lt
    have e0 := st (k + 4) 0 0 (by simp) (by omega) (by omega)
    have e1 := st (k + 3) 1 (0 + a.toNat * 2 ^ (8 * 0)) (by simp) (by omega) (by omega)
    have e2 := st (k + 2) 2 (0 + a.toNat * 2 ^ (8 * 0) + b.toNat * 2 ^ (8 * 1)) (by simp) (by omega) (by omega)
    have e3 := st (k + 1) 3 (0 + a.toNat * 2 ^ (8 * 0) + b.toNat * 2 ^ (8 * 1) + c.toNat * 2 ^ (8 * 2)) (by simp) (by omega) (by omega)
    simp only [List.getElem_cons_zero, List.getElem_cons_succ] at e0 e1 e2 e3
    rw [show ((0 : Nat) : Int) = 0 from rfl] at e0
    rw [e0, e1, e2, e3]
    simp only [frame_getLittle.l0]
    rw [if_neg (by omega)]
    congr 1
    simp only [wordL]
    omega
theorem ext_list (s : ByteArray) (i j : Nat) : (s.extract i j).data.toList = (s.data.toList.take j).drop i := by
  rw [ByteArray.data_extract, Array.toList_extract, List.extract_eq_take_drop, List.drop_take]
theorem ext_len (s : ByteArray) (i j : Nat) (h : j ≤ s.size) : (s.extract i j).size = j - i := by
  rw [ByteArray.size_extract]
  omega
/-- The four bytes from a place on, as a number. -/
theorem get_f (k : Nat) (hk : 5 ≤ k) (s : ByteArray) (hs : s.size ≤ 140737488351232) (i : Nat) (h : i + 4 ≤ s.size) : frame_get.f k s (i : Int) = some (wordL ((s.data.toList.drop i).take 4) : Int) := by
  obtain ⟨k, rfl⟩ : ∃ m, k = m + 5 := ⟨k - 5, by omega⟩
  unfold frame_get.f
  have hw : wrap64 ((i : Int) + 4) = ((i + 4 : Nat) : Int) := by unfold wrap64; omega
  have he : (s.extract i (i + 4)).data.toList = (s.data.toList.drop i).take 4 := by rw [ext_list, List.drop_take, show i + 4 - i = 4 by omega]
  have hl := wordL_lt ((s.data.toList.drop i).take 4) (by rw [List.length_take, List.length_drop, s_len]; omega)
  rw [if_pos (by omega), hw, if_pos (by omega), if_pos (by omega), Int.toNat_natCast, Int.toNat_natCast, getLittle_f k _ (by rw [ext_len _ _ _ h]; omega), he]
  simp only [Option.bind_some]
  congr 1
  omega
/-- What stands at the beginning of a text: its body and the bytes that it takes, or an error. -/
def readL (r : List UInt8) : List UInt8 × Nat × Int :=
  if r.length < 8 then ([], 0, 7)
  else if wordL ((r.drop 4).take 4) ≠ (crcS (r.take 4)).toNat then ([], 0, 9)
  else if 16384 < wordL (r.take 4) then ([], 0, 3)
  else if r.length < wordL (r.take 4) + 12 then ([], 0, 7)
  else if wordL ((r.drop (8 + wordL (r.take 4))).take 4) ≠ (crcS ((r.drop 8).take (wordL (r.take 4)))).toNat then ([], 0, 9)
  else ((r.drop 8).take (wordL (r.take 4)), wordL (r.take 4) + 12, 0)
def nextL (s : List UInt8) (at_ : Int) : List UInt8 × Int × Int :=
  if at_ < 0 ∨ at_ > s.length then ([], 0, 1)
  else if (readL (s.drop at_.toNat)).2.2 = 0 then ((readL (s.drop at_.toNat)).1, at_ + (readL (s.drop at_.toNat)).2.1, 0)
  else ([], 0, (readL (s.drop at_.toNat)).2.2)
theorem read_7 (r : List UInt8) (h : r.length < 8) : readL r = ([], 0, 7) := by unfold readL; rw [if_pos h]
theorem read_9 (r : List UInt8) (h : ¬ r.length < 8) (hc : wordL ((r.drop 4).take 4) ≠ (crcS (r.take 4)).toNat) : readL r = ([], 0, 9) := by unfold readL; rw [if_neg h, if_pos hc]
theorem read_3 (r : List UInt8) (h : ¬ r.length < 8) (hc : wordL ((r.drop 4).take 4) = (crcS (r.take 4)).toNat) (h3 : 16384 < wordL (r.take 4)) : readL r = ([], 0, 3) := by unfold readL; rw [if_neg h, if_neg (by simpa using hc), if_pos h3]
theorem read_7b (r : List UInt8) (h : ¬ r.length < 8) (hc : wordL ((r.drop 4).take 4) = (crcS (r.take 4)).toNat) (h3 : ¬ 16384 < wordL (r.take 4)) (h7 : r.length < wordL (r.take 4) + 12) : readL r = ([], 0, 7) := by
  unfold readL; rw [if_neg h, if_neg (by simpa using hc), if_neg h3, if_pos h7]
theorem read_9b (r : List UInt8) (h : ¬ r.length < 8) (hc : wordL ((r.drop 4).take 4) = (crcS (r.take 4)).toNat) (h3 : ¬ 16384 < wordL (r.take 4)) (h7 : ¬ r.length < wordL (r.take 4) + 12)
    (h9 : wordL ((r.drop (8 + wordL (r.take 4))).take 4) ≠ (crcS ((r.drop 8).take (wordL (r.take 4)))).toNat) : readL r = ([], 0, 9) := by
  unfold readL; rw [if_neg h, if_neg (by simpa using hc), if_neg h3, if_neg h7, if_pos h9]
theorem read_0 (r : List UInt8) (h : ¬ r.length < 8) (hc : wordL ((r.drop 4).take 4) = (crcS (r.take 4)).toNat) (h3 : ¬ 16384 < wordL (r.take 4)) (h7 : ¬ r.length < wordL (r.take 4) + 12)
    (h9 : wordL ((r.drop (8 + wordL (r.take 4))).take 4) = (crcS ((r.drop 8).take (wordL (r.take 4)))).toNat) : readL r = ((r.drop 8).take (wordL (r.take 4)), wordL (r.take 4) + 12, 0) := by
  unfold readL; rw [if_neg h, if_neg (by simpa using hc), if_neg h3, if_neg h7, if_neg (by simpa using h9)]
theorem wr (m : Nat) (h : m < 9223372036854775808) : wrap64 (m : Int) = (m : Int) := by unfold wrap64; omega
theorem wr_sub (a b : Nat) (h : a < 9223372036854775808) (hb : b ≤ a) : wrap64 ((a : Int) - (b : Int)) = ((a - b : Nat) : Int) := by unfold wrap64; omega
theorem wr_add (a b : Nat) (h : a + b < 9223372036854775808) : wrap64 ((a : Int) + (b : Int)) = ((a + b : Nat) : Int) := by unfold wrap64; omega
theorem wr_4 (a : Nat) (h : a < 9223372036854775800) : wrap64 ((a : Int) + 4) = ((a + 4 : Nat) : Int) := by unfold wrap64; omega
theorem wr_8 (a : Nat) (h : a < 9223372036854775800) : wrap64 ((a : Int) + 8) = ((a + 8 : Nat) : Int) := by unfold wrap64; omega
theorem bind_s {α β : Type} (a : α) (f : α → Option β) : (some a).bind f = f a := by
  cases h : f a with
  | none => rw [Option.bind_some, h]
  | some b => rw [Option.bind_some, h]
/-- The reading of a place that lies in the text. -/
theorem next_j0 (k : Nat) (hk : 5 ≤ k) (s : ByteArray) (hs : s.size ≤ 140737488351232) (i : Nat) (hi : i ≤ s.size) :
    frame_Next.j0 (k + 1) s (i : Int) false = some (if (readL (s.data.toList.drop i)).2.2 = 0 then (⟨(readL (s.data.toList.drop i)).1.toArray⟩, (i : Int) + (readL (s.data.toList.drop i)).2.1, 0) else (⟨#[]⟩, 0, (readL (s.data.toList.drop i)).2.2)) := by
  have hr : (s.data.toList.drop i).length = s.size - i := by rw [List.length_drop, s_len]
  simp only [frame_Next.j0]
  rw [if_neg (by simp), wr_sub _ _ (by omega) hi, wr_4 _ (by omega), wr_8 _ (by omega)]
  by_cases h8 : s.size - i < 8
  · rw [if_pos (show ((s.size - i : Nat) : Int) < 8 by omega), read_7 _ (by omega)]
    simp
  have g1 := get_f k hk s hs (i + 4) (by omega)
  have g0 := get_f k hk s hs i (by omega)
  have e4 : (s.extract i (i + 4)).data.toList = (s.data.toList.drop i).take 4 := by rw [ext_list, List.drop_take, show i + 4 - i = 4 by omega]
  have d4 : (s.data.toList.drop (i + 4)).take 4 = ((s.data.toList.drop i).drop 4).take 4 := by rw [List.drop_drop]
  have hn := wordL_lt ((s.data.toList.drop i).take 4) (by rw [List.length_take, hr]; omega)
  have c1 := crc_f (s.extract i (i + 4)) (by rw [ext_len _ _ _ (by omega)]; omega)
  have b4 : ∀ m : Nat, (s.data.toList.drop (i + 8 + m)).take 4 = ((s.data.toList.drop i).drop (8 + m)).take 4 := fun m => by rw [List.drop_drop, Nat.add_assoc]
  have b8 : ∀ m : Nat, (s.extract (i + 8) (i + 8 + m)).data.toList = ((s.data.toList.drop i).drop 8).take m := fun m => by rw [ext_list, List.drop_take, show i + 8 + m - (i + 8) = m by omega, List.drop_drop]
  have r9 := read_9 (s.data.toList.drop i)
  have r3 := read_3 (s.data.toList.drop i)
  have r7 := read_7b (s.data.toList.drop i)
  have r9b := read_9b (s.data.toList.drop i)
  have r0 := read_0 (s.data.toList.drop i)
  rw [e4] at c1
  rw [d4] at g1
  rw [hr] at r9 r3 r7 r9b r0
  rw [if_neg (show ¬ ((s.size - i : Nat) : Int) < 8 by omega), g1, g0]
  simp only [bind_s]
  rw [if_pos (show (0 : Int) ≤ i by omega), if_pos (show (i : Int) ≤ ((i + 4 : Nat) : Int) by omega), if_pos (show ((i + 4 : Nat) : Int) ≤ (s.size : Int) by omega), Int.toNat_natCast, Int.toNat_natCast, c1]
  simp only [bind_s]
  generalize readL (s.data.toList.drop i) = rr at *
  generalize s.data.toList.drop i = R at *
  generalize wordL ((R.drop 4).take 4) = A at *
  generalize (crcS (R.take 4)).toNat = C at *
  generalize wordL (R.take 4) = n at *
  clear g0 g1 c1 e4 d4 hr
  by_cases hc : A = C
  · rw [if_pos (show (A : Int) = (C : Int) by omega), wr n (by omega)]
    by_cases h3 : 16384 < n
    · rw [if_pos (show (n : Int) > 16384 by omega), r3 h8 hc h3]
      simp
    clear r3 r9
    rw [if_neg (show ¬ (n : Int) > 16384 by omega), wr_4 n (by omega), wr_sub s.size (i + 8) (by omega) (by omega), wr_add _ _ (by omega), wr_4 (i + 8 + n) (by omega)]
    by_cases h7 : s.size - (i + 8) < n + 4
    · rw [if_pos (show ((s.size - (i + 8) : Nat) : Int) < ((n + 4 : Nat) : Int) by omega), r7 h8 hc h3 (by omega)]
      simp
    have g2 := get_f k hk s hs (i + 8 + n) (by omega)
    have c2 := crc_f (s.extract (i + 8) (i + 8 + n)) (by rw [ext_len _ _ _ (by omega)]; omega)
    rw [b4] at g2
    rw [b8] at c2
    rw [if_neg (show ¬ ((s.size - (i + 8) : Nat) : Int) < ((n + 4 : Nat) : Int) by omega), g2]
    simp only [bind_s]
    rw [if_pos (show (0 : Int) ≤ ((i + 8 : Nat) : Int) by omega), if_pos (show ((i + 8 : Nat) : Int) ≤ ((i + 8 + n : Nat) : Int) by omega), if_pos (show ((i + 8 + n : Nat) : Int) ≤ (s.size : Int) by omega), Int.toNat_natCast, Int.toNat_natCast, c2]
    simp only [bind_s]
    have eb := b8 n
    generalize wordL ((R.drop (8 + n)).take 4) = A2 at *
    generalize hC2 : (crcS ((R.drop 8).take n)).toNat = C2 at *
    by_cases h9 : A2 = C2
    · rw [if_pos (show (A2 : Int) = (C2 : Int) by omega), r0 h8 hc h3 (by omega) h9]
      simp only [if_true]
      rw [← eb, ba_of]
      congr 3
      omega
    · rw [if_neg (show ¬ (A2 : Int) = (C2 : Int) by omega), r9b h8 hc h3 (by omega) h9]
      simp
  · rw [if_neg (show ¬ (A : Int) = (C : Int) by omega), r9 h8 hc]
    simp
theorem next_f (k : Nat) (hk : 6 ≤ k) (s : ByteArray) (hs : s.size ≤ 140737488351232) (a : Int) : frame_Next.f k s a = some (⟨(nextL s.data.toList a).1.toArray⟩, (nextL s.data.toList a).2.1, (nextL s.data.toList a).2.2) := by
  obtain ⟨k, rfl⟩ : ∃ m, k = m + 1 := ⟨k - 1, by omega⟩
  have jt : frame_Next.j0 (k + 1) s a true = some (⟨#[]⟩, 0, 1) := by
    simp only [frame_Next.j0, if_true]
  unfold frame_Next.f
  by_cases h0 : a < 0
  · rw [if_pos h0, jt]
    unfold nextL
    rw [if_pos (.inl h0)]
  rw [if_neg h0]
  by_cases h1 : a > (s.size : Int)
  · rw [decide_eq_true h1, jt]
    unfold nextL
    rw [if_pos (.inr (by rw [s_len]; exact h1))]
  rw [decide_eq_false h1]
  obtain ⟨i, rfl⟩ := Int.eq_ofNat_of_zero_le (show 0 ≤ a by omega)
  rw [next_j0 k (by omega) s hs i (by omega)]
  unfold nextL
  rw [if_neg (show ¬ ((i : Int) < 0 ∨ (i : Int) > s.data.toList.length) by rw [s_len]; omega), Int.toNat_natCast]
  by_cases hz : (readL (s.data.toList.drop i)).2.2 = 0
  · rw [if_pos hz, if_pos hz]
  · rw [if_neg hz, if_neg hz]
theorem rep_size (n : Nat) : (strOfNums (List.replicate n 0)).size = n := by
  show (strOfNums (List.replicate n 0)).data.size = n
  simp [strOfNums]
theorem FrameKnown : meterlaw03_FrameKnown.Pure := by
  refine ⟨60, ?_⟩
  have h1 := put_long 60 (strOfNums (List.replicate 16385 0)) (by rw [rep_size]; omega)
  have h2 := put_f 60 (by omega) (strOfNums (List.replicate 16384 0)) (by rw [rep_size]; omega)
  unfold meterlaw03_FrameKnown.f
  rw [h1, h2]
  clear h1 h2
  generalize (⟨(frameL (strOfNums (List.replicate 16384 0)).data.toList).toArray⟩ : ByteArray) = z
  simp only [bind_s]
  have e0 : frame_Put.f 60 (⟨#[]⟩ : ByteArray) = some (⟨#[0, 0, 0, 0, 199, 75, 103, 72, 0, 0, 0, 0]⟩, 0) := by decide +kernel
  rw [e0]
  simp only [bind_s]
  decide +kernel

end Go.Proofs.Ytpfipeopacjkjaa.Pure
