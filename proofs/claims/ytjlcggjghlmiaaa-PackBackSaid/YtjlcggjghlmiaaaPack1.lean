/- Readers and writers of bytes (package pack), function by function: what each call does. -/
import Derived.Test.YtjlcggjghlmiaaaPPackWritesx1
import Derived.Lib.Hide
import Derived.WalkSpells
import Derived.Great.Walk
import Derived.Deep.QuietTactic
import Derived.BigQuiet
import Derived.StillTailTactics
namespace Go.Proofs.Ytjlcggjghlmiaaa.PPackWrites
open Go.RowKit Go.Proofs.YtjlcggjghlmiaaaW.PrintWords Go.Proofs.YtjlcggjghlmiaaaW.PrintLast Go.Proofs.YtjlcggjghlmiaaaW.PrintMore
attribute [local go_sem] max2_int min2_int max_two min_two max_three min_three max_four min_four
set_option linter.unusedVariables false
set_option linter.unusedSimpArgs false
def byteN (s : ByteArray) (i : Nat) : Nat := if h : i < s.size then s[i].toNat else 0
def gx (s : ByteArray) : Nat → Int
  | 0 => 0
  | i + 1 => Go.bits .or .u64 (gx s i) (IntKind.u64.wrap (IntKind.u64.wrap (Go.bits .and .u8 (byteN s i : Int) 127) * 2 ^ (7 * i)))
def gvF (s : ByteArray) : Nat → Nat → Int × Int
  | 0, _ => (0, 0)
  | d + 1, i => if byteN s i < 128 then (if i = 9 ∧ 1 < byteN s i then (0, -1) else (gx s (i + 1), ((i + 1 : Nat) : Int))) else gvF s d (i + 1)
theorem byteN_at {s : ByteArray} {i : Nat} (h : i < s.size) : byteN s i = s[i].toNat := dif_pos h
theorem gx_at {s : ByteArray} (i : Nat) (h : i < s.size) : gx s (i + 1) = Go.bits .or .u64 (gx s i) (IntKind.u64.wrap (IntKind.u64.wrap (Go.bits .and .u8 (s[i].toNat : Int) 127) * 2 ^ (7 * i))) := by rw [gx, byteN_at h]
set_option maxHeartbeats 4000000 in
set_option maxRecDepth 100000 in
theorem getVar_same (s : ByteArray) (m : Nat) (hm : m = min s.size 10) (hs : s.size ≤ 1000000) (v c : Int) (hr : gvF s m 0 = (v, c)) (w : World) :
    Calls Try.prog 41 #[.string s] w fun e w' => e = .returned (.tuple #[.int .u64 v, .int .i64 c]) ∧ w = w' := by
  have HR := Lib.hid hr
  by_cases h10 : (10 : Int) < s.size
  · have hm2 : m = 10 := by omega
    subst hm2
    clear hr hm
    go_enter Try.func41, Try.ntmps41
    go_wp2
    go_loop [2, 8] (fun v2 v8 => ∃ i : Nat, i ≤ 10 ∧ v2 = .int .u64 (gx s i) ∧ v8 = .int .i64 i ∧ gvF s (10) 0 = gvF s (10 - i) i) (fun _ v8 => 10 - (intOf v8).toNat)
    case atStart => exact ⟨0, Nat.zero_le _, rfl, rfl, rfl⟩
    case round =>
      obtain ⟨i, hi, rfl, rfl, hg⟩ := hrel
      have HG := Lib.hid hg
      clear hg
      by_cases hlt : i < 10
      · have his : i < s.size := by omega
        obtain ⟨d, hd⟩ : ∃ d, 10 - i = d + 1 := ⟨10 - i - 1, by omega⟩
        have hst := HG.out.symm.trans HR.out
        rw [hd, gvF, byteN_at his] at hst
        have HST := Lib.hid hst
        have HD := Lib.hid hd
        clear hd hst
        go_wp2
        · have q : i = 9 := by omega
          subst q
          have hz := HST.out
          rw [if_pos (by omega), if_pos ⟨rfl, by omega⟩] at hz
          simp only [Prod.mk.injEq] at hz
          obtain ⟨rfl, rfl⟩ := hz
          go_ret2
          exact ⟨rfl, rfl⟩
        · have q : i = 9 := by omega
          subst q
          have hz := HST.out
          rw [if_pos (by omega), if_neg (by omega)] at hz
          simp only [Prod.mk.injEq] at hz
          obtain ⟨rfl, rfl⟩ := hz
          go_ret2
          exact ⟨by rw [gx_at 9 his]; rfl, rfl⟩
        · have hz := HST.out
          rw [if_pos (by omega), if_neg (by omega)] at hz
          simp only [Prod.mk.injEq] at hz
          obtain ⟨rfl, rfl⟩ := hz
          go_ret2
          exact ⟨by rw [gx, byteN_at his]; rfl, rfl⟩
        · have hz := HST.out
          rw [if_neg (by omega)] at hz
          refine ⟨⟨i + 1, by omega, by rw [gx, byteN_at his], by go_num, ?_⟩, by simp [intOf]; omega⟩
          rw [HR.out, ← hz, show 10 - (i + 1) = d by have := HD.out; omega]
      · have him : i = 10 := by omega
        subst him
        have hz : ((0 : Int), (0 : Int)) = (v, c) := by
          have h1 := HR.out
          have h2 := HG.out
          rw [Nat.sub_self] at h2
          exact h2.symm.trans h1
        simp only [Prod.mk.injEq] at hz
        obtain ⟨rfl, rfl⟩ := hz
        go_wp2
        go_ret2
        exact ⟨rfl, rfl⟩
  · have hm2 : m = s.size := by omega
    subst hm2
    clear hr hm
    go_enter Try.func41, Try.ntmps41
    go_wp2
    go_loop [2, 8] (fun v2 v8 => ∃ i : Nat, i ≤ s.size ∧ v2 = .int .u64 (gx s i) ∧ v8 = .int .i64 i ∧ gvF s (s.size) 0 = gvF s (s.size - i) i) (fun _ v8 => s.size - (intOf v8).toNat)
    case atStart => exact ⟨0, Nat.zero_le _, rfl, rfl, rfl⟩
    case round =>
      obtain ⟨i, hi, rfl, rfl, hg⟩ := hrel
      have HG := Lib.hid hg
      clear hg
      by_cases hlt : i < s.size
      · have his : i < s.size := by omega
        obtain ⟨d, hd⟩ : ∃ d, s.size - i = d + 1 := ⟨s.size - i - 1, by omega⟩
        have hst := HG.out.symm.trans HR.out
        rw [hd, gvF, byteN_at his] at hst
        have HST := Lib.hid hst
        have HD := Lib.hid hd
        clear hd hst
        go_wp2
        · have q : i = 9 := by omega
          subst q
          have hz := HST.out
          rw [if_pos (by omega), if_pos ⟨rfl, by omega⟩] at hz
          simp only [Prod.mk.injEq] at hz
          obtain ⟨rfl, rfl⟩ := hz
          go_ret2
          exact ⟨rfl, rfl⟩
        · have q : i = 9 := by omega
          subst q
          have hz := HST.out
          rw [if_pos (by omega), if_neg (by omega)] at hz
          simp only [Prod.mk.injEq] at hz
          obtain ⟨rfl, rfl⟩ := hz
          go_ret2
          exact ⟨by rw [gx_at 9 his]; rfl, rfl⟩
        · have hz := HST.out
          rw [if_pos (by omega), if_neg (by omega)] at hz
          simp only [Prod.mk.injEq] at hz
          obtain ⟨rfl, rfl⟩ := hz
          go_ret2
          exact ⟨by rw [gx, byteN_at his]; rfl, rfl⟩
        · have hz := HST.out
          rw [if_neg (by omega)] at hz
          refine ⟨⟨i + 1, by omega, by rw [gx, byteN_at his], by go_num, ?_⟩, by simp [intOf]; omega⟩
          rw [HR.out, ← hz, show s.size - (i + 1) = d by have := HD.out; omega]
      · have him : i = s.size := by omega
        subst him
        have hz : ((0 : Int), (0 : Int)) = (v, c) := by
          have h1 := HR.out
          have h2 := HG.out
          rw [Nat.sub_self] at h2
          exact h2.symm.trans h1
        simp only [Prod.mk.injEq] at hz
        obtain ⟨rfl, rfl⟩ := hz
        go_wp2
        go_ret2
        exact ⟨rfl, rfl⟩

/-- What the program's reader makes of a number's bytes. -/
def numR (s : ByteArray) (at_ : Nat) (x sz : Int) : Int × Int × Int :=
  if sz = 0 then (if 10 ≤ s.size - at_ then (0, 8, at_) else (0, 7, at_)) else if sz < 0 then (0, 8, at_) else if 1 < sz ∧ byteN s (at_ + sz.toNat - 1) = 0 then (0, 8, at_) else (x, 0, (at_ : Int) + sz)
theorem wr_len (a b : Nat) (h : b ≤ a) (ha : a ≤ 1000000) : wrap64 ((a : Int) - (b : Int)) = ((a - b : Nat) : Int) := by unfold wrap64; omega
theorem wr_end (a b : Nat) (h : 1 ≤ b) (ha : a + b ≤ 1000000) : wrap64 (wrap64 ((a : Int) + (b : Int)) - 1) = ((a + b - 1 : Nat) : Int) := by unfold wrap64; omega
theorem wr_sum (a b : Nat) (ha : a + b ≤ 1000000) : wrap64 ((a : Int) + (b : Int)) = ((a + b : Nat) : Int) := by unfold wrap64; omega
set_option maxHeartbeats 4000000 in
set_option maxRecDepth 100000 in
theorem number_calls (g : Nat) (s : ByteArray) (at_ : Nat) (w : World) (hI : w.heap[g]? = some (.cells #[.string s, .int .i64 at_, .int .i64 0] 62 (0, 0))) (h : at_ ≤ s.size) (hs : s.size ≤ 1000000) (m : Nat) (hm : m = min (s.extract at_ s.size).size 10) (x sz : Int) (hv : gvF (s.extract at_ s.size) m 0 = (x, sz)) (hsz : (at_ : Int) + sz ≤ s.size) (v c a : Int) (hr : numR s at_ x sz = (v, c, a)) :
    Calls Try.prog 40 #[.pointer (some ⟨g, 0, none⟩)] w fun e w' => e = .returned (.tuple #[.int .u64 v, .int .i64 c]) ∧ w'.heap[g]? = some (.cells #[.string s, .int .i64 a, .int .i64 0] 62 (0, 0)) ∧ KeepBut w w' g none ∧ (∀ w0 : World, Below w0.heap.size w0 w → w0.heap.size ≤ g → Below w0.heap.size w0 w') := by
  have y0 := (blk_cell hI 0).trans rfl
  have y1 := (blk_cell hI 1).trans rfl
  have y2 := (blk_cell hI 2).trans rfl
  have f1 := blk_frozen hI 1
  have hxs : (s.extract at_ s.size).size ≤ 1000000 := by rw [ByteArray.size_extract]; omega
  have HX := Lib.hid hxs
  have HA := Aside0.mk hI
  have HV := Lib.hid hv
  have HM := Lib.hid hm
  have HR := Lib.hid hr
  have HSZ := Lib.hid hsz
  have wl := wr_len s.size at_ h hs
  clear hI hv hr hm hxs hsz
  go_enter Try.func40, Try.ntmps40
  go_wp2
  go_quiet (first | (go_at_call 41; refine Calls.quiet_of_same ((getVar_same _ m HM.out HX.out x sz HV.out _).mono fun e w' hh => ⟨hh.1, hh.2.symm⟩)))
  rcases Int.lt_trichotomy sz 0 with q | q | q
  · have hz : ((0 : Int), (8 : Int), (at_ : Int)) = (v, c, a) := by
      have := HR.out
      unfold numR at this
      rwa [if_neg (by omega), if_pos q] at this
    simp only [Prod.mk.injEq] at hz
    obtain ⟨rfl, rfl, rfl⟩ := hz
    have d0 : decide (sz = 0) = false := decide_eq_false (by omega)
    have d0b : (sz == 0) = false := beq_eq_false_iff_ne.mpr (by omega)
    have d0c : (sz = 0) = False := eq_false (by omega)
    have d1 : decide (sz < 0) = true := decide_eq_true q
    go_wp2
    go_quiet (fail)
    go_wp2
    go_quiet (fail)
    go_wp2
    go_ret2
    exact ⟨rfl, HA.out, KeepBut.refl _ _ _, fun w0 hB hg => by first | exact pw_below_drewN (pw_below_drewN (pw_below_drewN hB _) _) _ | exact pw_below_drewN (pw_below_drewN hB _) _ | exact pw_below_drewN hB _⟩
  · subst q
    by_cases q10 : 10 ≤ s.size - at_
    · have hz : ((0 : Int), (8 : Int), (at_ : Int)) = (v, c, a) := by
        have := HR.out
        unfold numR at this
        rwa [if_pos rfl, if_pos q10] at this
      simp only [Prod.mk.injEq] at hz
      obtain ⟨rfl, rfl, rfl⟩ := hz
      have d1 : decide ((10 : Int) ≤ ((s.size - at_ : Nat) : Int)) = true := decide_eq_true (by omega)
      have d1b : (((s.size - at_ : Nat) : Int) ≥ 10) = True := eq_true (by omega)
      go_wp2
      go_quiet (fail)
      go_wp2
      go_ret2
      exact ⟨rfl, HA.out, KeepBut.refl _ _ _, fun w0 hB hg => by first | exact pw_below_drewN (pw_below_drewN (pw_below_drewN hB _) _) _ | exact pw_below_drewN (pw_below_drewN hB _) _ | exact pw_below_drewN hB _⟩
    · have hz : ((0 : Int), (7 : Int), (at_ : Int)) = (v, c, a) := by
        have := HR.out
        unfold numR at this
        rwa [if_pos rfl, if_neg q10] at this
      simp only [Prod.mk.injEq] at hz
      obtain ⟨rfl, rfl, rfl⟩ := hz
      have d1 : decide ((10 : Int) ≤ ((s.size - at_ : Nat) : Int)) = false := decide_eq_false (by omega)
      have d1b : (((s.size - at_ : Nat) : Int) ≥ 10) = False := eq_false (by omega)
      go_wp2
      go_quiet (fail)
      go_wp2
      go_ret2
      exact ⟨rfl, HA.out, KeepBut.refl _ _ _, fun w0 hB hg => by first | exact pw_below_drewN (pw_below_drewN (pw_below_drewN hB _) _) _ | exact pw_below_drewN (pw_below_drewN hB _) _ | exact pw_below_drewN hB _⟩
  · obtain ⟨n, hn⟩ := Int.eq_ofNat_of_zero_le (show 0 ≤ sz by omega)
    subst hn
    have hn1 : 1 ≤ n := by omega
    have hsz := HSZ.out
    have we := wr_end at_ n hn1 (by omega)
    have ws := wr_sum at_ n (by omega)
    have d0b : ((n : Int) == 0) = false := beq_eq_false_iff_ne.mpr (by omega)
    have d0c : ((n : Int) = 0) = False := eq_false (by omega)
    have d1 : decide ((n : Int) < 0) = false := decide_eq_false (by omega)
    obtain ⟨i, hi⟩ : ∃ i, i = at_ + n - 1 := ⟨_, rfl⟩
    have hb : i < s.size := by omega
    have hby := byteN_at hb
    rw [← hi] at we
    have we2 : wrap64 ((at_ : Int) + (n : Int) - 1) = (i : Int) := by unfold wrap64; omega
    have HI := Lib.hid hi
    clear hi
    have HBY := Lib.hid hby
    clear hby hsz
    have ws2 : wrap64 ((at_ : Int) + (n : Int)) = (at_ : Int) + (n : Int) := by rw [ws]; omega
    by_cases q1 : 1 < n
    · have d3 : decide ((n : Int) > 1) = true := decide_eq_true (by omega)
      by_cases q2 : (s[i]).toNat = 0
      · have e1 : (((s[i]).toNat : Int) = 0) = True := eq_true (by omega)
        have e2 : (((s[i]).toNat : Int) == 0) = true := beq_iff_eq.mpr (by omega)
        have hz : ((0 : Int), (8 : Int), (at_ : Int)) = (v, c, a) := by
          have := HR.out
          unfold numR at this
          rwa [if_neg (by omega), if_neg (by omega), if_pos ⟨by omega, by rw [Int.toNat_natCast, ← HI.out, HBY.out]; exact q2⟩] at this
        simp only [Prod.mk.injEq] at hz
        obtain ⟨rfl, rfl, rfl⟩ := hz
        clear ws ws2
        go_wp2
        go_quiet (fail)
        go_wp2
        go_quiet (fail)
        go_wp2
        go_ret2
        exact ⟨rfl, HA.out, KeepBut.refl _ _ _, fun w0 hB hg => by first | exact pw_below_drewN (pw_below_drewN (pw_below_drewN hB _) _) _ | exact pw_below_drewN (pw_below_drewN hB _) _ | exact pw_below_drewN hB _⟩
      · have e1 : (((s[i]).toNat : Int) = 0) = False := eq_false (by omega)
        have e2 : (((s[i]).toNat : Int) == 0) = false := beq_eq_false_iff_ne.mpr (by omega)
        clear ws
        have hz : (x, (0 : Int), (at_ : Int) + (n : Int)) = (v, c, a) := by
          have := HR.out
          unfold numR at this
          rwa [if_neg (by omega), if_neg (by omega), if_neg (by rw [Int.toNat_natCast, ← HI.out, HBY.out]; omega)] at this
        simp only [Prod.mk.injEq] at hz
        obtain ⟨rfl, rfl, rfl⟩ := hz
        go_wp2
        go_quiet (fail)
        go_wp2
        go_quiet (fail)
        go_wp2
        go_ret2
        exact ⟨rfl, by have := blk_put (blk_drewN HA.out 0) 1 (.int .i64 ((at_ : Int) + (n : Int))) rfl; exact this, (KeepBut.refl w g none).set_ 1 _, fun w0 hB hg => below_set (by first | exact pw_below_drewN (pw_below_drewN (pw_below_drewN hB _) _) _ | exact pw_below_drewN (pw_below_drewN hB _) _ | exact pw_below_drewN hB _) hg⟩
    · have d3 : decide ((n : Int) > 1) = false := decide_eq_false (by omega)
      clear ws
      have hz : (x, (0 : Int), (at_ : Int) + (n : Int)) = (v, c, a) := by
        have := HR.out
        unfold numR at this
        rwa [if_neg (by omega), if_neg (by omega), if_neg (by omega)] at this
      simp only [Prod.mk.injEq] at hz
      obtain ⟨rfl, rfl, rfl⟩ := hz
      go_wp2
      go_quiet (fail)
      go_wp2
      go_quiet (fail)
      go_wp2
      go_ret2
      exact ⟨rfl, by have := blk_put (blk_drewN HA.out 0) 1 (.int .i64 ((at_ : Int) + (n : Int))) rfl; exact this, (KeepBut.refl w g none).set_ 1 _, fun w0 hB hg => below_set (by first | exact pw_below_drewN (pw_below_drewN (pw_below_drewN hB _) _) _ | exact pw_below_drewN (pw_below_drewN hB _) _ | exact pw_below_drewN hB _) hg⟩

/-- What a reading comes to: a fault leaves the reader where it began. -/
def TryR (g : Nat) (at_ : Int) (Q : Int → World → Prop) (w' : World) : Prop := ∃ c w1, Q c w1 ∧ w' = (if c = 0 then w1 else (w1.setCell ⟨g, 1, none⟩ (.int .i64 at_)).setCell ⟨g, 2, none⟩ (.int .i64 c))
set_option maxHeartbeats 4000000 in
set_option maxRecDepth 100000 in
theorem try_Num (b1 b2 : Nat) (g : Nat) (s : ByteArray) (at_ : Int) (w : World) (hI : w.heap[g]? = some (.cells #[.string s, .int .i64 at_, .int .i64 0] 62 (0, 0))) (Q : Int → World → Prop)
    (hread : Calls Try.prog 39 #[.pointer (some ⟨b1, 0, none⟩), .pointer (some ⟨b2, 0, none⟩)] w fun e w' => ∃ c, e = .returned (.int .i64 c) ∧ Q c w') (hQ : ∀ c w', Q c w' → ∃ a1, w'.heap[g]? = some (.cells #[.string s, .int .i64 a1, .int .i64 0] 62 (0, 0))) :
    Calls Try.prog 34 #[.pointer (some ⟨g, 0, none⟩), .func (.func 39) #[] #[.pointer (some ⟨b1, 0, none⟩), .pointer (some ⟨b2, 0, none⟩)]] w fun e w' => e = .returned (.tuple #[]) ∧ TryR g at_ Q w' := by
  have HQ := Lib.hid hQ
  clear hQ
  have y1 := (blk_cell hI 1).trans rfl
  have y2 := (blk_cell hI 2).trans rfl
  clear hI
  have HR := Aside0.mk hread
  clear hread
  go_enter Try.func34, Try.ntmps34
  go_wp2_with (go_at_call 39; refine HR.out.mono ?_; rintro e w1 ⟨c, rfl, hq⟩; obtain ⟨a1, ha⟩ := HQ.out c w1 hq; have HQQ := Aside0.mk hq; clear hq y1 y2; have z1 := (blk_cell ha 1).trans rfl; have z2 := (blk_cell ha 2).trans rfl; have f1 := blk_frozen ha 1; have f2 := blk_frozen ha 2; have HA := Aside0.mk ha; clear ha; by_cases hc0 : c = 0)
  all_goals refine Go.Great.bodyPost_end0 (by kernel_rfl) rfl ?_
  · exact ⟨rfl, 0, _, hc0 ▸ HQQ.out, by rw [if_pos rfl]⟩
  · exact ⟨rfl, c, w1, HQQ.out, by rw [if_neg hc0]⟩
/-- What a reading through a closure leaves: the reader, the closure's own result, all else. -/
structure Rd (g b : Nat) (w w' : World) (s : ByteArray) (a : Int) (val : Value) (t : TypeId) : Prop where
  hg : w'.heap[g]? = some (.cells #[.string s, .int .i64 a, .int .i64 0] 62 (0, 0))
  hb : w'.heap[b]? = some (.cells #[val] t (0, 0))
  sz : w.heap.size ≤ w'.heap.size
  keep : ∀ k, k < w.heap.size → k ≠ g → k ≠ b → w'.heap[k]? = w.heap[k]?
  bel : ∀ w0 : World, Below w0.heap.size w0 w → w0.heap.size ≤ g → w0.heap.size ≤ b → Below w0.heap.size w0 w'
theorem results_cell1 {P : Program} {fn : Func} {p : Tmp} {ty : TypeId} (h : fn.results = #[.cell p ty]) (tmps : Array Value) (w : World) (a : Addr) (v : Value) (hp : tmps.getD p undef = .pointer (some a)) (hl : (loadVar ty a).run P w = .ok v w) : (results fn tmps).run P w = .ok v w := by
  have hp' : tmps[p]?.getD undef = .pointer (some a) := by simpa using hp
  simp [results, h, hp', asAddr, hl]
theorem ret0 {P : Program} {fn : Func} {R : Ending → World → Prop} {a : Act} {w : World} (hr : fn.results = #[]) (hd : a.defers = []) (hR : R (.returned (.tuple #[])) w) : bodyPost P fn R .ret a w := Go.Great.bodyPost_end0 hr hd hR
theorem try_end {g b : Nat} {w w3 : World} {s : ByteArray} {at_ a c : Int} {val : Value} {t : TypeId} (hlt : b ≠ g) (h : TryR g at_ (fun c' w' => c' = c ∧ Rd g b w w' s a val t) w3) :
    w3.heap[g]? = some (.cells #[.string s, .int .i64 (if c = 0 then a else at_), .int .i64 c] 62 (0, 0)) ∧ w3.heap[b]? = some (.cells #[val] t (0, 0)) ∧ w.heap.size ≤ w3.heap.size ∧ (∀ k, k < w.heap.size → k ≠ g → k ≠ b → w3.heap[k]? = w.heap[k]?) ∧
      ∀ w0 : World, Below w0.heap.size w0 w → w0.heap.size ≤ g → w0.heap.size ≤ b → Below w0.heap.size w0 w3 := by
  obtain ⟨c', w1, ⟨rfl, hr⟩, hw⟩ := h
  by_cases hc : c' = 0
  · rw [if_pos hc] at hw
    subst hw hc
    exact ⟨by rw [if_pos rfl]; exact hr.hg, hr.hb, hr.sz, hr.keep, hr.bel⟩
  · rw [if_neg hc] at hw
    subst hw
    refine ⟨by rw [if_neg hc]; exact blk_put (blk_put hr.hg 1 _ rfl) 2 _ rfl, blk_far (blk_far hr.hb hlt _) hlt _, by simpa using hr.sz, fun k h1 h2 h3 => ?_, fun w0 hB h1 h2 => below_set (below_set (hr.bel w0 hB h1 h2) h1) h1⟩
    rw [Below.heap_setCell _ _ _ _ h2, Below.heap_setCell _ _ _ _ h2]
    exact hr.keep k h1 h2 h3
set_option maxHeartbeats 4000000 in
set_option maxRecDepth 100000 in
theorem try_skip (fv : Value) (g : Nat) (s : ByteArray) (at_ bad : Int) (hb : bad ≠ 0) (w : World) (hI : w.heap[g]? = some (.cells #[.string s, .int .i64 at_, .int .i64 bad] 62 (0, 0))) :
    Calls Try.prog 34 #[.pointer (some ⟨g, 0, none⟩), fv] w fun e w' => e = .returned (.tuple #[]) ∧ w = w' := by
  have y2 := (blk_cell hI 2).trans rfl
  have e1 : (bad = 0) = False := eq_false hb
  have e2 : (bad != 0) = true := bne_iff_ne.mpr hb
  have e3 : decide (bad = 0) = false := decide_eq_false hb
  clear hI
  go_enter Try.func34, Try.ntmps34
  go_wp2
  exact ret0 (by kernel_rfl) rfl ⟨rfl, rfl⟩
set_option maxHeartbeats 4000000 in
set_option maxRecDepth 100000 in
theorem try_nil (fv : Value) (w : World) : Calls Try.prog 34 #[.pointer none, fv] w fun e w' => e = .returned (.tuple #[]) ∧ w = w' := by
  go_enter Try.func34, Try.ntmps34
  go_wp2
  exact ret0 (by kernel_rfl) rfl ⟨rfl, rfl⟩

set_option maxHeartbeats 4000000 in
set_option maxRecDepth 100000 in
theorem num1_calls (g : Nat) (s : ByteArray) (at_ : Nat) (b1 b2 : Nat) (w : World) (hI : w.heap[g]? = some (.cells #[.string s, .int .i64 at_, .int .i64 0] 62 (0, 0))) (h1 : w.heap[b1]? = some (.cells #[.pointer (some ⟨g, 0, none⟩)] 40 (0, 0))) (h2 : w.heap[b2]? = some (.cells #[.int .u64 0] 22 (0, 0))) (h : at_ ≤ s.size) (hs : s.size ≤ 1000000) (m : Nat) (hm : m = min (s.extract at_ s.size).size 10) (x sz : Int) (hv : gvF (s.extract at_ s.size) m 0 = (x, sz)) (hsz : (at_ : Int) + sz ≤ s.size) (v c a : Int) (hr : numR s at_ x sz = (v, c, a)) :
    Calls Try.prog 39 #[.pointer (some ⟨b1, 0, none⟩), .pointer (some ⟨b2, 0, none⟩)] w fun e w' => e = .returned (.int .i64 c) ∧ Rd g b2 w w' s a (.int .u64 v) 22 := by
  have n2 : b2 ≠ g := blk_ne h2 hI (by decide)
  have H2 := Aside0.mk h2
  have HC := Aside0.mk (number_calls g s at_ w hI h hs m hm x sz hv hsz v c a hr)
  have y1 := (blk_cell h1 0).trans rfl
  clear hI h1 h2 hm hv hsz hr
  go_enter Try.func39, Try.ntmps39
  go_wp2_with (go_at_call 40; refine HC.out.mono ?_; rintro e w1 ⟨rfl, hg1, hk1, hb1⟩; have G1 := Aside0.mk hg1; have K1 := Aside0.mk hk1; have B1 := Aside0.mk hb1; have P2 := Aside0.mk (hk1.blk H2.out n2 (by simp)); clear hg1 hk1 hb1 y1; have z0 := (blk_cell P2.out 0).trans rfl; have f0 := blk_frozen P2.out 0)
  go_ret
  refine ⟨rfl, blk_far G1.out (fun e => n2 e.symm) _, blk_put P2.out 0 _ rfl, by simpa using K1.out.1, fun k hk h3 h4 => ?_, fun w0 hB h3 h4 => below_set (B1.out w0 hB h3) h4⟩
  rw [Below.heap_setCell _ _ _ _ h4]
  exact K1.out.2 k hk h3 (by simp)
theorem gvF_le (s : ByteArray) : ∀ (d i : Nat), (gvF s d i).2 ≤ ((i + d : Nat) : Int)
  | 0, i => by simp only [gvF]; omega
  | d + 1, i => by
    have := gvF_le s d (i + 1)
    simp only [gvF]
    split
    · split
      · show (-1 : Int) ≤ _; omega
      · show ((i + 1 : Nat) : Int) ≤ _; omega
    · omega
/-- What Num reads: the number, the place, the fault. -/
def numC (s : ByteArray) (at_ bad : Int) : Int × Int × Int :=
  if bad ≠ 0 then (0, at_, bad) else
    let p := numR s at_.toNat (gvF (s.extract at_.toNat s.size) (min (s.extract at_.toNat s.size).size 10) 0).1 (gvF (s.extract at_.toNat s.size) (min (s.extract at_.toNat s.size).size 10) 0).2
    (p.1, if p.2.1 = 0 then p.2.2 else at_, p.2.1)
def pack_In_Num.f (s : ByteArray) (at_ bad : Int) : Option (Int × ByteArray × Int × Int) := if bad ≠ 0 ∨ (0 ≤ at_ ∧ at_ ≤ s.size ∧ s.size ≤ 1000000) then some ((numC s at_ bad).1, s, (numC s at_ bad).2.1, (numC s at_ bad).2.2) else none
set_option maxHeartbeats 4000000 in
set_option maxRecDepth 100000 in
theorem num_ok (g : Nat) (s : ByteArray) (at_ : Nat) (w0 w : World) (hB : Below w0.heap.size w0 w) (hw : w0.heap.size ≤ g) (hI : w.heap[g]? = some (.cells #[.string s, .int .i64 at_, .int .i64 0] 62 (0, 0))) (h : at_ ≤ s.size) (hs : s.size ≤ 1000000) (m : Nat) (hm : m = min (s.extract at_ s.size).size 10) (x sz : Int) (hv : gvF (s.extract at_ s.size) m 0 = (x, sz)) (hsz : (at_ : Int) + sz ≤ s.size) (v c a : Int) (hr : numR s at_ x sz = (v, c, a)) (a3 : Int) (ha3 : a3 = if c = 0 then a else at_) :
    Calls Try.prog 26 #[.pointer (some ⟨g, 0, none⟩)] w fun e w' => e = .returned (.int .u64 v) ∧ w'.heap[g]? = some (.cells #[.string s, .int .i64 a3, .int .i64 c] 62 (0, 0)) ∧ Below w0.heap.size w0 w' ∧ KeepBut w w' g none := by
  have hg : g < w.heap.size := blk_lt hI
  have HI2 := Aside0.mk (blk_alloc (blk_alloc hI (.cells #[.pointer (some ⟨g, 0, none⟩)] 40 (0, 0))) (.cells #[.int .u64 0] 22 (0, 0)))
  have HQ := Aside0.mk (num1_calls g s at_ w.heap.size (w.heap.size + 1) _ HI2.out (blk_alloc (blk_new w _) _) (by simpa using blk_new (w.alloc (.cells #[.pointer (some ⟨g, 0, none⟩)] 40 (0, 0))) (.cells #[.int .u64 0] 22 (0, 0))) h hs m hm x sz hv hsz v c a hr)
  have HB := Aside0.mk hB
  have H3 := Lib.hid ha3
  clear hI hm hv hr hB ha3
  go_enter Try.func26, Try.ntmps26
  go_wp2_with (go_at_call 34; refine (try_Num w.heap.size (w.heap.size + 1) g s at_ _ HI2.out (fun c' w' => c' = c ∧ Rd g (w.heap.size + 1) _ w' s a (.int .u64 v) 22) (HQ.out.mono fun e w' hh => ⟨c, hh.1, ⟨rfl, hh.2⟩⟩) (fun c' w' hh => ⟨a, hh.2.hg⟩)).mono ?_; rintro e3 w3 ⟨rfl, ht⟩; obtain ⟨t1, t2, t3, t4, t5⟩ := try_end (by omega) ht; have T1 := Aside0.mk t1; have T2 := Aside0.mk t2; have T3 := Aside0.mk t3; have T4 := Aside0.mk t4; have T5 := Aside0.mk t5; clear ht t1 t2 t3 t4 t5; have z0 := (blk_cell T2.out 0).trans rfl; have f0 := blk_frozen T2.out 0)
  refine bodyPost_ret (v := .int .u64 v) (results_cell1 (p := 2) (ty := 22) rfl _ _ ⟨w.heap.size + 1, 0, none⟩ _ rfl (by have q0 := (blk_cell (blk_put T2.out 0 (.int .u64 v) rfl) 0).trans rfl; go_simp)) rfl ?_
  · refine ⟨rfl, ?_, below_set (T5.out w0 (below_alloc (below_alloc HB.out _) _) hw (by have := HB.out.size; omega)) (by have := HB.out.size; show _ ≤ w.heap.size + 1; omega), ?_, fun k hk h1 _ => ?_⟩
    · rw [H3.out]
      exact blk_far T1.out (by show g ≠ w.heap.size + 1; omega) _
    · have := T3.out
      simp at this ⊢
      omega
    · rw [Below.heap_setCell _ _ _ _ (show k ≠ w.heap.size + 1 by omega), T4.out k (by simp; omega) h1 (by omega)]
      exact ((Below.heap_alloc _ _ k (by simp; omega)).trans (Below.heap_alloc _ _ k hk))

set_option maxHeartbeats 4000000 in
set_option maxRecDepth 100000 in
theorem num_skip (g : Nat) (s : ByteArray) (at_ bad : Int) (hb : bad ≠ 0) (w0 w : World) (hB : Below w0.heap.size w0 w) (hI : w.heap[g]? = some (.cells #[.string s, .int .i64 at_, .int .i64 bad] 62 (0, 0))) :
    Calls Try.prog 26 #[.pointer (some ⟨g, 0, none⟩)] w fun e w' => e = .returned (.int .u64 0) ∧ w'.heap[g]? = some (.cells #[.string s, .int .i64 at_, .int .i64 bad] 62 (0, 0)) ∧ Below w0.heap.size w0 w' ∧ KeepBut w w' g none := by
  have hg : g < w.heap.size := blk_lt hI
  have hws : w0.heap.size ≤ w.heap.size := hB.size
  have HI2 := Aside0.mk (blk_alloc (blk_alloc hI (.cells #[.pointer (some ⟨g, 0, none⟩)] 40 (0, 0))) (.cells #[.int .u64 0] 22 (0, 0)))
  have HB := Aside0.mk hB
  have HN := Lib.hid hb
  clear hI hB hb
  go_enter Try.func26, Try.ntmps26
  go_wp2_with (go_at_call 34; refine (try_skip _ g s at_ bad HN.out _ HI2.out).mono ?_; rintro e3 w3 ⟨rfl, rfl⟩)
  have T2 := Aside0.mk (show ((w.alloc (.cells #[.pointer (some ⟨g, 0, none⟩)] 40 (0, 0))).alloc (.cells #[.int .u64 0] 22 (0, 0))).heap[w.heap.size + 1]? = some (.cells #[.int .u64 0] 22 (0, 0)) by simpa using blk_new (w.alloc (.cells #[.pointer (some ⟨g, 0, none⟩)] 40 (0, 0))) (.cells #[.int .u64 0] 22 (0, 0)))
  refine bodyPost_ret (v := .int .u64 0) (results_cell1 (p := 2) (ty := 22) rfl _ _ ⟨w.heap.size + 1, 0, none⟩ _ rfl (by have q0 := (blk_cell T2.out 0).trans rfl; go_simp)) rfl ?_
  refine ⟨rfl, HI2.out, below_alloc (below_alloc HB.out _) _, by simp; omega, fun k hk h1 _ => ?_⟩
  exact ((Below.heap_alloc _ _ k (by simp; omega)).trans (Below.heap_alloc _ _ k hk))

/-- What the program's reader makes of the number at a place. -/
def numP (s : ByteArray) (at_ : Nat) : Int × Int × Int := numR s at_ (gvF (s.extract at_ s.size) (min (s.extract at_ s.size).size 10) 0).1 (gvF (s.extract at_ s.size) (min (s.extract at_ s.size).size 10) 0).2
theorem number2 (g : Nat) (s : ByteArray) (at_ : Nat) (w : World) (hI : w.heap[g]? = some (.cells #[.string s, .int .i64 at_, .int .i64 0] 62 (0, 0))) (h : at_ ≤ s.size) (hs : s.size ≤ 1000000) (v c a : Int) (hr : numP s at_ = (v, c, a)) :
    Calls Try.prog 40 #[.pointer (some ⟨g, 0, none⟩)] w fun e w' => e = .returned (.tuple #[.int .u64 v, .int .i64 c]) ∧ w'.heap[g]? = some (.cells #[.string s, .int .i64 a, .int .i64 0] 62 (0, 0)) ∧ KeepBut w w' g none ∧ (∀ w0 : World, Below w0.heap.size w0 w → w0.heap.size ≤ g → Below w0.heap.size w0 w') := by
  have hle := gvF_le (s.extract at_ s.size) (min (s.extract at_ s.size).size 10) 0
  have hex : (s.extract at_ s.size).size = s.size - at_ := by rw [ByteArray.size_extract]; omega
  unfold numP at hr
  rcases hv : gvF (s.extract at_ s.size) (min (s.extract at_ s.size).size 10) 0 with ⟨x, sz⟩
  rw [hv] at hle hr
  exact number_calls g s at_ w hI h hs _ rfl x sz hv (by simp only at hle; omega) v c a hr
/-- A bounded number. -/
def mostR (s : ByteArray) (at_ : Nat) (most : Int) : Int × Int × Int := if (numP s at_).2.1 = 0 ∧ (most < 0 ∨ most < (numP s at_).1) then (0, 8, (numP s at_).2.2) else numP s at_
theorem wrap_nn (n : Int) : 0 ≤ IntKind.u64.wrap n := by simp only [IntKind.wrap, IntKind.bits, IntKind.signed]; simp; omega
theorem bits_nn (x y : Int) : 0 ≤ Go.bits .or .u64 x y := by unfold Go.bits; exact wrap_nn _
theorem gx_nn (s : ByteArray) : ∀ i, 0 ≤ gx s i
  | 0 => by simp [gx]
  | i + 1 => by rw [gx]; exact bits_nn _ _
theorem gvF_nn (s : ByteArray) : ∀ (d i : Nat), 0 ≤ (gvF s d i).1
  | 0, i => by simp only [gvF]; omega
  | d + 1, i => by
    have := gvF_nn s d (i + 1)
    simp only [gvF]
    split
    · split
      · show (0 : Int) ≤ 0; omega
      · exact gx_nn s _
    · omega
theorem numP_bad (s : ByteArray) (at_ : Nat) (v c a : Int) (hr : numP s at_ = (v, c, a)) : (c = 0 ∧ (at_ : Int) < a ∧ 0 ≤ v) ∨ (c ≠ 0 ∧ v = 0 ∧ a = at_) := by
  unfold numP at hr
  rcases hv : gvF (s.extract at_ s.size) (min (s.extract at_ s.size).size 10) 0 with ⟨x, sz⟩
  rw [hv] at hr
  simp only at hr
  have hx : 0 ≤ x := by
    have := gvF_nn (s.extract at_ s.size) (min (s.extract at_ s.size).size 10) 0
    rw [hv] at this
    exact this
  unfold numR at hr
  by_cases h0 : sz = 0
  · rw [if_pos h0] at hr
    split at hr <;> simp only [Prod.mk.injEq] at hr <;> omega
  · rw [if_neg h0] at hr
    split at hr
    · simp only [Prod.mk.injEq] at hr; omega
    · split at hr <;> simp only [Prod.mk.injEq] at hr <;> omega
set_option maxHeartbeats 4000000 in
set_option maxRecDepth 100000 in
theorem most_calls (g : Nat) (s : ByteArray) (at_ : Nat) (most : Int) (hm : most < 2 ^ 63) (w : World) (hI : w.heap[g]? = some (.cells #[.string s, .int .i64 at_, .int .i64 0] 62 (0, 0))) (h : at_ ≤ s.size) (hs : s.size ≤ 1000000) (v c a : Int) (hr : mostR s at_ most = (v, c, a)) :
    Calls Try.prog 37 #[.pointer (some ⟨g, 0, none⟩), .int .i64 most] w fun e w' => e = .returned (.tuple #[.int .i64 v, .int .i64 c]) ∧ w'.heap[g]? = some (.cells #[.string s, .int .i64 a, .int .i64 0] 62 (0, 0)) ∧ KeepBut w w' g none ∧ (∀ w0 : World, Below w0.heap.size w0 w → w0.heap.size ≤ g → Below w0.heap.size w0 w') := by
  rcases hn : numP s at_ with ⟨v0, c0, a0⟩
  have hb := numP_bad s at_ v0 c0 a0 hn
  have HC := Aside0.mk (number2 g s at_ w hI h hs v0 c0 a0 hn)
  unfold mostR at hr
  rw [hn] at hr
  simp only at hr
  clear hI hn h hs
  by_cases q0 : c0 = 0
  · subst q0
    have hv0 : 0 ≤ v0 := by omega
    clear hb
    by_cases q1 : most < 0
    · rw [if_pos ⟨rfl, .inl q1⟩] at hr
      simp only [Prod.mk.injEq] at hr
      obtain ⟨rfl, rfl, rfl⟩ := hr
      have d1 : decide (most < 0) = true := decide_eq_true q1
      go_enter Try.func37, Try.ntmps37
      go_wp2_with (go_at_call 40; refine HC.out.mono ?_; rintro e w1 ⟨rfl, hg1⟩; have G1 := Aside0.mk hg1; clear hg1)
      go_ret2
      exact ⟨rfl, G1.out⟩
    · have d1 : decide (most < 0) = false := decide_eq_false q1
      have wm : IntKind.u64.wrap most = most := by simp [IntKind.wrap, IntKind.bits, IntKind.signed]; omega
      by_cases q2 : most < v0
      · rw [if_pos ⟨rfl, .inr q2⟩] at hr
        simp only [Prod.mk.injEq] at hr
        obtain ⟨rfl, rfl, rfl⟩ := hr
        have d2 : decide (most < v0) = true := decide_eq_true q2
        go_enter Try.func37, Try.ntmps37
        go_wp2_with (go_at_call 40; refine HC.out.mono ?_; rintro e w1 ⟨rfl, hg1⟩; have G1 := Aside0.mk hg1; clear hg1)
        go_ret2
        exact ⟨rfl, G1.out⟩
      · rw [if_neg (by omega)] at hr
        simp only [Prod.mk.injEq] at hr
        obtain ⟨rfl, rfl, rfl⟩ := hr
        have d2 : decide (most < v0) = false := decide_eq_false q2
        have wv : wrap64 v0 = v0 := by unfold wrap64; omega
        go_enter Try.func37, Try.ntmps37
        go_wp2_with (go_at_call 40; refine HC.out.mono ?_; rintro e w1 ⟨rfl, hg1⟩; have G1 := Aside0.mk hg1; clear hg1)
        go_ret2
        exact ⟨rfl, G1.out⟩
  · obtain ⟨-, rfl, rfl⟩ := hb.resolve_left (fun x => q0 x.1)
    rw [if_neg (fun x => q0 x.1)] at hr
    simp only [Prod.mk.injEq] at hr
    obtain ⟨rfl, rfl, rfl⟩ := hr
    have d0 : decide (c0 = 0) = false := decide_eq_false q0
    have d0b : (c0 == 0) = false := beq_eq_false_iff_ne.mpr q0
    have d0c : (c0 = 0) = False := eq_false q0
    go_enter Try.func37, Try.ntmps37
    go_wp2_with (go_at_call 40; refine HC.out.mono ?_; rintro e w1 ⟨rfl, hg1⟩; have G1 := Aside0.mk hg1; clear hg1)
    go_ret2
    exact ⟨rfl, G1.out⟩

theorem i64w (x : Int) : IntKind.i64.wrap x = wrap64 x := by rw [IntKind.wrap_i64]; unfold wrap64; omega
theorem bel_draws {B : Nat} {a w : World} (h : Below B a w) (n : Nat) : Below B a (w.drewN n) := ⟨h.os, h.tape, h.output, h.size, h.block⟩
theorem still_tail3 {P : Program} {id : Nat} {Q : Exit → Act → World → Prop} {a : Act} {w : World} {l : List Oper} (n : Nat) (hm : P.follows .mixedOrders = true) (hB : Region.lexTailB .any l.toArray n = true)
    (h : ∀ w2 : World, w2.heap = w.heap → (∀ (n : Nat) (w0 : World), Below n w0 w → Below n w0 w2) → wpStill P l.toArray w2 (fun a' => wpList P l.toArray Q (l.drop n) a' w2) (l.take n) a) : (Code.region id l.toArray true).wp P Q a w :=
  wp_region_still_tail n hm hB (h _ rfl (fun n w0 h => h.drew))
theorem numP_le (s : ByteArray) (at_ : Nat) (h : at_ ≤ s.size) (v c a : Int) (hr : numP s at_ = (v, c, a)) : a ≤ s.size := by
  have hle := gvF_le (s.extract at_ s.size) (min (s.extract at_ s.size).size 10) 0
  have hex : (s.extract at_ s.size).size = s.size - at_ := by rw [ByteArray.size_extract]; omega
  unfold numP at hr
  rcases hv : gvF (s.extract at_ s.size) (min (s.extract at_ s.size).size 10) 0 with ⟨x, sz⟩
  rw [hv] at hle hr
  simp only at hle hr
  unfold numR at hr
  by_cases h0 : sz = 0
  · rw [if_pos h0] at hr
    split at hr <;> simp only [Prod.mk.injEq] at hr <;> omega
  · rw [if_neg h0] at hr
    split at hr
    · simp only [Prod.mk.injEq] at hr; omega
    · split at hr <;> simp only [Prod.mk.injEq] at hr <;> omega
theorem mostR_bad (s : ByteArray) (at_ : Nat) (h : at_ ≤ s.size) (most : Int) (v c a : Int) (hr : mostR s at_ most = (v, c, a)) : 0 ≤ v ∧ 0 ≤ a ∧ a ≤ s.size ∧ (c = 0 → v ≤ most) ∧ (c ≠ 0 → v = 0) := by
  rcases hn : numP s at_ with ⟨v0, c0, a0⟩
  have h1 := numP_bad s at_ v0 c0 a0 hn
  have h2 := numP_le s at_ h v0 c0 a0 hn
  unfold mostR at hr
  rw [hn] at hr
  simp only at hr
  split at hr <;> simp only [Prod.mk.injEq] at hr <;> omega
set_option maxHeartbeats 4000000 in
set_option maxRecDepth 100000 in
theorem most1_calls (g : Nat) (s : ByteArray) (at_ : Nat) (most : Int) (hm : most < 2 ^ 63) (b1 b2 b3 : Nat) (w : World) (hI : w.heap[g]? = some (.cells #[.string s, .int .i64 at_, .int .i64 0] 62 (0, 0))) (h1 : w.heap[b1]? = some (.cells #[.pointer (some ⟨g, 0, none⟩)] 40 (0, 0))) (h2 : w.heap[b2]? = some (.cells #[.int .i64 most] 3 (0, 0))) (h3 : w.heap[b3]? = some (.cells #[.int .i64 0] 3 (0, 0))) (h : at_ ≤ s.size) (hs : s.size ≤ 1000000) (v c a : Int) (hr : mostR s at_ most = (v, c, a)) :
    Calls Try.prog 36 #[.pointer (some ⟨b1, 0, none⟩), .pointer (some ⟨b2, 0, none⟩), .pointer (some ⟨b3, 0, none⟩)] w fun e w' => e = .returned (.int .i64 c) ∧ Rd g b3 w w' s a (.int .i64 v) 3 := by
  have n3 : b3 ≠ g := blk_ne h3 hI (by decide)
  have n1 : b1 ≠ g := blk_ne h1 hI (by decide)
  have n2 : b2 ≠ g := blk_ne h2 hI (by decide)
  have H1 := Aside0.mk h1
  have H2 := Aside0.mk h2
  have H3 := Aside0.mk h3
  have HC := Aside0.mk (most_calls g s at_ most hm w hI h hs v c a hr)
  have y1 := (blk_cell h1 0).trans rfl
  have y2 := (blk_cell h2 0).trans rfl
  clear hI h1 h2 h3 hr hm
  go_enter Try.func36, Try.ntmps36
  go_wp2_with (go_at_call 37; refine HC.out.mono ?_; rintro e w1 ⟨rfl, hg1, hk1, hb1⟩; have G1 := Aside0.mk hg1; have K1 := Aside0.mk hk1; have B1 := Aside0.mk hb1; have P3 := Aside0.mk (hk1.blk H3.out n3 (by simp)); have P1 := Aside0.mk (hk1.blk H1.out n1 (by simp)); have P2 := Aside0.mk (hk1.blk H2.out n2 (by simp)); clear hg1 hk1 hb1 y1 y2; have z0 := (blk_cell P3.out 0).trans rfl; have f0 := blk_frozen P3.out 0)
  go_ret
  refine ⟨rfl, blk_far G1.out (fun e => n3 e.symm) _, blk_put P3.out 0 _ rfl, by simpa using K1.out.1, fun k hk h3 h4 => ?_, fun w0 hB h3 h4 => below_set (B1.out w0 hB h3) h4⟩
  rw [Below.heap_setCell _ _ _ _ h4]
  exact K1.out.2 k hk h3 (by simp)
/-- What the program's reader makes of a text. -/
def textR (s : ByteArray) (at_ : Nat) (most : Int) : ByteArray × Int × Int :=
  let p := mostR s at_ most
  if p.2.1 ≠ 0 then (.empty, p.2.1, p.2.2) else if (s.size : Int) - p.2.2 < p.1 then (.empty, 7, p.2.2) else (s.extract p.2.2.toNat (p.2.2.toNat + p.1.toNat), 0, p.2.2 + p.1)
set_option maxHeartbeats 4000000 in
set_option maxRecDepth 100000 in
theorem text1_calls (g : Nat) (s : ByteArray) (at_ : Nat) (most : Int) (hm : most < 2 ^ 63) (b1 b2 b3 : Nat) (w : World) (hI : w.heap[g]? = some (.cells #[.string s, .int .i64 at_, .int .i64 0] 62 (0, 0))) (h1 : w.heap[b1]? = some (.cells #[.pointer (some ⟨g, 0, none⟩)] 40 (0, 0))) (h2 : w.heap[b2]? = some (.cells #[.int .i64 most] 3 (0, 0))) (h3 : w.heap[b3]? = some (.cells #[.string .empty] 9 (0, 0))) (h : at_ ≤ s.size) (hs : s.size ≤ 1000000) (v : ByteArray) (c a : Int) (hr : textR s at_ most = (v, c, a)) :
    Calls Try.prog 38 #[.pointer (some ⟨b1, 0, none⟩), .pointer (some ⟨b2, 0, none⟩), .pointer (some ⟨b3, 0, none⟩)] w fun e w' => e = .returned (.int .i64 c) ∧ Rd g b3 w w' s a (.string v) 9 := by
  have n3 : b3 ≠ g := blk_ne h3 hI (by decide)
  have n1 : b1 ≠ g := blk_ne h1 hI (by decide)
  have n2 : b2 ≠ g := blk_ne h2 hI (by decide)
  have H1 := Aside0.mk h1
  have H2 := Aside0.mk h2
  have H3 := Aside0.mk h3
  have n13 : b1 ≠ b3 := blk_ne h1 h3 (by decide)
  have n3' : g ≠ b3 := fun e => n3 e.symm
  rcases hn : mostR s at_ most with ⟨v0, c0, a0⟩
  obtain ⟨e1, e2, e3, e4, e5⟩ := mostR_bad s at_ h most v0 c0 a0 hn
  have HC := Aside0.mk (most_calls g s at_ most hm w hI h hs v0 c0 a0 hn)
  have y1 := (blk_cell h1 0).trans rfl
  have y2 := (blk_cell h2 0).trans rfl
  unfold textR at hr
  rw [hn] at hr
  simp only at hr
  clear hI h1 h2 h3 hm hn
  by_cases q0 : c0 = 0
  · subst q0
    rw [if_neg (by simp)] at hr
    obtain ⟨k, rfl⟩ := Int.eq_ofNat_of_zero_le e2
    obtain ⟨n, rfl⟩ := Int.eq_ofNat_of_zero_le e1
    have wl := wr_len s.size k (by omega) hs
    by_cases q1 : (s.size : Int) - k < n
    · rw [if_pos q1] at hr
      simp only [Prod.mk.injEq] at hr
      obtain ⟨rfl, rfl, rfl⟩ := hr
      have d1 : decide ((((s.size - k : Nat) : Int)) < (n : Int)) = true := decide_eq_true (by omega)
      go_enter Try.func38, Try.ntmps38
      go_wp2_with (go_at_call 37; refine HC.out.mono ?_; rintro e w1 ⟨rfl, hg1, hk1, hb1⟩; have G1 := Aside0.mk hg1; have K1 := Aside0.mk hk1; have B1 := Aside0.mk hb1; have P3 := Aside0.mk (hk1.blk H3.out n3 (by simp)); have P1 := Aside0.mk (hk1.blk H1.out n1 (by simp)); have P2 := Aside0.mk (hk1.blk H2.out n2 (by simp)); clear hg1 hk1 hb1 y1 y2; have z1 := (blk_cell P1.out 0).trans rfl; have g0 := (blk_cell G1.out 0).trans rfl; have g1 := (blk_cell G1.out 1).trans rfl)
      go_quiet (fail)
      go_wp2
      go_ret
      exact ⟨rfl, G1.out, P3.out, K1.out.1, fun k hk h3 h4 => K1.out.2 k hk h3 (by simp), fun w0 hB h3 h4 => (by first | exact B1.out w0 hB h3 | exact bel_draws (B1.out w0 hB h3) _)⟩
    · rw [if_neg q1, Int.toNat_natCast, Int.toNat_natCast] at hr
      simp only [Prod.mk.injEq] at hr
      obtain ⟨rfl, rfl, rfl⟩ := hr
      have d1 : decide ((((s.size - k : Nat) : Int)) < (n : Int)) = false := decide_eq_false (by omega)
      obtain ⟨p, hp⟩ : ∃ p, p = k + n := ⟨_, rfl⟩
      have wk : IntKind.i64.wrap ((k : Int) + (n : Int)) = (p : Int) := by
        have := wr_sum k n (by omega)
        rw [hp]
        rw [i64w]; exact this
      have wk2 : wrap64 ((k : Int) + (n : Int)) = (p : Int) := by rw [hp]; exact wr_sum k n (by omega)
      have hkp : k ≤ p := by omega
      have hkn : p ≤ s.size := by omega
      have ikp : (k : Int) ≤ (p : Int) := by omega
      have ikn : (p : Int) ≤ (s.size : Int) := by omega
      have ik0 : (0 : Int) ≤ (p : Int) := by omega
      rw [← hp]
      have HP := Lib.hid hp
      clear hp
      go_enter Try.func38, Try.ntmps38
      go_wp2_with (go_at_call 37; refine HC.out.mono ?_; rintro e w1 ⟨rfl, hg1, hk1, hb1⟩; have G1 := Aside0.mk hg1; have K1 := Aside0.mk hk1; have B1 := Aside0.mk hb1; have P3 := Aside0.mk (hk1.blk H3.out n3 (by simp)); have P1 := Aside0.mk (hk1.blk H1.out n1 (by simp)); have P2 := Aside0.mk (hk1.blk H2.out n2 (by simp)); clear hg1 hk1 hb1 y1 y2; have z1 := (blk_cell P1.out 0).trans rfl; have g0 := (blk_cell G1.out 0).trans rfl; have g1 := (blk_cell G1.out 1).trans rfl; have z0 := (blk_cell P3.out 0).trans rfl; have f0 := blk_frozen P3.out 0)
      go_quiet (fail)
      go_wp2
      refine still_tail3 15 (by kernel_rfl) (by kernel_rfl) (fun w2 hw2 hb2 => ?_)
      have hw2' : w2.heap = w1.heap := hw2
      have G2 := Aside0.mk (show w2.heap[g]? = _ from hw2' ▸ G1.out)
      have P32 := Aside0.mk (show w2.heap[b3]? = _ from hw2' ▸ P3.out)
      have P12 := Aside0.mk (show w2.heap[b1]? = _ from hw2' ▸ P1.out)
      have K2 := Aside0.mk hw2'
      have B2 := Aside0.mk (show ∀ w0 : World, Below w0.heap.size w0 w → w0.heap.size ≤ g → Below w0.heap.size w0 w2 from fun w0 h1 h2 => hb2 _ _ (bel_draws (B1.out w0 h1 h2) _))
      clear z1 g0 g1 z0 f0 hw2 hb2 hw2'
      have z1 := (blk_cell P12.out 0).trans rfl
      have g0 := (blk_cell G2.out 0).trans rfl
      have g1 := (blk_cell G2.out 1).trans rfl
      have z0 := (blk_cell P32.out 0).trans rfl
      have f0 := blk_frozen P32.out 0
      have f1 := blk_frozen G2.out 1
      simp only [List.take_succ_cons, List.take_zero, List.drop_succ_cons, List.drop_zero]
      repeat still_step
      refine wpStill_nil ?_
      go_wp2
      go_ret
      refine ⟨rfl, ?_, blk_far (blk_put P32.out 0 _ rfl) n3 _, ?_, fun k hk h3 h4 => ?_, fun w0 hB h3 h4 => below_set (below_set (B2.out w0 hB h3) h4) h3⟩
      · rw [show ((k : Int) + (n : Int)) = (p : Int) by rw [HP.out]; simp]
        exact blk_put (blk_far G2.out n3' _) 1 _ rfl
      · have := K1.out.1
        simpa [K2.out] using this
      · rw [Below.heap_setCell _ _ _ _ h3, Below.heap_setCell _ _ _ _ h4, K2.out]
        exact K1.out.2 k hk h3 (by simp)
  · rw [if_pos q0] at hr
    simp only [Prod.mk.injEq] at hr
    obtain ⟨rfl, rfl, rfl⟩ := hr
    have d0 : decide (c0 = 0) = false := decide_eq_false q0
    have d0b : (c0 != 0) = true := bne_iff_ne.mpr q0
    have d0c : (c0 = 0) = False := eq_false q0
    go_enter Try.func38, Try.ntmps38
    go_wp2_with (go_at_call 37; refine HC.out.mono ?_; rintro e w1 ⟨rfl, hg1, hk1, hb1⟩; have G1 := Aside0.mk hg1; have K1 := Aside0.mk hk1; have B1 := Aside0.mk hb1; have P3 := Aside0.mk (hk1.blk H3.out n3 (by simp)); have P1 := Aside0.mk (hk1.blk H1.out n1 (by simp)); have P2 := Aside0.mk (hk1.blk H2.out n2 (by simp)); clear hg1 hk1 hb1 y1 y2; skip)
    go_ret
    exact ⟨rfl, G1.out, P3.out, K1.out.1, fun k hk h3 h4 => K1.out.2 k hk h3 (by simp), fun w0 hB h3 h4 => (by first | exact B1.out w0 hB h3 | exact bel_draws (B1.out w0 hB h3) _)⟩

/-- What the program's reader makes of a byte. -/
def byteR (s : ByteArray) (at_ : Nat) : Int × Int × Int := if at_ = s.size then (0, 7, at_) else ((byteN s at_ : Nat), 0, (at_ : Int) + 1)
set_option maxHeartbeats 4000000 in
set_option maxRecDepth 100000 in
theorem byte1_calls (g : Nat) (s : ByteArray) (at_ : Nat) (b1 b3 : Nat) (w : World) (hI : w.heap[g]? = some (.cells #[.string s, .int .i64 at_, .int .i64 0] 62 (0, 0))) (h1 : w.heap[b1]? = some (.cells #[.pointer (some ⟨g, 0, none⟩)] 40 (0, 0))) (h3 : w.heap[b3]? = some (.cells #[.int .u8 0] 5 (0, 0))) (h : at_ ≤ s.size) (hs : s.size ≤ 1000000) (v c a : Int) (hr : byteR s at_ = (v, c, a)) :
    Calls Try.prog 35 #[.pointer (some ⟨b1, 0, none⟩), .pointer (some ⟨b3, 0, none⟩)] w fun e w' => e = .returned (.int .i64 c) ∧ Rd g b3 w w' s a (.int .u8 v) 5 := by
  have n3 : b3 ≠ g := blk_ne h3 hI (by decide)
  have n3' : g ≠ b3 := fun e => n3 e.symm
  have n1 : b1 ≠ g := blk_ne h1 hI (by decide)
  have n13 : b1 ≠ b3 := blk_ne h1 h3 (by decide)
  have G1 := Aside0.mk hI
  have P1 := Aside0.mk h1
  have P3 := Aside0.mk h3
  unfold byteR at hr
  have z1 := (blk_cell h1 0).trans rfl
  have g0 := (blk_cell hI 0).trans rfl
  have g1 := (blk_cell hI 1).trans rfl
  have z0 := (blk_cell h3 0).trans rfl
  have f0 := blk_frozen h3 0
  clear hI h1 h3
  by_cases q0 : at_ = s.size
  · rw [if_pos q0] at hr
    simp only [Prod.mk.injEq] at hr
    obtain ⟨rfl, rfl, rfl⟩ := hr
    have d0 : decide ((at_ : Int) = (s.size : Int)) = true := decide_eq_true (by omega)
    have d0b : ((at_ : Int) == (s.size : Int)) = true := beq_iff_eq.mpr (by omega)
    have d0c : ((at_ : Int) = (s.size : Int)) = True := eq_true (by omega)
    clear q0
    go_enter Try.func35, Try.ntmps35
    go_wp2
    go_quiet (fail)
    go_wp2
    go_ret
    exact ⟨rfl, G1.out, P3.out, Nat.le_refl _, fun k hk h3 h4 => rfl, fun w0 hB h3 h4 => bel_draws hB _⟩
  · rw [if_neg q0] at hr
    simp only [Prod.mk.injEq] at hr
    have hlt : at_ < s.size := by omega
    rw [byteN_at hlt] at hr
    obtain ⟨rfl, rfl, rfl⟩ := hr
    have d0 : decide ((at_ : Int) = (s.size : Int)) = false := decide_eq_false (by omega)
    have d0b : ((at_ : Int) == (s.size : Int)) = false := beq_eq_false_iff_ne.mpr (by omega)
    have d0c : ((at_ : Int) = (s.size : Int)) = False := eq_false (by omega)
    have wk2 : wrap64 ((at_ : Int) + 1) = (at_ : Int) + 1 := by unfold wrap64; omega
    have wk : IntKind.i64.wrap ((at_ : Int) + 1) = (at_ : Int) + 1 := by rw [i64w]; exact wk2
    go_enter Try.func35, Try.ntmps35
    go_wp2
    go_quiet (fail)
    go_wp2
    refine still_tail3 9 (by kernel_rfl) (by kernel_rfl) (fun w2 hw2 hb2 => ?_)
    have hw2' : w2.heap = w.heap := hw2
    have G2 := Aside0.mk (show w2.heap[g]? = _ from hw2' ▸ G1.out)
    have P32 := Aside0.mk (show w2.heap[b3]? = _ from hw2' ▸ P3.out)
    have P12 := Aside0.mk (show w2.heap[b1]? = _ from hw2' ▸ P1.out)
    have K2 := Aside0.mk hw2'
    have B2 := Aside0.mk (show ∀ w0 : World, Below w0.heap.size w0 w → Below w0.heap.size w0 w2 from fun w0 h1 => hb2 _ _ (bel_draws h1 _))
    clear z1 g0 g1 z0 f0 hw2 hb2 hw2'
    have z1 := (blk_cell P12.out 0).trans rfl
    have g0 := (blk_cell G2.out 0).trans rfl
    have g1 := (blk_cell G2.out 1).trans rfl
    have z0 := (blk_cell P32.out 0).trans rfl
    have f0 := blk_frozen P32.out 0
    have f1 := blk_frozen G2.out 1
    simp only [List.take_succ_cons, List.take_zero, List.drop_succ_cons, List.drop_zero]
    repeat still_step
    refine wpStill_nil ?_
    go_wp2
    go_ret
    refine ⟨rfl, blk_put (blk_far G2.out n3' _) 1 _ rfl, blk_far (blk_put P32.out 0 _ rfl) n3 _, ?_, fun k hk h3 h4 => ?_, fun w0 hB h3 h4 => below_set (below_set (B2.out w0 hB) h4) h3⟩
    · simp [K2.out]
    · rw [Below.heap_setCell _ _ _ _ h3, Below.heap_setCell _ _ _ _ h4, K2.out]

set_option maxHeartbeats 4000000 in
set_option maxRecDepth 100000 in
theorem try_Most (b1 b2 b3 : Nat) (g : Nat) (s : ByteArray) (at_ : Int) (w : World) (hI : w.heap[g]? = some (.cells #[.string s, .int .i64 at_, .int .i64 0] 62 (0, 0))) (Q : Int → World → Prop)
    (hread : Calls Try.prog 36 #[.pointer (some ⟨b1, 0, none⟩), .pointer (some ⟨b2, 0, none⟩), .pointer (some ⟨b3, 0, none⟩)] w fun e w' => ∃ c, e = .returned (.int .i64 c) ∧ Q c w') (hQ : ∀ c w', Q c w' → ∃ a1, w'.heap[g]? = some (.cells #[.string s, .int .i64 a1, .int .i64 0] 62 (0, 0))) :
    Calls Try.prog 34 #[.pointer (some ⟨g, 0, none⟩), .func (.func 36) #[] #[.pointer (some ⟨b1, 0, none⟩), .pointer (some ⟨b2, 0, none⟩), .pointer (some ⟨b3, 0, none⟩)]] w fun e w' => e = .returned (.tuple #[]) ∧ TryR g at_ Q w' := by
  have HQ := Lib.hid hQ
  clear hQ
  have y1 := (blk_cell hI 1).trans rfl
  have y2 := (blk_cell hI 2).trans rfl
  clear hI
  have HR := Aside0.mk hread
  clear hread
  go_enter Try.func34, Try.ntmps34
  go_wp2_with (go_at_call 36; refine HR.out.mono ?_; rintro e w1 ⟨c, rfl, hq⟩; obtain ⟨a1, ha⟩ := HQ.out c w1 hq; have HQQ := Aside0.mk hq; clear hq y1 y2; have z1 := (blk_cell ha 1).trans rfl; have z2 := (blk_cell ha 2).trans rfl; have f1 := blk_frozen ha 1; have f2 := blk_frozen ha 2; have HA := Aside0.mk ha; clear ha; by_cases hc0 : c = 0)
  all_goals refine Go.Great.bodyPost_end0 (by kernel_rfl) rfl ?_
  · exact ⟨rfl, 0, _, hc0 ▸ HQQ.out, by rw [if_pos rfl]⟩
  · exact ⟨rfl, c, w1, HQQ.out, by rw [if_neg hc0]⟩
set_option maxHeartbeats 4000000 in
set_option maxRecDepth 100000 in
theorem try_Text (b1 b2 b3 : Nat) (g : Nat) (s : ByteArray) (at_ : Int) (w : World) (hI : w.heap[g]? = some (.cells #[.string s, .int .i64 at_, .int .i64 0] 62 (0, 0))) (Q : Int → World → Prop)
    (hread : Calls Try.prog 38 #[.pointer (some ⟨b1, 0, none⟩), .pointer (some ⟨b2, 0, none⟩), .pointer (some ⟨b3, 0, none⟩)] w fun e w' => ∃ c, e = .returned (.int .i64 c) ∧ Q c w') (hQ : ∀ c w', Q c w' → ∃ a1, w'.heap[g]? = some (.cells #[.string s, .int .i64 a1, .int .i64 0] 62 (0, 0))) :
    Calls Try.prog 34 #[.pointer (some ⟨g, 0, none⟩), .func (.func 38) #[] #[.pointer (some ⟨b1, 0, none⟩), .pointer (some ⟨b2, 0, none⟩), .pointer (some ⟨b3, 0, none⟩)]] w fun e w' => e = .returned (.tuple #[]) ∧ TryR g at_ Q w' := by
  have HQ := Lib.hid hQ
  clear hQ
  have y1 := (blk_cell hI 1).trans rfl
  have y2 := (blk_cell hI 2).trans rfl
  clear hI
  have HR := Aside0.mk hread
  clear hread
  go_enter Try.func34, Try.ntmps34
  go_wp2_with (go_at_call 38; refine HR.out.mono ?_; rintro e w1 ⟨c, rfl, hq⟩; obtain ⟨a1, ha⟩ := HQ.out c w1 hq; have HQQ := Aside0.mk hq; clear hq y1 y2; have z1 := (blk_cell ha 1).trans rfl; have z2 := (blk_cell ha 2).trans rfl; have f1 := blk_frozen ha 1; have f2 := blk_frozen ha 2; have HA := Aside0.mk ha; clear ha; by_cases hc0 : c = 0)
  all_goals refine Go.Great.bodyPost_end0 (by kernel_rfl) rfl ?_
  · exact ⟨rfl, 0, _, hc0 ▸ HQQ.out, by rw [if_pos rfl]⟩
  · exact ⟨rfl, c, w1, HQQ.out, by rw [if_neg hc0]⟩
set_option maxHeartbeats 4000000 in
set_option maxRecDepth 100000 in
theorem try_Byte (b1 b2 : Nat) (g : Nat) (s : ByteArray) (at_ : Int) (w : World) (hI : w.heap[g]? = some (.cells #[.string s, .int .i64 at_, .int .i64 0] 62 (0, 0))) (Q : Int → World → Prop)
    (hread : Calls Try.prog 35 #[.pointer (some ⟨b1, 0, none⟩), .pointer (some ⟨b2, 0, none⟩)] w fun e w' => ∃ c, e = .returned (.int .i64 c) ∧ Q c w') (hQ : ∀ c w', Q c w' → ∃ a1, w'.heap[g]? = some (.cells #[.string s, .int .i64 a1, .int .i64 0] 62 (0, 0))) :
    Calls Try.prog 34 #[.pointer (some ⟨g, 0, none⟩), .func (.func 35) #[] #[.pointer (some ⟨b1, 0, none⟩), .pointer (some ⟨b2, 0, none⟩)]] w fun e w' => e = .returned (.tuple #[]) ∧ TryR g at_ Q w' := by
  have HQ := Lib.hid hQ
  clear hQ
  have y1 := (blk_cell hI 1).trans rfl
  have y2 := (blk_cell hI 2).trans rfl
  clear hI
  have HR := Aside0.mk hread
  clear hread
  go_enter Try.func34, Try.ntmps34
  go_wp2_with (go_at_call 35; refine HR.out.mono ?_; rintro e w1 ⟨c, rfl, hq⟩; obtain ⟨a1, ha⟩ := HQ.out c w1 hq; have HQQ := Aside0.mk hq; clear hq y1 y2; have z1 := (blk_cell ha 1).trans rfl; have z2 := (blk_cell ha 2).trans rfl; have f1 := blk_frozen ha 1; have f2 := blk_frozen ha 2; have HA := Aside0.mk ha; clear ha; by_cases hc0 : c = 0)
  all_goals refine Go.Great.bodyPost_end0 (by kernel_rfl) rfl ?_
  · exact ⟨rfl, 0, _, hc0 ▸ HQQ.out, by rw [if_pos rfl]⟩
  · exact ⟨rfl, c, w1, HQQ.out, by rw [if_neg hc0]⟩
set_option maxHeartbeats 4000000 in
set_option maxRecDepth 100000 in
theorem Most_ok (g : Nat) (s : ByteArray) (at_ : Nat) (most : Int) (hm : most < 2 ^ 63) (w0 w : World) (hB : Below w0.heap.size w0 w) (hw : w0.heap.size ≤ g) (hI : w.heap[g]? = some (.cells #[.string s, .int .i64 at_, .int .i64 0] 62 (0, 0))) (h : at_ ≤ s.size) (hs : s.size ≤ 1000000) (v : Int) (c a : Int) (hr : mostR s at_ most = (v, c, a)) (a3 : Int) (ha3 : a3 = if c = 0 then a else at_) :
    Calls Try.prog 20 #[.pointer (some ⟨g, 0, none⟩), .int .i64 most] w fun e w' => e = .returned (.int .i64 v) ∧ w'.heap[g]? = some (.cells #[.string s, .int .i64 a3, .int .i64 c] 62 (0, 0)) ∧ Below w0.heap.size w0 w' ∧ KeepBut w w' g none := by
  have hg : g < w.heap.size := blk_lt hI
  have HI2 := Aside0.mk (blk_alloc (blk_alloc (blk_alloc hI (.cells #[.pointer (some ⟨g, 0, none⟩)] 40 (0, 0))) (.cells #[.int .i64 most] 3 (0, 0))) (.cells #[.int .i64 0] 3 (0, 0)))
  have HQ := Aside0.mk (most1_calls g s at_ most hm (w.heap.size) (w.heap.size + 1) (w.heap.size + 2) _ HI2.out (blk_alloc (blk_alloc (by have q := blk_new w (.cells #[.pointer (some ⟨g, 0, none⟩)] 40 (0, 0)); rwa [show w.heap.size = w.heap.size by simp] at q) (.cells #[.int .i64 most] 3 (0, 0))) (.cells #[.int .i64 0] 3 (0, 0))) (blk_alloc (by have q := blk_new (w.alloc (.cells #[.pointer (some ⟨g, 0, none⟩)] 40 (0, 0))) (.cells #[.int .i64 most] 3 (0, 0)); rwa [show (w.alloc (.cells #[.pointer (some ⟨g, 0, none⟩)] 40 (0, 0))).heap.size = w.heap.size + 1 by simp] at q) (.cells #[.int .i64 0] 3 (0, 0))) (by have q := blk_new ((w.alloc (.cells #[.pointer (some ⟨g, 0, none⟩)] 40 (0, 0))).alloc (.cells #[.int .i64 most] 3 (0, 0))) (.cells #[.int .i64 0] 3 (0, 0)); rwa [show ((w.alloc (.cells #[.pointer (some ⟨g, 0, none⟩)] 40 (0, 0))).alloc (.cells #[.int .i64 most] 3 (0, 0))).heap.size = w.heap.size + 2 by simp] at q) h hs v c a hr)
  have HB := Aside0.mk hB
  have H3 := Lib.hid ha3
  clear hI hr hB ha3
  go_enter Try.func20, Try.ntmps20
  go_wp2_with (go_at_call 34; refine (try_Most (w.heap.size) (w.heap.size + 1) (w.heap.size + 2) g s at_ _ HI2.out (fun c' w' => c' = c ∧ Rd g (w.heap.size + 2) _ w' s a (.int .i64 v) 3) (HQ.out.mono fun e w' hh => ⟨c, hh.1, ⟨rfl, hh.2⟩⟩) (fun c' w' hh => ⟨a, hh.2.hg⟩)).mono ?_; rintro e3 w3 ⟨rfl, ht⟩; obtain ⟨t1, t2, t3, t4, t5⟩ := try_end (by omega) ht; have T1 := Aside0.mk t1; have T2 := Aside0.mk t2; have T3 := Aside0.mk t3; have T4 := Aside0.mk t4; have T5 := Aside0.mk t5; clear ht t1 t2 t3 t4 t5; have z0 := (blk_cell T2.out 0).trans rfl; have f0 := blk_frozen T2.out 0)
  refine bodyPost_ret (v := .int .i64 v) (results_cell1 (p := 4) (ty := 3) rfl _ _ ⟨w.heap.size + 2, 0, none⟩ _ rfl (by have q0 := (blk_cell (blk_put T2.out 0 (.int .i64 v) rfl) 0).trans rfl; go_simp)) rfl ?_
  · refine ⟨rfl, ?_, below_set (T5.out w0 (below_alloc (below_alloc (below_alloc HB.out _) _) _) hw (by have := HB.out.size; omega)) (by have := HB.out.size; show _ ≤ w.heap.size + 2; omega), ?_, fun k hk h1 _ => ?_⟩
    · rw [H3.out]
      exact blk_far T1.out (by show g ≠ w.heap.size + 2; omega) _
    · have := T3.out
      simp at this ⊢
      omega
    · rw [Below.heap_setCell _ _ _ _ (show k ≠ w.heap.size + 2 by omega), T4.out k (by simp; omega) h1 (by omega)]
      exact ((Below.heap_alloc _ _ k (by simp; omega)).trans ((Below.heap_alloc _ _ k (by simp; omega)).trans (Below.heap_alloc _ _ k hk)))
set_option maxHeartbeats 4000000 in
set_option maxRecDepth 100000 in
theorem Most_skip (g : Nat) (s : ByteArray) (at_ bad : Int) (most : Int) (hb : bad ≠ 0) (w0 w : World) (hB : Below w0.heap.size w0 w) (hI : w.heap[g]? = some (.cells #[.string s, .int .i64 at_, .int .i64 bad] 62 (0, 0))) :
    Calls Try.prog 20 #[.pointer (some ⟨g, 0, none⟩), .int .i64 most] w fun e w' => e = .returned (.int .i64 0) ∧ w'.heap[g]? = some (.cells #[.string s, .int .i64 at_, .int .i64 bad] 62 (0, 0)) ∧ Below w0.heap.size w0 w' ∧ KeepBut w w' g none := by
  have hg : g < w.heap.size := blk_lt hI
  have hws : w0.heap.size ≤ w.heap.size := hB.size
  have HI2 := Aside0.mk (blk_alloc (blk_alloc (blk_alloc hI (.cells #[.pointer (some ⟨g, 0, none⟩)] 40 (0, 0))) (.cells #[.int .i64 most] 3 (0, 0))) (.cells #[.int .i64 0] 3 (0, 0)))
  have HB := Aside0.mk hB
  have HN := Lib.hid hb
  clear hI hB hb
  go_enter Try.func20, Try.ntmps20
  go_wp2_with (go_at_call 34; refine (try_skip _ g s at_ bad HN.out _ HI2.out).mono ?_; rintro e3 w3 ⟨rfl, rfl⟩)
  have T2 := Aside0.mk (by have q := blk_new ((w.alloc (.cells #[.pointer (some ⟨g, 0, none⟩)] 40 (0, 0))).alloc (.cells #[.int .i64 most] 3 (0, 0))) (.cells #[.int .i64 0] 3 (0, 0)); rwa [show ((w.alloc (.cells #[.pointer (some ⟨g, 0, none⟩)] 40 (0, 0))).alloc (.cells #[.int .i64 most] 3 (0, 0))).heap.size = w.heap.size + 2 by simp] at q)
  refine bodyPost_ret (v := .int .i64 0) (results_cell1 (p := 4) (ty := 3) rfl _ _ ⟨w.heap.size + 2, 0, none⟩ _ rfl (by have q0 := (blk_cell T2.out 0).trans rfl; go_simp; try rfl)) rfl ?_
  refine ⟨rfl, HI2.out, (below_alloc (below_alloc (below_alloc HB.out _) _) _), by simp; omega, fun k hk h1 _ => ?_⟩
  exact ((Below.heap_alloc _ _ k (by simp; omega)).trans ((Below.heap_alloc _ _ k (by simp; omega)).trans (Below.heap_alloc _ _ k hk)))
set_option maxHeartbeats 4000000 in
set_option maxRecDepth 100000 in
theorem Most_nil (most : Int) (w0 w : World) (hB : Below w0.heap.size w0 w) :
    Calls Try.prog 20 #[.pointer none, .int .i64 most] w fun e w' => e = .returned (.int .i64 0) ∧ Below w0.heap.size w0 w' ∧ Below w.heap.size w w' := by
  have HB := Aside0.mk hB
  clear hB
  go_enter Try.func20, Try.ntmps20
  go_wp2_with (go_at_call 34; refine (try_nil _ _).mono ?_; rintro e3 w3 ⟨rfl, rfl⟩)
  have T2 := Aside0.mk (by have q := blk_new ((w.alloc (.cells #[.pointer none] 40 (0, 0))).alloc (.cells #[.int .i64 most] 3 (0, 0))) (.cells #[.int .i64 0] 3 (0, 0)); rwa [show ((w.alloc (.cells #[.pointer none] 40 (0, 0))).alloc (.cells #[.int .i64 most] 3 (0, 0))).heap.size = w.heap.size + 2 by simp] at q)
  refine bodyPost_ret (v := .int .i64 0) (results_cell1 (p := 4) (ty := 3) rfl _ _ ⟨w.heap.size + 2, 0, none⟩ _ rfl (by have q0 := (blk_cell T2.out 0).trans rfl; go_simp; try rfl)) rfl ?_
  exact ⟨rfl, (below_alloc (below_alloc (below_alloc HB.out _) _) _), (below_alloc (below_alloc (below_alloc (Below.refl _ _) _) _) _)⟩
set_option maxHeartbeats 4000000 in
set_option maxRecDepth 100000 in
theorem Text_ok (g : Nat) (s : ByteArray) (at_ : Nat) (most : Int) (hm : most < 2 ^ 63) (w0 w : World) (hB : Below w0.heap.size w0 w) (hw : w0.heap.size ≤ g) (hI : w.heap[g]? = some (.cells #[.string s, .int .i64 at_, .int .i64 0] 62 (0, 0))) (h : at_ ≤ s.size) (hs : s.size ≤ 1000000) (v : ByteArray) (c a : Int) (hr : textR s at_ most = (v, c, a)) (a3 : Int) (ha3 : a3 = if c = 0 then a else at_) :
    Calls Try.prog 23 #[.pointer (some ⟨g, 0, none⟩), .int .i64 most] w fun e w' => e = .returned (.string v) ∧ w'.heap[g]? = some (.cells #[.string s, .int .i64 a3, .int .i64 c] 62 (0, 0)) ∧ Below w0.heap.size w0 w' ∧ KeepBut w w' g none := by
  have hg : g < w.heap.size := blk_lt hI
  have HI2 := Aside0.mk (blk_alloc (blk_alloc (blk_alloc hI (.cells #[.pointer (some ⟨g, 0, none⟩)] 40 (0, 0))) (.cells #[.int .i64 most] 3 (0, 0))) (.cells #[.string .empty] 9 (0, 0)))
  have HQ := Aside0.mk (text1_calls g s at_ most hm (w.heap.size) (w.heap.size + 1) (w.heap.size + 2) _ HI2.out (blk_alloc (blk_alloc (by have q := blk_new w (.cells #[.pointer (some ⟨g, 0, none⟩)] 40 (0, 0)); rwa [show w.heap.size = w.heap.size by simp] at q) (.cells #[.int .i64 most] 3 (0, 0))) (.cells #[.string .empty] 9 (0, 0))) (blk_alloc (by have q := blk_new (w.alloc (.cells #[.pointer (some ⟨g, 0, none⟩)] 40 (0, 0))) (.cells #[.int .i64 most] 3 (0, 0)); rwa [show (w.alloc (.cells #[.pointer (some ⟨g, 0, none⟩)] 40 (0, 0))).heap.size = w.heap.size + 1 by simp] at q) (.cells #[.string .empty] 9 (0, 0))) (by have q := blk_new ((w.alloc (.cells #[.pointer (some ⟨g, 0, none⟩)] 40 (0, 0))).alloc (.cells #[.int .i64 most] 3 (0, 0))) (.cells #[.string .empty] 9 (0, 0)); rwa [show ((w.alloc (.cells #[.pointer (some ⟨g, 0, none⟩)] 40 (0, 0))).alloc (.cells #[.int .i64 most] 3 (0, 0))).heap.size = w.heap.size + 2 by simp] at q) h hs v c a hr)
  have HB := Aside0.mk hB
  have H3 := Lib.hid ha3
  clear hI hr hB ha3
  go_enter Try.func23, Try.ntmps23
  go_wp2_with (go_at_call 34; refine (try_Text (w.heap.size) (w.heap.size + 1) (w.heap.size + 2) g s at_ _ HI2.out (fun c' w' => c' = c ∧ Rd g (w.heap.size + 2) _ w' s a (.string v) 9) (HQ.out.mono fun e w' hh => ⟨c, hh.1, ⟨rfl, hh.2⟩⟩) (fun c' w' hh => ⟨a, hh.2.hg⟩)).mono ?_; rintro e3 w3 ⟨rfl, ht⟩; obtain ⟨t1, t2, t3, t4, t5⟩ := try_end (by omega) ht; have T1 := Aside0.mk t1; have T2 := Aside0.mk t2; have T3 := Aside0.mk t3; have T4 := Aside0.mk t4; have T5 := Aside0.mk t5; clear ht t1 t2 t3 t4 t5; have z0 := (blk_cell T2.out 0).trans rfl; have f0 := blk_frozen T2.out 0)
  refine bodyPost_ret (v := .string v) (results_cell1 (p := 4) (ty := 9) rfl _ _ ⟨w.heap.size + 2, 0, none⟩ _ rfl (by have q0 := (blk_cell (blk_put T2.out 0 (.string v) rfl) 0).trans rfl; go_simp)) rfl ?_
  · refine ⟨rfl, ?_, below_set (T5.out w0 (below_alloc (below_alloc (below_alloc HB.out _) _) _) hw (by have := HB.out.size; omega)) (by have := HB.out.size; show _ ≤ w.heap.size + 2; omega), ?_, fun k hk h1 _ => ?_⟩
    · rw [H3.out]
      exact blk_far T1.out (by show g ≠ w.heap.size + 2; omega) _
    · have := T3.out
      simp at this ⊢
      omega
    · rw [Below.heap_setCell _ _ _ _ (show k ≠ w.heap.size + 2 by omega), T4.out k (by simp; omega) h1 (by omega)]
      exact ((Below.heap_alloc _ _ k (by simp; omega)).trans ((Below.heap_alloc _ _ k (by simp; omega)).trans (Below.heap_alloc _ _ k hk)))
set_option maxHeartbeats 4000000 in
set_option maxRecDepth 100000 in
theorem Text_skip (g : Nat) (s : ByteArray) (at_ bad : Int) (most : Int) (hb : bad ≠ 0) (w0 w : World) (hB : Below w0.heap.size w0 w) (hI : w.heap[g]? = some (.cells #[.string s, .int .i64 at_, .int .i64 bad] 62 (0, 0))) :
    Calls Try.prog 23 #[.pointer (some ⟨g, 0, none⟩), .int .i64 most] w fun e w' => e = .returned (.string .empty) ∧ w'.heap[g]? = some (.cells #[.string s, .int .i64 at_, .int .i64 bad] 62 (0, 0)) ∧ Below w0.heap.size w0 w' ∧ KeepBut w w' g none := by
  have hg : g < w.heap.size := blk_lt hI
  have hws : w0.heap.size ≤ w.heap.size := hB.size
  have HI2 := Aside0.mk (blk_alloc (blk_alloc (blk_alloc hI (.cells #[.pointer (some ⟨g, 0, none⟩)] 40 (0, 0))) (.cells #[.int .i64 most] 3 (0, 0))) (.cells #[.string .empty] 9 (0, 0)))
  have HB := Aside0.mk hB
  have HN := Lib.hid hb
  clear hI hB hb
  go_enter Try.func23, Try.ntmps23
  go_wp2_with (go_at_call 34; refine (try_skip _ g s at_ bad HN.out _ HI2.out).mono ?_; rintro e3 w3 ⟨rfl, rfl⟩)
  have T2 := Aside0.mk (by have q := blk_new ((w.alloc (.cells #[.pointer (some ⟨g, 0, none⟩)] 40 (0, 0))).alloc (.cells #[.int .i64 most] 3 (0, 0))) (.cells #[.string .empty] 9 (0, 0)); rwa [show ((w.alloc (.cells #[.pointer (some ⟨g, 0, none⟩)] 40 (0, 0))).alloc (.cells #[.int .i64 most] 3 (0, 0))).heap.size = w.heap.size + 2 by simp] at q)
  refine bodyPost_ret (v := .string .empty) (results_cell1 (p := 4) (ty := 9) rfl _ _ ⟨w.heap.size + 2, 0, none⟩ _ rfl (by have q0 := (blk_cell T2.out 0).trans rfl; go_simp; try rfl)) rfl ?_
  refine ⟨rfl, HI2.out, (below_alloc (below_alloc (below_alloc HB.out _) _) _), by simp; omega, fun k hk h1 _ => ?_⟩
  exact ((Below.heap_alloc _ _ k (by simp; omega)).trans ((Below.heap_alloc _ _ k (by simp; omega)).trans (Below.heap_alloc _ _ k hk)))
set_option maxHeartbeats 4000000 in
set_option maxRecDepth 100000 in
theorem Text_nil (most : Int) (w0 w : World) (hB : Below w0.heap.size w0 w) :
    Calls Try.prog 23 #[.pointer none, .int .i64 most] w fun e w' => e = .returned (.string .empty) ∧ Below w0.heap.size w0 w' ∧ Below w.heap.size w w' := by
  have HB := Aside0.mk hB
  clear hB
  go_enter Try.func23, Try.ntmps23
  go_wp2_with (go_at_call 34; refine (try_nil _ _).mono ?_; rintro e3 w3 ⟨rfl, rfl⟩)
  have T2 := Aside0.mk (by have q := blk_new ((w.alloc (.cells #[.pointer none] 40 (0, 0))).alloc (.cells #[.int .i64 most] 3 (0, 0))) (.cells #[.string .empty] 9 (0, 0)); rwa [show ((w.alloc (.cells #[.pointer none] 40 (0, 0))).alloc (.cells #[.int .i64 most] 3 (0, 0))).heap.size = w.heap.size + 2 by simp] at q)
  refine bodyPost_ret (v := .string .empty) (results_cell1 (p := 4) (ty := 9) rfl _ _ ⟨w.heap.size + 2, 0, none⟩ _ rfl (by have q0 := (blk_cell T2.out 0).trans rfl; go_simp; try rfl)) rfl ?_
  exact ⟨rfl, (below_alloc (below_alloc (below_alloc HB.out _) _) _), (below_alloc (below_alloc (below_alloc (Below.refl _ _) _) _) _)⟩
set_option maxHeartbeats 4000000 in
set_option maxRecDepth 100000 in
theorem Byte_ok (g : Nat) (s : ByteArray) (at_ : Nat)  (w0 w : World) (hB : Below w0.heap.size w0 w) (hw : w0.heap.size ≤ g) (hI : w.heap[g]? = some (.cells #[.string s, .int .i64 at_, .int .i64 0] 62 (0, 0))) (h : at_ ≤ s.size) (hs : s.size ≤ 1000000) (v : Int) (c a : Int) (hr : byteR s at_ = (v, c, a)) (a3 : Int) (ha3 : a3 = if c = 0 then a else at_) :
    Calls Try.prog 19 #[.pointer (some ⟨g, 0, none⟩)] w fun e w' => e = .returned (.int .u8 v) ∧ w'.heap[g]? = some (.cells #[.string s, .int .i64 a3, .int .i64 c] 62 (0, 0)) ∧ Below w0.heap.size w0 w' ∧ KeepBut w w' g none := by
  have hg : g < w.heap.size := blk_lt hI
  have HI2 := Aside0.mk (blk_alloc (blk_alloc hI (.cells #[.pointer (some ⟨g, 0, none⟩)] 40 (0, 0))) (.cells #[.int .u8 0] 5 (0, 0)))
  have HQ := Aside0.mk (byte1_calls g s at_  (w.heap.size) (w.heap.size + 1) _ HI2.out (blk_alloc (by have q := blk_new w (.cells #[.pointer (some ⟨g, 0, none⟩)] 40 (0, 0)); rwa [show w.heap.size = w.heap.size by simp] at q) (.cells #[.int .u8 0] 5 (0, 0))) (by have q := blk_new (w.alloc (.cells #[.pointer (some ⟨g, 0, none⟩)] 40 (0, 0))) (.cells #[.int .u8 0] 5 (0, 0)); rwa [show (w.alloc (.cells #[.pointer (some ⟨g, 0, none⟩)] 40 (0, 0))).heap.size = w.heap.size + 1 by simp] at q) h hs v c a hr)
  have HB := Aside0.mk hB
  have H3 := Lib.hid ha3
  clear hI hr hB ha3
  go_enter Try.func19, Try.ntmps19
  go_wp2_with (go_at_call 34; refine (try_Byte (w.heap.size) (w.heap.size + 1) g s at_ _ HI2.out (fun c' w' => c' = c ∧ Rd g (w.heap.size + 1) _ w' s a (.int .u8 v) 5) (HQ.out.mono fun e w' hh => ⟨c, hh.1, ⟨rfl, hh.2⟩⟩) (fun c' w' hh => ⟨a, hh.2.hg⟩)).mono ?_; rintro e3 w3 ⟨rfl, ht⟩; obtain ⟨t1, t2, t3, t4, t5⟩ := try_end (by omega) ht; have T1 := Aside0.mk t1; have T2 := Aside0.mk t2; have T3 := Aside0.mk t3; have T4 := Aside0.mk t4; have T5 := Aside0.mk t5; clear ht t1 t2 t3 t4 t5; have z0 := (blk_cell T2.out 0).trans rfl; have f0 := blk_frozen T2.out 0)
  refine bodyPost_ret (v := .int .u8 v) (results_cell1 (p := 2) (ty := 5) rfl _ _ ⟨w.heap.size + 1, 0, none⟩ _ rfl (by have q0 := (blk_cell (blk_put T2.out 0 (.int .u8 v) rfl) 0).trans rfl; go_simp)) rfl ?_
  · refine ⟨rfl, ?_, below_set (T5.out w0 (below_alloc (below_alloc HB.out _) _) hw (by have := HB.out.size; omega)) (by have := HB.out.size; show _ ≤ w.heap.size + 1; omega), ?_, fun k hk h1 _ => ?_⟩
    · rw [H3.out]
      exact blk_far T1.out (by show g ≠ w.heap.size + 1; omega) _
    · have := T3.out
      simp at this ⊢
      omega
    · rw [Below.heap_setCell _ _ _ _ (show k ≠ w.heap.size + 1 by omega), T4.out k (by simp; omega) h1 (by omega)]
      exact ((Below.heap_alloc _ _ k (by simp; omega)).trans (Below.heap_alloc _ _ k hk))
set_option maxHeartbeats 4000000 in
set_option maxRecDepth 100000 in
theorem Byte_skip (g : Nat) (s : ByteArray) (at_ bad : Int)  (hb : bad ≠ 0) (w0 w : World) (hB : Below w0.heap.size w0 w) (hI : w.heap[g]? = some (.cells #[.string s, .int .i64 at_, .int .i64 bad] 62 (0, 0))) :
    Calls Try.prog 19 #[.pointer (some ⟨g, 0, none⟩)] w fun e w' => e = .returned (.int .u8 0) ∧ w'.heap[g]? = some (.cells #[.string s, .int .i64 at_, .int .i64 bad] 62 (0, 0)) ∧ Below w0.heap.size w0 w' ∧ KeepBut w w' g none := by
  have hg : g < w.heap.size := blk_lt hI
  have hws : w0.heap.size ≤ w.heap.size := hB.size
  have HI2 := Aside0.mk (blk_alloc (blk_alloc hI (.cells #[.pointer (some ⟨g, 0, none⟩)] 40 (0, 0))) (.cells #[.int .u8 0] 5 (0, 0)))
  have HB := Aside0.mk hB
  have HN := Lib.hid hb
  clear hI hB hb
  go_enter Try.func19, Try.ntmps19
  go_wp2_with (go_at_call 34; refine (try_skip _ g s at_ bad HN.out _ HI2.out).mono ?_; rintro e3 w3 ⟨rfl, rfl⟩)
  have T2 := Aside0.mk (by have q := blk_new (w.alloc (.cells #[.pointer (some ⟨g, 0, none⟩)] 40 (0, 0))) (.cells #[.int .u8 0] 5 (0, 0)); rwa [show (w.alloc (.cells #[.pointer (some ⟨g, 0, none⟩)] 40 (0, 0))).heap.size = w.heap.size + 1 by simp] at q)
  refine bodyPost_ret (v := .int .u8 0) (results_cell1 (p := 2) (ty := 5) rfl _ _ ⟨w.heap.size + 1, 0, none⟩ _ rfl (by have q0 := (blk_cell T2.out 0).trans rfl; go_simp; try rfl)) rfl ?_
  refine ⟨rfl, HI2.out, (below_alloc (below_alloc HB.out _) _), by simp; omega, fun k hk h1 _ => ?_⟩
  exact ((Below.heap_alloc _ _ k (by simp; omega)).trans (Below.heap_alloc _ _ k hk))
set_option maxHeartbeats 4000000 in
set_option maxRecDepth 100000 in
theorem Byte_nil  (w0 w : World) (hB : Below w0.heap.size w0 w) :
    Calls Try.prog 19 #[.pointer none] w fun e w' => e = .returned (.int .u8 0) ∧ Below w0.heap.size w0 w' ∧ Below w.heap.size w w' := by
  have HB := Aside0.mk hB
  clear hB
  go_enter Try.func19, Try.ntmps19
  go_wp2_with (go_at_call 34; refine (try_nil _ _).mono ?_; rintro e3 w3 ⟨rfl, rfl⟩)
  have T2 := Aside0.mk (by have q := blk_new (w.alloc (.cells #[.pointer none] 40 (0, 0))) (.cells #[.int .u8 0] 5 (0, 0)); rwa [show (w.alloc (.cells #[.pointer none] 40 (0, 0))).heap.size = w.heap.size + 1 by simp] at q)
  refine bodyPost_ret (v := .int .u8 0) (results_cell1 (p := 2) (ty := 5) rfl _ _ ⟨w.heap.size + 1, 0, none⟩ _ rfl (by have q0 := (blk_cell T2.out 0).trans rfl; go_simp; try rfl)) rfl ?_
  exact ⟨rfl, (below_alloc (below_alloc HB.out _) _), (below_alloc (below_alloc (Below.refl _ _) _) _)⟩
end Go.Proofs.Ytjlcggjghlmiaaa.PPackWrites
