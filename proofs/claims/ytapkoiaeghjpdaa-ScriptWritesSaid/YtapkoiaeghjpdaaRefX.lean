/- The document's writing of acts (meterref27): Only. -/
import Derived.Test.YtapkoiaeghjpdaaPack5
import Derived.Deep.RegionWith
import Derived.OwnWalk
import Derived.Test.YtapkoiaeghjpdaaScr3
import Derived.BigQuiet
import Derived.Deep.QuietTactic
import Derived.Test.YtapkoiaeghjpdaaScr7
import Derived.StillTailTactics
import Derived.Test.YtapkoiaeghjpdaaScr13
import Derived.Test.YtapkoiaeghjpdaaScr14
import Derived.Test.YtapkoiaeghjpdaaScr15
import Derived.Test.YtapkoiaeghjpdaaScr17
namespace Go.Proofs.Ytapkoiaeghjpdaa.PScriptWrites
open Go.RowKit Go.Proofs.YtapkoiaeghjpdaaW.PrintWords Go.Proofs.YtapkoiaeghjpdaaW.PrintLast Go.Proofs.YtapkoiaeghjpdaaW.PrintMore
open Go.Proofs.YtapkoiaeghjpdaaO
open Go.Proofs.YtapkoiaeghjpdaaO
open Go.Proofs.YtapkoiaeghjpdaaO
open Go.Proofs.YtapkoiaeghjpdaaO
open Go.Proofs.YtapkoiaeghjpdaaO
open Go.Proofs.YtapkoiaeghjpdaaO
attribute [local go_sem] max2_int min2_int max_two min_two max_three min_three max_four min_four
set_option linter.unusedVariables false
set_option linter.unusedSimpArgs false
theorem numB_lt (n : Nat) (h : n < 128) : numB n = [(n : Int)] := by rw [numB, if_pos h]
theorem numB_ge (n : Nat) (h : ¬ n < 128) : numB n = ((n % 128 + 128 : Nat) : Int) :: numB (n / 128) := by rw [numB, if_neg h]
theorem one_byte (w : World) (b : Int) : (convert 22 9 (.slice (some ⟨w.heap.size, 0, none⟩) 1 1)).run Try.prog (w.alloc (.cells #[.int .u8 b] 5)) = .ok (.string (strOfNums [b])) (w.alloc (.cells #[.int .u8 b] 5)) := by
  have h := own_lit w 0 5 .u8 [b] (Nat.zero_le _) (by simp)
  exact own_string (P := Try.prog) (e' := 5) Try.underlying22 Try.underlying5 Try.underlying9 h
theorem one_byte' (w : World) (b : Int) (v : World) (hv : v.heap[w.heap.size]? = some (.cells #[.int .u8 b] 5 (0, 0))) : (convert 22 9 (.slice (some ⟨w.heap.size, 0, none⟩) 1 1)).run Try.prog v = .ok (.string (strOfNums [b])) v := by
  have h : v.ownsRow 0 5 1 (.slice (some ⟨w.heap.size, 0, none⟩) 1 1) 1 (nums .u8 [b]) := ⟨rfl, .inr ⟨_, 1, _, rfl, Nat.zero_le _, hv, Nat.le_refl _, by decide, rfl, rfl⟩⟩
  exact own_string (P := Try.prog) (e' := 5) Try.underlying22 Try.underlying5 Try.underlying9 h
theorem one_byte2 (w : World) (b : Int) (v : World) (hb : Below (w.alloc (.cells #[.int .u8 b] 5)).drew.heap.size (w.alloc (.cells #[.int .u8 b] 5)).drew v) : (convert 22 9 (.slice (some ⟨w.heap.size, 0, none⟩) 1 1)).run Try.prog v = .ok (.string (strOfNums [b])) v :=
  one_byte' w b v ((hb.block _ (by show w.heap.size < (w.heap.push _).size; simp)).trans (blk_new w _))
set_option maxHeartbeats 4000000 in
set_option maxRecDepth 100000 in
theorem refNum_calls (n : Nat) : ∀ (x : Int) (hx : x = n) (w : World), n < 2 ^ 64 → Calls Try.prog 48 #[.int .u64 x] w fun e w' => e = .returned (.string (strOfNums (numB n))) ∧ Below w.heap.size w w' := by
  induction n using Nat.strongRecOn with
  | ind n ih =>
    intro x hx w hn
    subst hx
    by_cases h : n < 128
    · have e := Lib.hid (numB_lt n h)
      have hc := one_byte w n
      have q1 : IntKind.u8.wrap (n : Int) = n := by rw [IntKind.wrap_u8]; omega
      have q2 : (n : Int) % 256 = n := by omega
      have d1 : decide ((n : Int) < 128) = true := decide_eq_true (by omega)
      go_enter Try.func48, Try.ntmps48
      go_wp2
      go_ret
      exact ⟨by rw [e.out]; rfl, below_alloc (Below.refl _ _) _⟩
    · have hh := Aside0.mk (ih (n / 128) (by omega) (n / 128 : Nat) rfl)
      have e := Lib.hid (numB_ge n h)
      have d1 : decide ((n : Int) < 128) = false := decide_eq_false (by omega)
      have hb : IntKind.u8.wrap (IntKind.u8.wrap ((n : Int).tmod 128) + 128) = ((n % 128 + 128 : Nat) : Int) := by rw [IntKind.wrap_u8, IntKind.wrap_u8, Int.tmod_eq_emod_of_nonneg (by omega)]; omega
      have hq : IntKind.u64.wrap ((n : Int) / 128) = ((n / 128 : Nat) : Int) := by simp only [IntKind.wrap, IntKind.bits, IntKind.signed]; simp; omega
      have hl := (numB_len (n / 128) 10 (pow10 _ (by omega))).2
      have hs1 := size_strOf (numB (n / 128))
      have hs2 := size_strOf [((n % 128 + 128 : Nat) : Int)]
      have hsz : (strOfNums [((n % 128 + 128 : Nat) : Int)]).size + (strOfNums (numB (n / 128))).size ≤ 9223372036854775807 := by rw [hs1, hs2]; simp only [List.length_cons, List.length_nil]; omega
      have he : strOfNums (numB n) = strOfNums [((n % 128 + 128 : Nat) : Int)] ++ strOfNums (numB (n / 128)) := by rw [e.out, ← strOf_append]; rfl
      have HE := Lib.hid he
      clear hl hs1 hs2 he ih
      obtain ⟨b, hbb⟩ : ∃ b : Int, b = ((n % 128 + 128 : Nat) : Int) := ⟨_, rfl⟩
      rw [← hbb] at hb hsz
      obtain ⟨q, hqq⟩ : ∃ q : Int, q = ((n / 128 : Nat) : Int) := ⟨_, rfl⟩
      rw [← hqq] at hq
      have HB := Lib.hid hbb
      have HQ := Lib.hid hqq
      clear hbb hqq
      have hc0 : (convert 22 9 (.slice (some ⟨w.heap.size, 0, none⟩) 1 1)).run Try.prog (w.alloc (.cells #[.int .u8 b] 5)).drew = .ok (.string (strOfNums [b])) (w.alloc (.cells #[.int .u8 b] 5)).drew := one_byte w.drew b
      have hc1 : (convert 22 9 (.slice (some ⟨w.heap.size, 0, none⟩) 1 1)).run Try.prog (w.drew.alloc (.cells #[.int .u8 b] 5)) = .ok (.string (strOfNums [b])) (w.drew.alloc (.cells #[.int .u8 b] 5)) := one_byte w.drew b
      go_enter Try.func48, Try.ntmps48
      go_wp2
      go_region_with (go_at_call 48; rw [HQ.out]; refine (hh.out _ (by omega)).mono ?_; rintro e w1 ⟨rfl, hb1⟩; have hc2 := one_byte w1 b; (try have hc3 := one_byte2 w b w1 hb1); have HB1 := Aside0.mk hb1; clear hb1)
      all_goals (go_wp2; go_ret; refine ⟨by rw [HE.out, ← HB.out]; rfl, ?_⟩)
      all_goals first
        | exact (((Below.refl _ w).alloc (Nat.le_refl _) _).drew).trans (HB1.out.mono (by simp))
        | exact below_alloc (((Below.refl _ w).drew).trans HB1.out) _
set_option maxHeartbeats 4000000 in
theorem refText_calls (s : ByteArray) (hs : s.size < 1000000) (w : World) : Calls Try.prog 50 #[.string s] w fun e w' => e = .returned (.string (strOfNums (numB s.size ++ bytesOf s))) ∧ Below w.heap.size w w' := by
  have wu : IntKind.u64.wrap (s.size : Int) = (s.size : Int) := by simp only [IntKind.wrap, IntKind.bits, IntKind.signed]; simp; omega
  have hl := (numB_len s.size 10 (pow10 _ (by omega))).2
  have hs1 := size_strOf (numB s.size)
  have hsz : (strOfNums (numB s.size)).size + s.size ≤ 9223372036854775807 := by rw [hs1]; omega
  have he : strOfNums (numB s.size ++ bytesOf s) = strOfNums (numB s.size) ++ s := by rw [strOf_append, strOf_bytes]
  have HE := Lib.hid he
  clear he hs1 hl
  go_enter Try.func50, Try.ntmps50
  go_wp2_with (go_at_call 48; refine (refNum_calls s.size _ rfl w (by omega)).mono ?_; rintro e w1 ⟨rfl, hb1⟩; have HB1 := Aside0.mk hb1; clear hb1)
  go_ret
  exact ⟨by rw [HE.out]; rfl, HB1.out⟩
set_option maxHeartbeats 4000000 in
theorem refZig_calls (i : Int) (h0 : -(2^63) ≤ i) (h1 : i < 2 ^ 63) (w : World) : Calls Try.prog 49 #[.int .i64 i] w fun e w' => e = .returned (.int .u64 ((zigN i : Nat) : Int)) ∧ w = w' := by
  by_cases h : 0 ≤ i
  · have d1 : decide (i ≥ 0) = true := decide_eq_true h
    have d2 : decide (0 ≤ i) = true := decide_eq_true h
    have HZ := Lib.hid (show ((zigN i : Nat) : Int) = 2 * i by unfold zigN; rw [if_pos h]; omega)
    have w1 : IntKind.u64.wrap i = i := by simp only [IntKind.wrap, IntKind.bits, IntKind.signed]; simp; omega
    have w2 : IntKind.u64.wrap (2 * i) = 2 * i := by simp only [IntKind.wrap, IntKind.bits, IntKind.signed]; simp; omega
    go_enter Try.func49, Try.ntmps49
    go_wp2
    go_ret
    exact ⟨by rw [HZ.out]; rfl, rfl⟩
  · have d1 : decide (i ≥ 0) = false := decide_eq_false h
    have d2 : decide (0 ≤ i) = false := decide_eq_false h
    have HZ := Lib.hid (show ((zigN i : Nat) : Int) = 2 * (-(i + 1)) + 1 by unfold zigN; rw [if_neg h]; omega)
    have w0 : IntKind.i64.wrap (i + 1) = i + 1 := by rw [IntKind.wrap_i64]; omega
    have w1 : IntKind.i64.wrap (-(i + 1)) = -(i + 1) := by rw [IntKind.wrap_i64]; omega
    have w2 : IntKind.u64.wrap (-(i + 1)) = -(i + 1) := by simp only [IntKind.wrap, IntKind.bits, IntKind.signed]; simp; omega
    have w3 : IntKind.u64.wrap (2 * -(i + 1)) = 2 * -(i + 1) := by simp only [IntKind.wrap, IntKind.bits, IntKind.signed]; simp; omega
    have w4 : IntKind.u64.wrap (2 * -(i + 1) + 1) = 2 * -(i + 1) + 1 := by simp only [IntKind.wrap, IntKind.bits, IntKind.signed]; simp; omega
    obtain ⟨z, hz⟩ : ∃ z, -(i + 1) = z := ⟨_, rfl⟩
    go_enter Try.func49, Try.ntmps49
    go_wp2
    go_ret
    exact ⟨by rw [HZ.out, hz]; rfl, rfl⟩
set_option maxHeartbeats 4000000 in
theorem refZag_calls (n : Nat) (h : n < 2 ^ 64) (x : Int) (hx : x = n) (w : World) : Calls Try.prog 38 #[.int .u64 x] w fun e w' => e = .returned (.int .i64 (zagI n)) ∧ w = w' := by
  by_cases h2 : n % 2 = 0
  · have hm : x.tmod 2 = 0 := by rw [hx, Int.tmod_eq_emod_of_nonneg (by omega)]; omega
    have HZ := Lib.hid (show zagI n = x / 2 by unfold zagI; rw [if_pos h2]; omega)
    have w1 : IntKind.u64.wrap (x / 2) = x / 2 := by simp only [IntKind.wrap, IntKind.bits, IntKind.signed]; simp; omega
    have w2 : IntKind.i64.wrap (x / 2) = x / 2 := by rw [IntKind.wrap_i64]; omega
    have w3 : x.tdiv 2 = x / 2 := Int.tdiv_eq_ediv_of_nonneg (by omega)
    clear hx
    go_enter Try.func38, Try.ntmps38
    go_wp2
    go_ret
    exact ⟨by rw [HZ.out]; first | rfl | simp [wrap64, *], rfl⟩
  · have hm : x.tmod 2 = 1 := by rw [hx, Int.tmod_eq_emod_of_nonneg (by omega)]; omega
    have HZ := Lib.hid (show zagI n = -(x / 2) - 1 by unfold zagI; rw [if_neg h2]; omega)
    have w1 : IntKind.u64.wrap (x / 2) = x / 2 := by simp only [IntKind.wrap, IntKind.bits, IntKind.signed]; simp; omega
    have w2 : IntKind.i64.wrap (x / 2) = x / 2 := by rw [IntKind.wrap_i64]; omega
    have w3 : x.tdiv 2 = x / 2 := Int.tdiv_eq_ediv_of_nonneg (by omega)
    have w4 : IntKind.i64.wrap (-(x / 2)) = -(x / 2) := by rw [IntKind.wrap_i64]; omega
    have w5 : IntKind.i64.wrap (-(x / 2) - 1) = -(x / 2) - 1 := by rw [IntKind.wrap_i64]; omega
    clear hx
    go_enter Try.func38, Try.ntmps38
    go_wp2
    go_ret
    exact ⟨by rw [HZ.out]; first | rfl | simp [wrap64, *], rfl⟩
theorem gvF_tail (t : ByteArray) (d k : Nat) (h : ∀ j, j < k → 128 ≤ byteN t j) (hk : k ≤ d) : gvF t d 0 = gvF t (d - k) k := by
  induction k with
  | zero => rfl
  | succ k ih =>
    rw [ih (fun j hj => h j (by omega)) (by omega), show d - k = (d - (k + 1)) + 1 by omega, gvF, if_neg (by have := h k (by omega); omega)]
theorem wrapU7 (k : Nat) (hk : k < 10) (b : Nat) (hb : b < 256) (hb9 : k = 9 → b ≤ 1) : IntKind.u64.wrap (((b % 128 : Nat) : Int) * 2 ^ (7 * k)) = ((b % 128 * 128 ^ k : Nat) : Int) := by
  rw [pow7, ← Int.natCast_mul, wrapU]
  by_cases h9 : k = 9
  · subst h9
    have := hb9 rfl
    have : b % 128 * 128 ^ 9 ≤ 1 * 128 ^ 9 := Nat.mul_le_mul_right _ (by omega)
    omega
  · have h8 : 128 ^ k ≤ 128 ^ 8 := Nat.pow_le_pow_right (by omega) (by omega)
    have : b % 128 * 128 ^ k ≤ 127 * 128 ^ 8 := Nat.mul_le_mul (by omega) h8
    omega
set_option maxHeartbeats 4000000 in
set_option maxRecDepth 100000 in
theorem refRead (s : ByteArray) (p : Nat) (h : p ≤ s.size) (hs : s.size ≤ 1000000) (v c a : Int) (hr : numP s p = (v, c, a)) (w : World) : Calls Try.prog 57 #[.string s, .int .i64 p] w fun e w' => e = .returned (.tuple #[.int .u64 v, .int .i64 a, .int .i64 c]) ∧ w = w' := by
  have hts : (s.extract p s.size).size = s.size - p := by rw [ByteArray.size_extract]; omega
  have hbt : ∀ k, k < s.size - p → byteN (s.extract p s.size) k = byteN s (p + k) := fun k hk => by
    have h1 := byteN_list (s.extract p s.size) k
    have h2 := byteN_list s (p + k)
    rw [bytesOf_drop, List.getD_eq_getElem?_getD, List.getElem?_drop, ← List.getD_eq_getElem?_getD, ← h2] at h1
    omega
  obtain ⟨t, ht⟩ : ∃ t, s.extract p s.size = t := ⟨_, rfl⟩
  unfold numP at hr
  rw [ht] at hts hbt hr
  rw [hts] at hr
  have HBT := Aside0.mk hbt
  have HR := Lib.hid hr
  clear hr hbt
  go_enter Try.func57, Try.ntmps57
  go_wp2
  go_loopw [7, 8, 9] (fun v7 v8 v9 wr => ∃ k : Nat, k ≤ 10 ∧ p + k ≤ s.size ∧ v7 = .int .u64 (nv t k) ∧ v8 = .int .i64 k ∧ wr = w ∧ Aside0 (gvF t (min (s.size - p) 10) 0 = gvF t (min (s.size - p) 10 - k) k)) (fun _ v8 _ _ => 10 - (RowKit.intOf v8).toNat)
  case atStart => exact ⟨0, Nat.zero_le _, by omega, rfl, rfl, rfl, ⟨rfl⟩⟩
  case round =>
    obtain ⟨k, hk, hpk, rfl, rfl, rfl, HG⟩ := hrel
    by_cases hlt : k < 10
    · by_cases hat : p + k < s.size
      · have hb := HBT.out k (by omega)
        have hbl := byteN_lt t k
        rw [byteN_at hat] at hb
        obtain ⟨b, hbv⟩ : ∃ b : Nat, s[p + k].toNat = b := ⟨_, rfl⟩
        rw [hbv] at hb
        obtain ⟨d, hd⟩ : ∃ d, min (s.size - p) 10 - k = d + 1 := ⟨min (s.size - p) 10 - k - 1, by omega⟩
        have hst := HG.out
        rw [hd, gvF, hb] at hst
        have hnr := HR.out
        rw [hst] at hnr
        have HNR := Lib.hid hnr
        have HST := Lib.hid hst
        have hend : byteN s (p + (k + 1) - 1) = b := by rw [show p + (k + 1) - 1 = p + k by omega, byteN_at hat, hbv]
        have HEND := Lib.hid hend
        have HB := Lib.hid hb
        have HD := Lib.hid hd
        rw [hb] at hbl
        clear hb hd hst hnr hend
        by_cases cA : k = 9 ∧ 1 < b
        · have e9 : ((k : Int) == 9) = true := by rw [beq_iff_eq]; omega
          have d1 : decide (1 < (b : Int)) = true := decide_eq_true (by omega)
          have d1' : decide (1 < b) = true := decide_eq_true (by omega)
          have hz : ((0 : Int), (8 : Int), (p : Int)) = (v, c, a) := by
            rw [← HNR.out]
            by_cases h128 : b < 128
            · rw [if_pos h128, if_pos cA]
              unfold numR
              simp only
              rw [if_neg (by omega), if_pos (by omega)]
            · rw [if_neg h128]
              have h10 := HD.out
              obtain rfl : d = 0 := by omega
              unfold gvF numR
              simp only
              rw [if_pos trivial, if_pos (by omega)]
          simp only [Prod.mk.injEq] at hz
          obtain ⟨rfl, rfl, rfl⟩ := hz
          clear cA
          go_wp2
          go_ret3
          exact ⟨rfl, rfl⟩
        by_cases c128 : b < 128
        · have hg : (if b < 128 then if k = 9 ∧ 1 < b then ((0 : Int), (-1 : Int)) else (gx t (k + 1), ((k + 1 : Nat) : Int)) else gvF t d (k + 1)) = (gx t (k + 1), ((k + 1 : Nat) : Int)) := by rw [if_pos c128, if_neg cA]
          have hnr := HNR.out
          rw [hg] at hnr
          unfold numR at hnr
          simp only at hnr
          rw [if_neg (by omega), if_neg (by omega), Int.toNat_natCast, HEND.out] at hnr
          have HNR2 := Lib.hid hnr
          clear hg hnr
          have d3 : decide ((b : Int) < 128) = true := decide_eq_true (by omega)
          have d3' : decide (b < 128) = true := decide_eq_true (by omega)
          have hgx : gx t (k + 1) = ((nv t (k + 1) : Nat) : Int) := by
            by_cases h9 : k = 9
            · subst h9; exact gx_nv9 t (by rw [HB.out]; omega)
            · exact gx_nv t (k + 1) (by omega)
          have w7 : IntKind.u64.wrap ((b : Int) % 128 * 2 ^ (7 * k)) = ((b % 128 * 128 ^ k : Nat) : Int) := wrapU7 k hlt b hbl (fun h => by omega)
          have hnv : nv t (k + 1) = nv t k + b % 128 * 128 ^ k := by rw [nv, HB.out]
          have hlt64 : nv t (k + 1) < 2 ^ 64 := by
            by_cases h9 : k = 9
            · subst h9
              have h1 := nv_lt t 9
              have h2 : b % 128 * 128 ^ 9 ≤ 1 * 128 ^ 9 := Nat.mul_le_mul_right _ (by omega)
              omega
            · have h1 := nv_lt t (k + 1)
              have h2 : 128 ^ (k + 1) ≤ 128 ^ 9 := Nat.pow_le_pow_right (by omega) (by omega)
              omega
          obtain ⟨mm, hmm⟩ : ∃ mm, b % 128 * 128 ^ k = mm := ⟨_, rfl⟩
          rw [hmm] at w7 hnv
          obtain ⟨n1, hn1⟩ : ∃ n1, nv t k = n1 := ⟨_, rfl⟩
          rw [hn1] at hnv ⊢
          have w8 : IntKind.u64.wrap ((n1 : Int) + (mm : Int)) = ((n1 + mm : Nat) : Int) := by rw [← Int.natCast_add, wrapU _ (by omega)]
          have HNV := Lib.hid (hgx.trans (congrArg (fun z : Nat => (z : Int)) hnv))
          clear hgx hnv hlt64 hmm hn1
          by_cases c0 : b = 0 ∧ 0 < k
          · have e0 : ((b : Int) == 0) = true := by rw [beq_iff_eq]; omega
            have d4 : decide (0 < (k : Int)) = true := decide_eq_true (by omega)
            have d4' : decide (0 < k) = true := decide_eq_true (by omega)
            have hz := HNR2.out
            rw [if_pos ⟨by omega, c0.1⟩] at hz
            simp only [Prod.mk.injEq] at hz
            obtain ⟨rfl, rfl, rfl⟩ := hz
            clear c0
            by_cases h9 : k = 9
            · have e9 : ((k : Int) == 9) = true := by rw [beq_iff_eq]; omega
              have d1 : decide (1 < (b : Int)) = false := decide_eq_false (by omega)
              have d1' : decide (1 < b) = false := decide_eq_false (by omega)
              clear cA h9
              go_wp2
              go_ret3
              exact ⟨rfl, rfl⟩
            · have e9 : ((k : Int) == 9) = false := by rw [beq_eq_false_iff_ne]; omega
              clear cA h9
              go_wp2
              go_ret3
              exact ⟨rfl, rfl⟩
          · have hz := HNR2.out
            rw [if_neg (fun h => c0 ⟨h.2, by omega⟩), HNV.out] at hz
            simp only [Prod.mk.injEq] at hz
            obtain ⟨rfl, rfl, rfl⟩ := hz
            have wk : ((k + 1 : Nat) : Int) = (k : Int) + 1 := rfl
            have HP := Lib.hid (show (p : Int) + ((k + 1 : Nat) : Int) = (p : Int) + (k : Int) + 1 by omega)
            by_cases hb0 : b = 0
            · have e0 : ((b : Int) == 0) = true := by rw [beq_iff_eq]; omega
              have d4 : decide (0 < (k : Int)) = false := decide_eq_false (by omega)
              have d4' : decide (0 < k) = false := decide_eq_false (by omega)
              have e9 : ((k : Int) == 9) = false := by rw [beq_eq_false_iff_ne]; omega
              clear cA c0 hb0
              go_wp2
              go_ret3
              exact ⟨by rw [HP.out]; rfl, rfl⟩
            · have e0 : ((b : Int) == 0) = false := by rw [beq_eq_false_iff_ne]; omega
              by_cases h9 : k = 9
              · have e9 : ((k : Int) == 9) = true := by rw [beq_iff_eq]; omega
                have d1 : decide (1 < (b : Int)) = false := decide_eq_false (by omega)
                have d1' : decide (1 < b) = false := decide_eq_false (by omega)
                clear cA c0 h9 hb0
                go_wp2
                go_ret3
                exact ⟨by rw [HP.out]; rfl, rfl⟩
              · have e9 : ((k : Int) == 9) = false := by rw [beq_eq_false_iff_ne]; omega
                clear cA c0 h9 hb0
                go_wp2
                go_ret3
                exact ⟨by rw [HP.out]; rfl, rfl⟩
        · have d3 : decide ((b : Int) < 128) = false := decide_eq_false (by omega)
          have d3' : decide (b < 128) = false := decide_eq_false (by omega)
          have e9 : ((k : Int) == 9) = false := by rw [beq_eq_false_iff_ne]; omega
          have h9 : k < 9 := by omega
          have w7 : IntKind.u64.wrap ((b : Int) % 128 * 2 ^ (7 * k)) = ((b % 128 * 128 ^ k : Nat) : Int) := wrapU7 k hlt b hbl (fun h => by omega)
          have hnv : nv t (k + 1) = nv t k + b % 128 * 128 ^ k := by rw [nv, HB.out]
          have hlt64 : nv t (k + 1) < 2 ^ 64 := by
            have h1 := nv_lt t (k + 1)
            have h2 : 128 ^ (k + 1) ≤ 128 ^ 9 := Nat.pow_le_pow_right (by omega) (by omega)
            omega
          obtain ⟨mm, hmm⟩ : ∃ mm, b % 128 * 128 ^ k = mm := ⟨_, rfl⟩
          rw [hmm] at w7 hnv
          obtain ⟨n1, hn1⟩ : ∃ n1, nv t k = n1 := ⟨_, rfl⟩
          rw [hn1] at hnv ⊢
          have w8 : IntKind.u64.wrap ((n1 : Int) + (mm : Int)) = ((n1 + mm : Nat) : Int) := by rw [← Int.natCast_add, wrapU _ (by omega)]
          have HNV := Lib.hid hnv
          have HG2 := Aside0.mk (show gvF t (min (s.size - p) 10) 0 = gvF t (min (s.size - p) 10 - (k + 1)) (k + 1) by
            rw [HST.out, if_neg c128]
            congr 1
            have := HD.out
            omega)
          have HC := Lib.hid c128
          clear hnv hlt64 hmm hn1 cA c128
          go_wp2
          go_roundw
          case rel => exact ⟨k + 1, by omega, by omega, by rw [HNV.out]; rfl, by first | rfl | go_num, by first | rfl | trivial, HG2⟩
          case measure => first | (simp [RowKit.intOf]; done) | (simp [RowKit.intOf]; omega)
      · have hz : ((0 : Int), (7 : Int), (p : Int)) = (v, c, a) := by
          rw [← HR.out, HG.out, show min (s.size - p) 10 - k = 0 by omega]
          unfold gvF numR
          simp only
          rw [if_pos trivial, if_neg (by omega)]
        simp only [Prod.mk.injEq] at hz
        obtain ⟨rfl, rfl, rfl⟩ := hz
        have d2 : decide ((p : Int) + (k : Int) ≥ (s.size : Int)) = true := decide_eq_true (by omega)
        have d2' : decide ((s.size : Int) ≤ (p : Int) + (k : Int)) = true := decide_eq_true (by omega)
        go_wp2
        go_ret3
        exact ⟨rfl, rfl⟩
    · have hz : ((0 : Int), (8 : Int), (p : Int)) = (v, c, a) := by
        rw [← HR.out, HG.out, show min (s.size - p) 10 - k = 0 by omega]
        unfold gvF numR
        simp only
        rw [if_pos trivial, if_pos (by omega)]
      simp only [Prod.mk.injEq] at hz
      obtain ⟨rfl, rfl, rfl⟩ := hz
      go_wp2
      go_ret3
      exact ⟨rfl, rfl⟩

/-- The document's reader. -/
abbrev RA (g : Nat) (s : ByteArray) (a bad : Int) : Asn := Blk g (.cells #[.string s, .int .i64 a, .int .i64 bad] 67 (0, 0))
theorem quiet_read {w : World} {n : Nat} {s : ByteArray} {p : Nat} (h : p ≤ s.size) (hs : s.size ≤ 1000000) {v c a : Int} (hr : numP s p = (v, c, a)) : Calls Try.prog 57 #[.string s, .int .i64 p] (w.drewN n) fun e w'' => e = .returned (.tuple #[.int .u64 v, .int .i64 a, .int .i64 c]) ∧ ∃ m, w'' = w.drewN m :=
  (refRead s p h hs v c a hr (w.drewN n)).mono fun e w' ⟨he, hw⟩ => ⟨he, n, hw.symm⟩
section
variable {w0 w w' : World} {L : List Asn} {g : Nat} {s : ByteArray} {a bad : Int}
set_option maxHeartbeats 4000000 in
set_option maxRecDepth 100000 in
theorem RfNum (h : Own w0 w (RA g s a bad :: L)) (h0 : 0 ≤ a) (h1 : a ≤ s.size) (hs : s.size ≤ 1000000) (v a' bad' : Int) (hr : rdNum s a bad = (v, a', bad')) :
    Calls Try.prog 39 #[.pointer (some ⟨g, 0, none⟩)] w fun e w' => e = .returned (.int .u64 v) ∧ Own w0 w' (RA g s a' bad' :: L) := by
  obtain ⟨n, rfl⟩ := Int.eq_ofNat_of_zero_le h0
  have z0 := (blk_cell h.at0 0).trans rfl
  have z1 := (blk_cell h.at0 1).trans rfl
  have z2 := (blk_cell h.at0 2).trans rfl
  have H := Aside0.mk h
  have HN := Aside0.mk (show n ≤ s.size by omega)
  have HS := Aside0.mk hs
  clear h h0 h1 hs
  by_cases hb : bad = 0
  · subst hb
    rcases hp : numP s n with ⟨v0, c0, a0⟩
    have hq := numP_bad s n v0 c0 a0 hp
    unfold rdNum at hr
    rw [if_neg (by simp), Int.toNat_natCast, hp] at hr
    have he : (if c0 = 0 then a0 else (n : Int)) = a0 := by
      by_cases hc : c0 = 0
      · rw [if_pos hc]
      · rw [if_neg hc]; rcases hq with ⟨h, _⟩ | ⟨_, _, h⟩
        · exact absurd h hc
        · exact h.symm
    simp only [finR, he, Prod.mk.injEq] at hr
    obtain ⟨rfl, rfl, rfl⟩ := hr
    have HP := Lib.hid hp
    clear hp hq he
    go_enter Try.func39, Try.ntmps39
    go_wp2
    go_quiet (exact quiet_read HN.out HS.out HP.out)
    have h2 := H.out.drewN nq
    have g2 := blk_frozen h2.at0 2
    have h3 := h2.set 2 (.int .i64 c0)
    have g1 := blk_frozen h3.at0 1
    have x1 := (blk_cell h3.at0 1).trans rfl
    have x2 := (blk_cell h2.at0 2).trans rfl
    have H3 := Aside0.mk h3
    clear h2 h3
    go_wp2
    go_ret
    exact ⟨rfl, H3.out.set 1 (.int .i64 a0)⟩
  · unfold rdNum at hr
    rw [if_pos hb] at hr
    simp only [Prod.mk.injEq] at hr
    obtain ⟨rfl, rfl, rfl⟩ := hr
    have e0 : (bad == 0) = false := beq_eq_false_iff_ne.2 hb
    clear hb
    go_enter Try.func39, Try.ntmps39
    go_wp2
    go_ret
    exact ⟨rfl, H.out⟩
set_option maxHeartbeats 4000000 in
set_option maxRecDepth 100000 in
theorem RfByte (h : Own w0 w (RA g s a 0 :: L)) (h0 : 0 ≤ a) (h1 : a ≤ s.size) (hs : s.size ≤ 1000000) (v a' bad' : Int) (hr : rdByte s a 0 = (v, a', bad')) :
    Calls Try.prog 35 #[.pointer (some ⟨g, 0, none⟩)] w fun e w' => e = .returned (.int .u8 v) ∧ Own w0 w' (RA g s a' bad' :: L) := by
  obtain ⟨n, rfl⟩ := Int.eq_ofNat_of_zero_le h0
  have z0 := (blk_cell h.at0 0).trans rfl
  have z1 := (blk_cell h.at0 1).trans rfl
  have z2 := (blk_cell h.at0 2).trans rfl
  have H := Aside0.mk h
  unfold rdByte byteR at hr
  rw [if_neg (by simp), Int.toNat_natCast] at hr
  by_cases hn : n = s.size
  · rw [if_pos hn] at hr
    simp only [finR, Prod.mk.injEq] at hr
    obtain ⟨rfl, rfl, rfl⟩ := hr
    have e1 : ((n : Int) == (s.size : Int)) = true := by rw [beq_iff_eq]; omega
    rw [if_neg (by omega)]
    clear h h0 h1 hs hn
    go_enter Try.func35, Try.ntmps35
    go_wp2
    go_quiet (fail)
    have h2 := H.out.drewN nq
    have g2 := blk_frozen h2.at0 2
    have x2 := (blk_cell h2.at0 2).trans rfl
    have H3 := Aside0.mk h2
    clear h2
    go_wp2
    go_ret
    exact ⟨rfl, H3.out.set 2 (.int .i64 7)⟩
  · rw [if_neg hn] at hr
    simp only [finR, Prod.mk.injEq] at hr
    obtain ⟨rfl, rfl, rfl⟩ := hr
    have hat : n < s.size := by omega
    have e1 : ((n : Int) == (s.size : Int)) = false := by rw [beq_eq_false_iff_ne]; omega
    have hbv : s[n].toNat = byteN s n := (byteN_at hat).symm
    have w1 : IntKind.i64.wrap ((n : Int) + 1 - 1) = (n : Int) := by rw [IntKind.wrap_i64]; omega
    rw [if_pos trivial]
    clear h h0 h1 hn
    obtain ⟨b, hb⟩ : ∃ b, byteN s n = b := ⟨_, rfl⟩
    rw [hb] at hbv ⊢
    clear hb
    go_enter Try.func35, Try.ntmps35
    go_wp2
    go_quiet (fail)
    have h2 := H.out.drewN nq
    have g1 := blk_frozen h2.at0 1
    have x1 := (blk_cell h2.at0 1).trans rfl
    have x0 := (blk_cell h2.at0 0).trans rfl
    have h3 := h2.set 1 (.int .i64 ((n : Int) + 1))
    have y0 := (blk_cell h3.at0 0).trans rfl
    have y1 := (blk_cell h3.at0 1).trans rfl
    have H3 := Aside0.mk h3
    clear h2 h3
    rename Nat => nq0
    go_wp2
    go_quiet (fail)
    go_wp2
    go_ret
    exact ⟨rfl, H3.out.drewN _⟩
theorem most_cases (s : ByteArray) (n : Nat) (hn : n ≤ s.size) (most : Int) (v0 c0 a0 : Int) (hp : numP s n = (v0, c0, a0)) (hm0 : 0 ≤ most) :
    (c0 = 0 ∧ most < v0 ∧ rdMost s n 0 most = (0, (n : Int), 8)) ∨ (c0 = 0 ∧ 0 ≤ v0 ∧ v0 ≤ most ∧ rdMost s n 0 most = (v0, a0, 0)) ∨ (c0 ≠ 0 ∧ rdMost s n 0 most = (0, (n : Int), c0)) := by
  have hb := numP_bad s n v0 c0 a0 hp
  unfold rdMost mostR
  rw [if_neg (by simp), Int.toNat_natCast, hp]
  simp only
  by_cases hc : c0 = 0
  · subst hc
    obtain ⟨m, hm, rfl, rfl, hl, _⟩ := numP_back s n hn v0 a0 hp
    by_cases h : most < (m : Int)
    · left
      rw [if_pos ⟨rfl, .inr h⟩]
      exact ⟨rfl, h, rfl⟩
    · right; left
      rw [if_neg (by omega)]
      exact ⟨rfl, by omega, by omega, rfl⟩
  · right; right
    rw [if_neg (fun h => hc h.1)]
    rcases hb with ⟨h, _⟩ | ⟨_, rfl, rfl⟩
    · exact absurd h hc
    · exact ⟨hc, by unfold finR; simp only; rw [if_neg hc]⟩
set_option maxHeartbeats 4000000 in
set_option maxRecDepth 100000 in
theorem RfMost (h : Own w0 w (RA g s a bad :: L)) (h0 : 0 ≤ a) (h1 : a ≤ s.size) (hs : s.size ≤ 1000000) (most : Int) (hm0 : 0 ≤ most) (hm1 : most ≤ 2147483647) (v a' bad' : Int) (hr : rdMost s a bad most = (v, a', bad')) :
    Calls Try.prog 36 #[.pointer (some ⟨g, 0, none⟩), .int .i64 most] w fun e w' => e = .returned (.int .i64 v) ∧ Own w0 w' (RA g s a' bad' :: L) := by
  obtain ⟨n, rfl⟩ := Int.eq_ofNat_of_zero_le h0
  have z0 := (blk_cell h.at0 0).trans rfl
  have z1 := (blk_cell h.at0 1).trans rfl
  have z2 := (blk_cell h.at0 2).trans rfl
  have H := Aside0.mk h
  have HN := Aside0.mk (show n ≤ s.size by omega)
  have HS := Aside0.mk hs
  clear h h0 h1 hs
  have dm : decide (most < 0) = false := decide_eq_false (by omega)
  have wm : IntKind.u64.wrap most = most := by simp only [IntKind.wrap, IntKind.bits, IntKind.signed]; simp; omega
  by_cases hb : bad = 0
  · subst hb
    rcases hp : numP s n with ⟨v0, c0, a0⟩
    have HP := Lib.hid hp
    rcases most_cases s n HN.out most v0 c0 a0 hp hm0 with ⟨hc, hv, e⟩ | ⟨hc, hv0, hv, e⟩ | ⟨hc, e⟩
    · rw [e] at hr
      simp only [Prod.mk.injEq] at hr
      obtain ⟨rfl, rfl, rfl⟩ := hr
      have ec : (c0 == 0) = true := by rw [beq_iff_eq]; exact hc
      have dv : decide (v0 > most) = true := decide_eq_true hv
      have dv' : decide (most < v0) = true := decide_eq_true hv
      clear hp e hc hm0 hm1 hv
      go_enter Try.func36, Try.ntmps36
      go_wp2
      go_quiet (exact quiet_read HN.out HS.out HP.out)
      have h2 := H.out.drewN nq
      have g2 := blk_frozen h2.at0 2
      have x2 := (blk_cell h2.at0 2).trans rfl
      have H3 := Aside0.mk h2
      clear h2
      go_wp2
      go_ret
      exact ⟨rfl, H3.out.set 2 (.int .i64 8)⟩
    · rw [e] at hr
      simp only [Prod.mk.injEq] at hr
      obtain ⟨rfl, rfl, rfl⟩ := hr
      subst hc
      have dv : decide (v0 > most) = false := decide_eq_false (by omega)
      have dv' : decide (most < v0) = false := decide_eq_false (by omega)
      have wv : IntKind.i64.wrap v0 = v0 := by rw [IntKind.wrap_i64]; omega
      clear hp e
      go_enter Try.func36, Try.ntmps36
      go_wp2
      go_quiet (exact quiet_read HN.out HS.out HP.out)
      have h2 := H.out.drewN nq
      have g2 := blk_frozen h2.at0 1
      have x2 := (blk_cell h2.at0 1).trans rfl
      have H3 := Aside0.mk h2
      clear h2
      go_wp2
      go_ret
      exact ⟨rfl, H3.out.set 1 (.int .i64 a0)⟩
    · rw [e] at hr
      simp only [Prod.mk.injEq] at hr
      obtain ⟨rfl, rfl, rfl⟩ := hr
      have ec : (c0 == 0) = false := beq_eq_false_iff_ne.2 hc
      clear hp e hc hm0 hm1
      go_enter Try.func36, Try.ntmps36
      go_wp2
      go_quiet (exact quiet_read HN.out HS.out HP.out)
      have h2 := H.out.drewN nq
      have g2 := blk_frozen h2.at0 2
      have x2 := (blk_cell h2.at0 2).trans rfl
      have H3 := Aside0.mk h2
      clear h2
      go_wp2
      go_ret
      exact ⟨rfl, H3.out.set 2 (.int .i64 c0)⟩
  · unfold rdMost at hr
    rw [if_pos hb] at hr
    simp only [Prod.mk.injEq] at hr
    obtain ⟨rfl, rfl, rfl⟩ := hr
    have e0 : (bad == 0) = false := beq_eq_false_iff_ne.2 hb
    clear hb
    go_enter Try.func36, Try.ntmps36
    go_wp2
    go_ret
    exact ⟨rfl, H.out⟩
theorem text_cases (s : ByteArray) (a bad : Int) (h0 : 0 ≤ a) (h1 : a ≤ s.size) (most : Int) (hm0 : 0 ≤ most) (n a1 b1 : Int) (hr : rdMost s a bad most = (n, a1, b1)) :
    (b1 ≠ 0 ∧ rdText s a bad most = (.empty, a1, b1)) ∨ (b1 = 0 ∧ 0 ≤ n ∧ n ≤ most ∧ 0 ≤ a1 ∧ a1 ≤ s.size ∧ ((s.size : Int) - a1 < n ∧ rdText s a bad most = (.empty, a, 7) ∨ n ≤ (s.size : Int) - a1 ∧ rdText s a bad most = (s.extract a1.toNat (a1.toNat + n.toNat), a1 + n, 0))) := by
  obtain ⟨p, rfl⟩ := Int.eq_ofNat_of_zero_le h0
  by_cases hb : bad = 0
  · subst hb
    have hbk := most_back s p (by omega) most
    rw [hr] at hbk
    rcases hM : mostR s p most with ⟨x, cc, aa⟩
    unfold rdMost at hr
    unfold rdText textR
    rw [if_neg (by simp), Int.toNat_natCast, hM] at hr ⊢
    simp only [finR, Prod.mk.injEq] at hr
    obtain ⟨rfl, ha1, rfl⟩ := hr
    simp only
    by_cases hc : cc = 0
    · subst hc
      rw [if_pos rfl] at ha1
      subst ha1
      right
      rcases hbk with ⟨b, hb, e⟩ | ⟨m, hm, _, e, hl, _⟩
      · simp only [Prod.mk.injEq] at e; exact absurd e.2.2.symm hb
      · simp only [Prod.mk.injEq] at e
        obtain ⟨rfl, rfl, _⟩ := e
        rw [if_neg (show ¬ ((0 : Int) ≠ 0) by omega)]
        refine ⟨rfl, by omega, hm, by omega, by omega, ?_⟩
        by_cases hl2 : (s.size : Int) - ((p + (numB m).length : Nat) : Int) < (m : Int)
        · rw [if_pos hl2]; exact .inl ⟨hl2, rfl⟩
        · rw [if_neg hl2]; exact .inr ⟨by omega, rfl⟩
    · left
      rw [if_neg hc] at ha1
      subst ha1
      rw [if_pos hc]
      exact ⟨hc, by unfold finR; simp only; rw [if_neg hc]⟩
  · unfold rdMost at hr
    unfold rdText
    rw [if_pos hb] at hr ⊢
    simp only [Prod.mk.injEq] at hr
    obtain ⟨rfl, rfl, rfl⟩ := hr
    exact .inl ⟨hb, rfl⟩
set_option maxHeartbeats 4000000 in
set_option maxRecDepth 100000 in
theorem RfText (h : Own w0 w (RA g s a bad :: L)) (h0 : 0 ≤ a) (h1 : a ≤ s.size) (hs : s.size ≤ 1000000) (most : Int) (hm0 : 0 ≤ most) (hm1 : most ≤ 2147483647) (v : ByteArray) (a' bad' : Int) (hr : rdText s a bad most = (v, a', bad')) :
    Calls Try.prog 37 #[.pointer (some ⟨g, 0, none⟩), .int .i64 most] w fun e w' => e = .returned (.string v) ∧ Own w0 w' (RA g s a' bad' :: L) := by
  have z1 := (blk_cell h.at0 1).trans rfl
  have H := Aside0.mk h
  rcases hq : rdMost s a bad most with ⟨n, a1, b1⟩
  have hcs := text_cases s a bad h0 h1 most hm0 n a1 b1 hq
  have HQ := Lib.hid hq
  have H0 := Aside0.mk h0
  have H1 := Aside0.mk h1
  have HS := Aside0.mk hs
  have HM0 := Aside0.mk hm0
  have HM1 := Aside0.mk hm1
  clear h hq
  rcases hcs with ⟨hb, e⟩ | ⟨rfl, n0, n1, p0, p1, ⟨hl, e⟩ | ⟨hl, e⟩⟩
  · rw [e] at hr
    simp only [Prod.mk.injEq] at hr
    obtain ⟨rfl, rfl, rfl⟩ := hr
    have e0 : (b1 == 0) = false := beq_eq_false_iff_ne.2 hb
    clear hb e h0 h1 hs hm0 hm1
    go_enter Try.func37, Try.ntmps37
    go_wp2_with (go_at_call 36; ((with_reducible refine (RfMost H.out H0.out H1.out HS.out most HM0.out HM1.out _ _ _ HQ.out).mono ?_)); rintro e w1 ⟨rfl, h⟩; have y0 := (blk_cell h.at0 0).trans rfl; have y1 := (blk_cell h.at0 1).trans rfl; have y2 := (blk_cell h.at0 2).trans rfl; have H2 := Aside0.mk h; clear h)
    go_ret
    exact ⟨rfl, H2.out⟩
  · rw [e] at hr
    simp only [Prod.mk.injEq] at hr
    obtain ⟨rfl, rfl, rfl⟩ := hr
    have d1 : decide (n > (s.size : Int) - a1) = true := decide_eq_true (by omega)
    have d1' : decide ((s.size : Int) - a1 < n) = true := decide_eq_true (by omega)
    have w1 : IntKind.i64.wrap ((s.size : Int) - a1) = (s.size : Int) - a1 := by rw [IntKind.wrap_i64]; omega
    clear e h0 h1 hm0 hm1 hl
    go_enter Try.func37, Try.ntmps37
    go_wp2_with (go_at_call 36; ((with_reducible refine (RfMost H.out H0.out H1.out HS.out most HM0.out HM1.out _ _ _ HQ.out).mono ?_)); rintro e w1 ⟨rfl, h⟩; have y0 := (blk_cell h.at0 0).trans rfl; have y1 := (blk_cell h.at0 1).trans rfl; have y2 := (blk_cell h.at0 2).trans rfl; have H2 := Aside0.mk h; clear h)
    go_quiet (fail)
    have h2 := H2.out.drewN nq
    have g1 := blk_frozen h2.at0 1
    have x1 := (blk_cell h2.at0 1).trans rfl
    have h3 := h2.set 1 (.int .i64 a)
    have g2 := blk_frozen h3.at0 2
    have x2 := (blk_cell h3.at0 2).trans rfl
    have H3 := Aside0.mk h3
    clear h2 h3
    go_wp2
    go_ret
    exact ⟨rfl, H3.out.set 2 (.int .i64 7)⟩
  · rw [e] at hr
    simp only [Prod.mk.injEq] at hr
    obtain ⟨rfl, rfl, rfl⟩ := hr
    have d1 : decide (n > (s.size : Int) - a1) = false := decide_eq_false (by omega)
    have d1' : decide ((s.size : Int) - a1 < n) = false := decide_eq_false (by omega)
    obtain ⟨p, rfl⟩ := Int.eq_ofNat_of_zero_le p0
    obtain ⟨m, rfl⟩ := Int.eq_ofNat_of_zero_le n0
    have w1 : IntKind.i64.wrap ((s.size : Int) - (p : Int)) = (s.size : Int) - (p : Int) := by rw [IntKind.wrap_i64]; omega
    have w2 : IntKind.i64.wrap ((p : Int) + (m : Int)) = (p : Int) + (m : Int) := by rw [IntKind.wrap_i64]; omega
    have hpm : p + m ≤ s.size := by omega
    have HT := Lib.hid (show ((p : Int)).toNat = p ∧ ((m : Int)).toNat = m from ⟨Int.toNat_natCast p, Int.toNat_natCast m⟩)
    clear e h0 h1 hm0 hm1 hl p0 n0
    go_enter Try.func37, Try.ntmps37
    go_wp2_with (go_at_call 36; ((with_reducible refine (RfMost H.out H0.out H1.out HS.out most HM0.out HM1.out _ _ _ HQ.out).mono ?_)); rintro e w1 ⟨rfl, h⟩; have y0 := (blk_cell h.at0 0).trans rfl; have y1 := (blk_cell h.at0 1).trans rfl; have y2 := (blk_cell h.at0 2).trans rfl; have H2 := Aside0.mk h; clear h)
    go_quiet (fail)
    go_wp2
    rename Nat => nqa
    go_quiet (fail)
    have h2 := H2.out.drewN (nqa + nq)
    have g1 := blk_frozen h2.at0 1
    have x1 := (blk_cell h2.at0 1).trans rfl
    have H3 := Aside0.mk h2
    clear h2
    go_wp2
    go_ret
    exact ⟨by rw [HT.out.1, HT.out.2]; rfl, H3.out.set 1 (.int .i64 ((p : Int) + (m : Int)))⟩
end

theorem tail_drew {P : Program} {id : Nat} {Q : Exit → Act → World → Prop} {a : Act} {w : World} {l : List Oper} (n : Nat) (hm : P.follows .mixedOrders = true) (hB : Region.lexTailB .any l.toArray n = true) (wd : World) (hwd : Hid (wd = w.drew))
    (h : wpStill P l.toArray wd (fun a' => wpList P l.toArray Q (l.drop n) a' wd) (l.take n) a) : (Code.region id l.toArray true).wp P Q a w := by
  have hwd := hwd.out
  subst hwd
  exact wp_region_still_tail n hm hB h
set_option maxHeartbeats 4000000 in
theorem res20 (tmps : Array Value) (w : World) (g : Nat) (m : Int) (b : Bool) (v0 v1 v2 v3 v4 v5 : Value) (h2 : tmps.getD 4 undef = .pointer (some ⟨g, 0, none⟩)) (h3 : tmps.getD 5 undef = .int .i64 m) (h4 : tmps.getD 6 undef = .bool b)
    (z0 : w.cell? ⟨g, 0, none⟩ = some v0) (z1 : w.cell? ⟨g, 1, none⟩ = some v1) (z2 : w.cell? ⟨g, 2, none⟩ = some v2) (z3 : w.cell? ⟨g, 3, none⟩ = some v3) (z4 : w.cell? ⟨g, 4, none⟩ = some v4) (z5 : w.cell? ⟨g, 5, none⟩ = some v5) :
    (results Try.f20 tmps).run Try.prog w = .ok (.tuple #[.agg #[v0, v1, v2, v3, v4, v5], .int .i64 m, .bool b]) w := by
  simp only [results, Try.results20, List.mapM_toArray, List.mapM_cons, List.mapM_nil]
  simp [h2, h3, h4, go_sem, z0, z1, z2, z3, z4, z5]
section
variable {w0 w w' : World} {R : List Asn} {s : ByteArray} {p0 : Int × Int}
set_option maxHeartbeats 8000000 in
set_option maxRecDepth 100000 in
theorem rd1 (h : Own w0 w R) (hs : s.size < 1000000) (p : Nat) (hp : p ≤ s.size) (h0 : rdByte s p 0 = (1, p0.1, p0.2)) (p1 p2 p3 p4 : Int × Int) (e1 : rN' s p0 = p1) (e2 : rT' s p1 = p2) (e3 : rI' s p2 = p3) (e4 : rI' s p3 = p4) (i0 : inS s p0) (i1 : inS s p1) (i2 : inS s p2) (i3 : inS s p3) (i4 : inS s p4) :
    Calls Try.prog 20 #[.string s, .int .i64 p] w fun e w' => e = .returned (.tuple #[.agg #[.int .u8 1, .int .i64 (rN s p0), .int .i64 0, .string (rT s p1), .int .i64 (rI s p2), .int .i64 (rI s p3)], .int .i64 p4.1, .bool (p4.2 == 0)]) ∧ Own w0 w' R := by
  have H := Aside0.mk (show Own w0 ((w.alloc (.cells #[.int .u8 0, .int .i64 0, .int .i64 0, .string ⟨#[]⟩, .int .i64 0, .int .i64 0] 33 (0, 0))).alloc (.cells #[.string s, .int .i64 p, .int .i64 0] 67 (0, 0))) (RA (w.heap.size + 1) s p 0 :: Blk w.heap.size (.cells #[.int .u8 0, .int .i64 0, .int .i64 0, .string ⟨#[]⟩, .int .i64 0, .int .i64 0] 33 (0, 0)) :: R) from (by have h2 := (h.alloc (.cells #[.int .u8 0, .int .i64 0, .int .i64 0, .string ⟨#[]⟩, .int .i64 0, .int .i64 0] 33 (0, 0))).alloc (.cells #[.string s, .int .i64 p, .int .i64 0] 67 (0, 0)); rwa [alloc_size] at h2))
  have HR0 := Aside0.mk h0
  have HSL := Aside0.mk (Nat.le_of_lt hs)
  have HZ := Aside0.mk (show (0 : Int) ≤ p by omega)
  have HZP := Aside0.mk (show (p : Int) ≤ s.size by omega)
  have HL0 := Aside0.mk i0.1
  have HU0 := Aside0.mk i0.2
  have HL1 := Aside0.mk i1.1
  have HU1 := Aside0.mk i1.2
  have HL2 := Aside0.mk i2.1
  have HU2 := Aside0.mk i2.2
  have HL3 := Aside0.mk i3.1
  have HU3 := Aside0.mk i3.2
  have HL4 := Aside0.mk i4.1
  have HU4 := Aside0.mk i4.2
  have HE0 := Aside0.mk (show rdMost s p0.1 p0.2 2147483647 = (rN s p0, p1.1, p1.2) by rw [← e1]; rfl)
  have HE1 := Aside0.mk (show rdText s p1.1 p1.2 255 = (rT s p1, p2.1, p2.2) by rw [← e2]; rfl)
  obtain ⟨n2, hn2, hr2, hv2⟩ := (rI_in i2).2
  have HN2 := Aside0.mk hn2
  have HV2 := Lib.hid hv2
  rw [e3] at hr2
  have HE2 := Aside0.mk hr2
  obtain ⟨n3, hn3, hr3, hv3⟩ := (rI_in i3).2
  have HN3 := Aside0.mk hn3
  have HV3 := Lib.hid hv3
  rw [e4] at hr3
  have HE3 := Aside0.mk hr3
  clear h hs hp h0 i0 i1 i2 i3 i4 e1 e2 e3 e4 hn2 hr2 hv2 hn3 hr3 hv3
  go_enter Try.func20, Try.ntmps20
  go_wp2_with (first
    | (go_at_call 35; ((with_reducible refine (RfByte H.out HZ.out HZP.out HSL.out _ _ _ HR0.out).mono ?_)); rintro e wb ⟨rfl, h⟩; have h := h.alloc (.cells #[.int .u8 1, .int .i64 0, .int .i64 0, .string ⟨#[]⟩, .int .i64 0, .int .i64 0] 33 (0, 0)); have ya0 := (blk_cell h.at0 0).trans rfl; have G0 := Aside0.mk h; clear h)
    | (go_at_call 36; ((with_reducible refine (RfMost G0.out.r1 HL0.out HU0.out HSL.out 2147483647 (by omega) (by omega) _ _ _ HE0.out).mono ?_)); rintro e wc0 ⟨rfl, h⟩; have h := h.r1; have zk0 := (blk_cell h.at0 1).trans rfl; have fk0 := blk_frozen h.at0 1; have h9 := h.set 1 (.int .i64 (rN s p0)); have yb0 := (blk_cell h9.at0 0).trans rfl; have G1 := Aside0.mk h9; clear h h9)
    | (go_at_call 37; ((with_reducible refine (RfText G1.out.r1 HL1.out HU1.out HSL.out 255 (by omega) (by omega) _ _ _ HE1.out).mono ?_)); rintro e wc1 ⟨rfl, h⟩; have h := h.r1; have zk1 := (blk_cell h.at0 3).trans rfl; have fk1 := blk_frozen h.at0 3; have h9 := h.set 3 (.string (rT s p1)); have yb1 := (blk_cell h9.at0 0).trans rfl; have G2 := Aside0.mk h9; clear h h9)
    | (go_at_call 39; ((with_reducible refine (RfNum G2.out.r1 HL2.out HU2.out HSL.out _ _ _ HE2.out).mono ?_)); rintro e wc2 ⟨rfl, h⟩; have h := h.r1; have zk2 := (blk_cell h.at0 4).trans rfl; have fk2 := blk_frozen h.at0 4; have h9 := h.set 4 (.int .i64 (zagI n2)); have yb2 := (blk_cell h9.at0 0).trans rfl; have G3 := Aside0.mk h9; clear h h9)
    | (go_at_call 38; ((with_reducible refine (refZag_calls n2 HN2.out (n2 : Int) rfl wc2).mono ?_)); rintro e wz ⟨rfl, rfl⟩)
    | (go_at_call 39; ((with_reducible refine (RfNum G3.out.r1 HL3.out HU3.out HSL.out _ _ _ HE3.out).mono ?_)); rintro e wc3 ⟨rfl, h⟩; have h := h.r1; have zk3 := (blk_cell h.at0 5).trans rfl; have fk3 := blk_frozen h.at0 5; have h9 := h.set 5 (.int .i64 (zagI n3)); have yb3 := (blk_cell h9.at0 0).trans rfl; have G4 := Aside0.mk h9; clear h h9)
    | (go_at_call 38; ((with_reducible refine (refZag_calls n3 HN3.out (n3 : Int) rfl wc3).mono ?_)); rintro e wz ⟨rfl, rfl⟩))
  obtain ⟨W, hW⟩ : ∃ W, W = (wc3.setCell ⟨wb.heap.size, 5, none⟩ (.int .i64 (zagI n3))) := ⟨_, rfl⟩
  have hD := G4.out
  rw [← hW] at hD ⊢
  clear hW H HR0 HSL HZ HZP HL0 HU0 HL1 HU1 HL2 HU2 HL3 HU3 HL4 HU4 HE0 HE1 HE2 HE3 HN2 HN3 zk0 fk0 yb0 G0 zk1 fk1 yb1 G1 zk2 fk2 yb2 G2 zk3 fk3 yb3 G3 ya0 G4
  have xa0 := (blk_cell hD.at0 0).trans rfl; have xa1 := (blk_cell hD.at0 1).trans rfl; have xa2 := (blk_cell hD.at0 2).trans rfl; have xa3 := (blk_cell hD.at0 3).trans rfl; have xa4 := (blk_cell hD.at0 4).trans rfl; have xa5 := (blk_cell hD.at0 5).trans rfl; have xr0 := (blk_cell hD.at1 0).trans rfl; have xr1 := (blk_cell hD.at1 1).trans rfl; have xr2 := (blk_cell hD.at1 2).trans rfl; have xz0 := (blk_cell hD.at2 0).trans rfl; have xz1 := (blk_cell hD.at2 1).trans rfl; have xz2 := (blk_cell hD.at2 2).trans rfl; have xz3 := (blk_cell hD.at2 3).trans rfl; have xz4 := (blk_cell hD.at2 4).trans rfl; have xz5 := (blk_cell hD.at2 5).trans rfl; have fz0 := blk_frozen hD.at2 0; have fz1 := blk_frozen hD.at2 1; have fz2 := blk_frozen hD.at2 2; have fz3 := blk_frozen hD.at2 3; have fz4 := blk_frozen hD.at2 4; have fz5 := blk_frozen hD.at2 5
  have hE := hD.drew
  have xd0 := (blk_cell hE.at0 0).trans rfl; have xd1 := (blk_cell hE.at0 1).trans rfl; have xd2 := (blk_cell hE.at0 2).trans rfl; have xd3 := (blk_cell hE.at0 3).trans rfl; have xd4 := (blk_cell hE.at0 4).trans rfl; have xd5 := (blk_cell hE.at0 5).trans rfl; have xe1 := (blk_cell hE.at1 1).trans rfl; have xe2 := (blk_cell hE.at1 2).trans rfl
  have HF0 := ((((((hD.r2.set 0 (.int .u8 1)).set 1 (.int .i64 (rN s p0))).set 2 (.int .i64 0)).set 3 (.string (rT s p1))).set 4 (.int .i64 (zagI n2))).set 5 (.int .i64 (zagI n3))).drew
  clear hD hE
  have xb0 := (blk_cell HF0.at1 0).trans rfl; have xb1 := (blk_cell HF0.at1 1).trans rfl; have xb2 := (blk_cell HF0.at1 2).trans rfl; have xb3 := (blk_cell HF0.at1 3).trans rfl; have xb4 := (blk_cell HF0.at1 4).trans rfl; have xb5 := (blk_cell HF0.at1 5).trans rfl; have xs1 := (blk_cell HF0.at2 1).trans rfl; have xs2 := (blk_cell HF0.at2 2).trans rfl
  have HF := Aside0.mk HF0
  clear HF0
  go_region
  go_wp2
  have y0 := (blk_cell HF.out.at0 0).trans (rfl : (_ : Option Value) = some (Value.int .u8 1))
  have y1 := (blk_cell HF.out.at0 1).trans (rfl : (_ : Option Value) = some (Value.int .i64 (rN s p0)))
  have y2 := (blk_cell HF.out.at0 2).trans (rfl : (_ : Option Value) = some (Value.int .i64 0))
  have y3 := (blk_cell HF.out.at0 3).trans (rfl : (_ : Option Value) = some (Value.string (rT s p1)))
  have y4 := (blk_cell HF.out.at0 4).trans (rfl : (_ : Option Value) = some (Value.int .i64 (zagI n2)))
  have y5 := (blk_cell HF.out.at0 5).trans (rfl : (_ : Option Value) = some (Value.int .i64 (zagI n3)))
  exact bodyPost_ret (res20 _ _ w.heap.size p4.1 (p4.2 == 0) (.int .u8 1) (.int .i64 (rN s p0)) (.int .i64 0) (.string (rT s p1)) (.int .i64 (zagI n2)) (.int .i64 (zagI n3)) rfl rfl rfl y0 y1 y2 y3 y4 y5) rfl ⟨by rw [HV2.out, HV3.out], HF.out.tail.tail.tail⟩
set_option maxHeartbeats 8000000 in
set_option maxRecDepth 100000 in
theorem rd2 (h : Own w0 w R) (hs : s.size < 1000000) (p : Nat) (hp : p ≤ s.size) (h0 : rdByte s p 0 = (2, p0.1, p0.2)) (p1 p2 p3 : Int × Int) (e1 : rN' s p0 = p1) (e2 : rN' s p1 = p2) (e3 : rI' s p2 = p3) (i0 : inS s p0) (i1 : inS s p1) (i2 : inS s p2) (i3 : inS s p3) :
    Calls Try.prog 20 #[.string s, .int .i64 p] w fun e w' => e = .returned (.tuple #[.agg #[.int .u8 2, .int .i64 (rN s p0), .int .i64 (rN s p1), .string ⟨#[]⟩, .int .i64 (rI s p2), .int .i64 0], .int .i64 p3.1, .bool (p3.2 == 0)]) ∧ Own w0 w' R := by
  have H := Aside0.mk (show Own w0 ((w.alloc (.cells #[.int .u8 0, .int .i64 0, .int .i64 0, .string ⟨#[]⟩, .int .i64 0, .int .i64 0] 33 (0, 0))).alloc (.cells #[.string s, .int .i64 p, .int .i64 0] 67 (0, 0))) (RA (w.heap.size + 1) s p 0 :: Blk w.heap.size (.cells #[.int .u8 0, .int .i64 0, .int .i64 0, .string ⟨#[]⟩, .int .i64 0, .int .i64 0] 33 (0, 0)) :: R) from (by have h2 := (h.alloc (.cells #[.int .u8 0, .int .i64 0, .int .i64 0, .string ⟨#[]⟩, .int .i64 0, .int .i64 0] 33 (0, 0))).alloc (.cells #[.string s, .int .i64 p, .int .i64 0] 67 (0, 0)); rwa [alloc_size] at h2))
  have HR0 := Aside0.mk h0
  have HSL := Aside0.mk (Nat.le_of_lt hs)
  have HZ := Aside0.mk (show (0 : Int) ≤ p by omega)
  have HZP := Aside0.mk (show (p : Int) ≤ s.size by omega)
  have HL0 := Aside0.mk i0.1
  have HU0 := Aside0.mk i0.2
  have HL1 := Aside0.mk i1.1
  have HU1 := Aside0.mk i1.2
  have HL2 := Aside0.mk i2.1
  have HU2 := Aside0.mk i2.2
  have HL3 := Aside0.mk i3.1
  have HU3 := Aside0.mk i3.2
  have HE0 := Aside0.mk (show rdMost s p0.1 p0.2 2147483647 = (rN s p0, p1.1, p1.2) by rw [← e1]; rfl)
  have HE1 := Aside0.mk (show rdMost s p1.1 p1.2 2147483647 = (rN s p1, p2.1, p2.2) by rw [← e2]; rfl)
  obtain ⟨n2, hn2, hr2, hv2⟩ := (rI_in i2).2
  have HN2 := Aside0.mk hn2
  have HV2 := Lib.hid hv2
  rw [e3] at hr2
  have HE2 := Aside0.mk hr2
  clear h hs hp h0 i0 i1 i2 i3 e1 e2 e3 hn2 hr2 hv2
  go_enter Try.func20, Try.ntmps20
  go_wp2_with (first
    | (go_at_call 35; ((with_reducible refine (RfByte H.out HZ.out HZP.out HSL.out _ _ _ HR0.out).mono ?_)); rintro e wb ⟨rfl, h⟩; have h := h.alloc (.cells #[.int .u8 2, .int .i64 0, .int .i64 0, .string ⟨#[]⟩, .int .i64 0, .int .i64 0] 33 (0, 0)); have ya0 := (blk_cell h.at0 0).trans rfl; have G0 := Aside0.mk h; clear h)
    | (go_at_call 36; ((with_reducible refine (RfMost G0.out.r1 HL0.out HU0.out HSL.out 2147483647 (by omega) (by omega) _ _ _ HE0.out).mono ?_)); rintro e wc0 ⟨rfl, h⟩; have h := h.r1; have zk0 := (blk_cell h.at0 1).trans rfl; have fk0 := blk_frozen h.at0 1; have h9 := h.set 1 (.int .i64 (rN s p0)); have yb0 := (blk_cell h9.at0 0).trans rfl; have G1 := Aside0.mk h9; clear h h9)
    | (go_at_call 36; ((with_reducible refine (RfMost G1.out.r1 HL1.out HU1.out HSL.out 2147483647 (by omega) (by omega) _ _ _ HE1.out).mono ?_)); rintro e wc1 ⟨rfl, h⟩; have h := h.r1; have zk1 := (blk_cell h.at0 2).trans rfl; have fk1 := blk_frozen h.at0 2; have h9 := h.set 2 (.int .i64 (rN s p1)); have yb1 := (blk_cell h9.at0 0).trans rfl; have G2 := Aside0.mk h9; clear h h9)
    | (go_at_call 39; ((with_reducible refine (RfNum G2.out.r1 HL2.out HU2.out HSL.out _ _ _ HE2.out).mono ?_)); rintro e wc2 ⟨rfl, h⟩; have h := h.r1; have zk2 := (blk_cell h.at0 4).trans rfl; have fk2 := blk_frozen h.at0 4; have h9 := h.set 4 (.int .i64 (zagI n2)); have yb2 := (blk_cell h9.at0 0).trans rfl; have G3 := Aside0.mk h9; clear h h9)
    | (go_at_call 38; ((with_reducible refine (refZag_calls n2 HN2.out (n2 : Int) rfl wc2).mono ?_)); rintro e wz ⟨rfl, rfl⟩))
  obtain ⟨W, hW⟩ : ∃ W, W = (wc2.setCell ⟨wb.heap.size, 4, none⟩ (.int .i64 (zagI n2))) := ⟨_, rfl⟩
  have hD := G3.out
  rw [← hW] at hD ⊢
  clear hW H HR0 HSL HZ HZP HL0 HU0 HL1 HU1 HL2 HU2 HL3 HU3 HE0 HE1 HE2 HN2 zk0 fk0 yb0 G0 zk1 fk1 yb1 G1 zk2 fk2 yb2 G2 ya0 G3
  have xa0 := (blk_cell hD.at0 0).trans rfl; have xa1 := (blk_cell hD.at0 1).trans rfl; have xa2 := (blk_cell hD.at0 2).trans rfl; have xa3 := (blk_cell hD.at0 3).trans rfl; have xa4 := (blk_cell hD.at0 4).trans rfl; have xa5 := (blk_cell hD.at0 5).trans rfl; have xr0 := (blk_cell hD.at1 0).trans rfl; have xr1 := (blk_cell hD.at1 1).trans rfl; have xr2 := (blk_cell hD.at1 2).trans rfl; have xz0 := (blk_cell hD.at2 0).trans rfl; have xz1 := (blk_cell hD.at2 1).trans rfl; have xz2 := (blk_cell hD.at2 2).trans rfl; have xz3 := (blk_cell hD.at2 3).trans rfl; have xz4 := (blk_cell hD.at2 4).trans rfl; have xz5 := (blk_cell hD.at2 5).trans rfl; have fz0 := blk_frozen hD.at2 0; have fz1 := blk_frozen hD.at2 1; have fz2 := blk_frozen hD.at2 2; have fz3 := blk_frozen hD.at2 3; have fz4 := blk_frozen hD.at2 4; have fz5 := blk_frozen hD.at2 5
  have hE := hD.drew
  have xd0 := (blk_cell hE.at0 0).trans rfl; have xd1 := (blk_cell hE.at0 1).trans rfl; have xd2 := (blk_cell hE.at0 2).trans rfl; have xd3 := (blk_cell hE.at0 3).trans rfl; have xd4 := (blk_cell hE.at0 4).trans rfl; have xd5 := (blk_cell hE.at0 5).trans rfl; have xe1 := (blk_cell hE.at1 1).trans rfl; have xe2 := (blk_cell hE.at1 2).trans rfl
  have HF0 := ((((((hD.r2.set 0 (.int .u8 2)).set 1 (.int .i64 (rN s p0))).set 2 (.int .i64 (rN s p1))).set 3 (.string ⟨#[]⟩)).set 4 (.int .i64 (zagI n2))).set 5 (.int .i64 0)).drew
  clear hD hE
  have xb0 := (blk_cell HF0.at1 0).trans rfl; have xb1 := (blk_cell HF0.at1 1).trans rfl; have xb2 := (blk_cell HF0.at1 2).trans rfl; have xb3 := (blk_cell HF0.at1 3).trans rfl; have xb4 := (blk_cell HF0.at1 4).trans rfl; have xb5 := (blk_cell HF0.at1 5).trans rfl; have xs1 := (blk_cell HF0.at2 1).trans rfl; have xs2 := (blk_cell HF0.at2 2).trans rfl
  have HF := Aside0.mk HF0
  clear HF0
  go_region
  go_wp2
  have y0 := (blk_cell HF.out.at0 0).trans (rfl : (_ : Option Value) = some (Value.int .u8 2))
  have y1 := (blk_cell HF.out.at0 1).trans (rfl : (_ : Option Value) = some (Value.int .i64 (rN s p0)))
  have y2 := (blk_cell HF.out.at0 2).trans (rfl : (_ : Option Value) = some (Value.int .i64 (rN s p1)))
  have y3 := (blk_cell HF.out.at0 3).trans (rfl : (_ : Option Value) = some (Value.string ⟨#[]⟩))
  have y4 := (blk_cell HF.out.at0 4).trans (rfl : (_ : Option Value) = some (Value.int .i64 (zagI n2)))
  have y5 := (blk_cell HF.out.at0 5).trans (rfl : (_ : Option Value) = some (Value.int .i64 0))
  exact bodyPost_ret (res20 _ _ w.heap.size p3.1 (p3.2 == 0) (.int .u8 2) (.int .i64 (rN s p0)) (.int .i64 (rN s p1)) (.string ⟨#[]⟩) (.int .i64 (zagI n2)) (.int .i64 0) rfl rfl rfl y0 y1 y2 y3 y4 y5) rfl ⟨by rw [HV2.out], HF.out.tail.tail.tail⟩
set_option maxHeartbeats 8000000 in
set_option maxRecDepth 100000 in
theorem rd3 (h : Own w0 w R) (hs : s.size < 1000000) (p : Nat) (hp : p ≤ s.size) (h0 : rdByte s p 0 = (3, p0.1, p0.2)) (p1 p2 : Int × Int) (e1 : rN' s p0 = p1) (e2 : rN' s p1 = p2) (i0 : inS s p0) (i1 : inS s p1) (i2 : inS s p2) :
    Calls Try.prog 20 #[.string s, .int .i64 p] w fun e w' => e = .returned (.tuple #[.agg #[.int .u8 3, .int .i64 (rN s p0), .int .i64 (rN s p1), .string ⟨#[]⟩, .int .i64 0, .int .i64 0], .int .i64 p2.1, .bool (p2.2 == 0)]) ∧ Own w0 w' R := by
  have H := Aside0.mk (show Own w0 ((w.alloc (.cells #[.int .u8 0, .int .i64 0, .int .i64 0, .string ⟨#[]⟩, .int .i64 0, .int .i64 0] 33 (0, 0))).alloc (.cells #[.string s, .int .i64 p, .int .i64 0] 67 (0, 0))) (RA (w.heap.size + 1) s p 0 :: Blk w.heap.size (.cells #[.int .u8 0, .int .i64 0, .int .i64 0, .string ⟨#[]⟩, .int .i64 0, .int .i64 0] 33 (0, 0)) :: R) from (by have h2 := (h.alloc (.cells #[.int .u8 0, .int .i64 0, .int .i64 0, .string ⟨#[]⟩, .int .i64 0, .int .i64 0] 33 (0, 0))).alloc (.cells #[.string s, .int .i64 p, .int .i64 0] 67 (0, 0)); rwa [alloc_size] at h2))
  have HR0 := Aside0.mk h0
  have HSL := Aside0.mk (Nat.le_of_lt hs)
  have HZ := Aside0.mk (show (0 : Int) ≤ p by omega)
  have HZP := Aside0.mk (show (p : Int) ≤ s.size by omega)
  have HL0 := Aside0.mk i0.1
  have HU0 := Aside0.mk i0.2
  have HL1 := Aside0.mk i1.1
  have HU1 := Aside0.mk i1.2
  have HL2 := Aside0.mk i2.1
  have HU2 := Aside0.mk i2.2
  have HE0 := Aside0.mk (show rdMost s p0.1 p0.2 2147483647 = (rN s p0, p1.1, p1.2) by rw [← e1]; rfl)
  have HE1 := Aside0.mk (show rdMost s p1.1 p1.2 2147483647 = (rN s p1, p2.1, p2.2) by rw [← e2]; rfl)
  clear h hs hp h0 i0 i1 i2 e1 e2 
  go_enter Try.func20, Try.ntmps20
  go_wp2_with (first
    | (go_at_call 35; ((with_reducible refine (RfByte H.out HZ.out HZP.out HSL.out _ _ _ HR0.out).mono ?_)); rintro e wb ⟨rfl, h⟩; have h := h.alloc (.cells #[.int .u8 3, .int .i64 0, .int .i64 0, .string ⟨#[]⟩, .int .i64 0, .int .i64 0] 33 (0, 0)); have ya0 := (blk_cell h.at0 0).trans rfl; have G0 := Aside0.mk h; clear h)
    | (go_at_call 36; ((with_reducible refine (RfMost G0.out.r1 HL0.out HU0.out HSL.out 2147483647 (by omega) (by omega) _ _ _ HE0.out).mono ?_)); rintro e wc0 ⟨rfl, h⟩; have h := h.r1; have zk0 := (blk_cell h.at0 1).trans rfl; have fk0 := blk_frozen h.at0 1; have h9 := h.set 1 (.int .i64 (rN s p0)); have yb0 := (blk_cell h9.at0 0).trans rfl; have G1 := Aside0.mk h9; clear h h9)
    | (go_at_call 36; ((with_reducible refine (RfMost G1.out.r1 HL1.out HU1.out HSL.out 2147483647 (by omega) (by omega) _ _ _ HE1.out).mono ?_)); rintro e wc1 ⟨rfl, h⟩; have h := h.r1; have zk1 := (blk_cell h.at0 2).trans rfl; have fk1 := blk_frozen h.at0 2; have h9 := h.set 2 (.int .i64 (rN s p1)); have yb1 := (blk_cell h9.at0 0).trans rfl; have G2 := Aside0.mk h9; clear h h9))
  obtain ⟨W, hW⟩ : ∃ W, W = (wc1.setCell ⟨wb.heap.size, 2, none⟩ (.int .i64 (rN s p1))) := ⟨_, rfl⟩
  have hD := G2.out
  rw [← hW] at hD ⊢
  clear hW H HR0 HSL HZ HZP HL0 HU0 HL1 HU1 HL2 HU2 HE0 HE1  zk0 fk0 yb0 G0 zk1 fk1 yb1 G1 ya0 G2
  have xa0 := (blk_cell hD.at0 0).trans rfl; have xa1 := (blk_cell hD.at0 1).trans rfl; have xa2 := (blk_cell hD.at0 2).trans rfl; have xa3 := (blk_cell hD.at0 3).trans rfl; have xa4 := (blk_cell hD.at0 4).trans rfl; have xa5 := (blk_cell hD.at0 5).trans rfl; have xr0 := (blk_cell hD.at1 0).trans rfl; have xr1 := (blk_cell hD.at1 1).trans rfl; have xr2 := (blk_cell hD.at1 2).trans rfl; have xz0 := (blk_cell hD.at2 0).trans rfl; have xz1 := (blk_cell hD.at2 1).trans rfl; have xz2 := (blk_cell hD.at2 2).trans rfl; have xz3 := (blk_cell hD.at2 3).trans rfl; have xz4 := (blk_cell hD.at2 4).trans rfl; have xz5 := (blk_cell hD.at2 5).trans rfl; have fz0 := blk_frozen hD.at2 0; have fz1 := blk_frozen hD.at2 1; have fz2 := blk_frozen hD.at2 2; have fz3 := blk_frozen hD.at2 3; have fz4 := blk_frozen hD.at2 4; have fz5 := blk_frozen hD.at2 5
  have hE := hD.drew
  have xd0 := (blk_cell hE.at0 0).trans rfl; have xd1 := (blk_cell hE.at0 1).trans rfl; have xd2 := (blk_cell hE.at0 2).trans rfl; have xd3 := (blk_cell hE.at0 3).trans rfl; have xd4 := (blk_cell hE.at0 4).trans rfl; have xd5 := (blk_cell hE.at0 5).trans rfl; have xe1 := (blk_cell hE.at1 1).trans rfl; have xe2 := (blk_cell hE.at1 2).trans rfl
  have HF0 := ((((((hD.r2.set 0 (.int .u8 3)).set 1 (.int .i64 (rN s p0))).set 2 (.int .i64 (rN s p1))).set 3 (.string ⟨#[]⟩)).set 4 (.int .i64 0)).set 5 (.int .i64 0)).drew
  clear hD hE
  have xb0 := (blk_cell HF0.at1 0).trans rfl; have xb1 := (blk_cell HF0.at1 1).trans rfl; have xb2 := (blk_cell HF0.at1 2).trans rfl; have xb3 := (blk_cell HF0.at1 3).trans rfl; have xb4 := (blk_cell HF0.at1 4).trans rfl; have xb5 := (blk_cell HF0.at1 5).trans rfl; have xs1 := (blk_cell HF0.at2 1).trans rfl; have xs2 := (blk_cell HF0.at2 2).trans rfl
  have HF := Aside0.mk HF0
  clear HF0
  go_region
  go_wp2
  have y0 := (blk_cell HF.out.at0 0).trans (rfl : (_ : Option Value) = some (Value.int .u8 3))
  have y1 := (blk_cell HF.out.at0 1).trans (rfl : (_ : Option Value) = some (Value.int .i64 (rN s p0)))
  have y2 := (blk_cell HF.out.at0 2).trans (rfl : (_ : Option Value) = some (Value.int .i64 (rN s p1)))
  have y3 := (blk_cell HF.out.at0 3).trans (rfl : (_ : Option Value) = some (Value.string ⟨#[]⟩))
  have y4 := (blk_cell HF.out.at0 4).trans (rfl : (_ : Option Value) = some (Value.int .i64 0))
  have y5 := (blk_cell HF.out.at0 5).trans (rfl : (_ : Option Value) = some (Value.int .i64 0))
  exact bodyPost_ret (res20 _ _ w.heap.size p2.1 (p2.2 == 0) (.int .u8 3) (.int .i64 (rN s p0)) (.int .i64 (rN s p1)) (.string ⟨#[]⟩) (.int .i64 0) (.int .i64 0) rfl rfl rfl y0 y1 y2 y3 y4 y5) rfl ⟨rfl, HF.out.tail.tail.tail⟩
set_option maxHeartbeats 8000000 in
set_option maxRecDepth 100000 in
theorem rd4 (h : Own w0 w R) (hs : s.size < 1000000) (p : Nat) (hp : p ≤ s.size) (k : Int) (hk : 4 ≤ k) (hk8 : k ≤ 8) (h0 : rdByte s p 0 = (k, p0.1, p0.2)) (p1 : Int × Int) (e1 : rN' s p0 = p1) (i0 : inS s p0) (i1 : inS s p1) :
    Calls Try.prog 20 #[.string s, .int .i64 p] w fun e w' => e = .returned (.tuple #[.agg #[.int .u8 k, .int .i64 (rN s p0), .int .i64 0, .string ⟨#[]⟩, .int .i64 0, .int .i64 0], .int .i64 p1.1, .bool (p1.2 == 0)]) ∧ Own w0 w' R := by
  have k1 : decide (k < 1) = false := decide_eq_false (by omega)
  have k2 : decide (k > 8) = false := decide_eq_false (by omega)
  have k2' : decide (8 < k) = false := decide_eq_false (by omega)
  have q1 : (k == 1) = false := beq_eq_false_iff_ne.2 (by omega)
  have q2 : (k == 2) = false := beq_eq_false_iff_ne.2 (by omega)
  have q3 : (k == 3) = false := beq_eq_false_iff_ne.2 (by omega)
  clear hk hk8
  have H := Aside0.mk (show Own w0 ((w.alloc (.cells #[.int .u8 0, .int .i64 0, .int .i64 0, .string ⟨#[]⟩, .int .i64 0, .int .i64 0] 33 (0, 0))).alloc (.cells #[.string s, .int .i64 p, .int .i64 0] 67 (0, 0))) (RA (w.heap.size + 1) s p 0 :: Blk w.heap.size (.cells #[.int .u8 0, .int .i64 0, .int .i64 0, .string ⟨#[]⟩, .int .i64 0, .int .i64 0] 33 (0, 0)) :: R) from (by have h2 := (h.alloc (.cells #[.int .u8 0, .int .i64 0, .int .i64 0, .string ⟨#[]⟩, .int .i64 0, .int .i64 0] 33 (0, 0))).alloc (.cells #[.string s, .int .i64 p, .int .i64 0] 67 (0, 0)); rwa [alloc_size] at h2))
  have HR0 := Aside0.mk h0
  have HSL := Aside0.mk (Nat.le_of_lt hs)
  have HZ := Aside0.mk (show (0 : Int) ≤ p by omega)
  have HZP := Aside0.mk (show (p : Int) ≤ s.size by omega)
  have HL0 := Aside0.mk i0.1
  have HU0 := Aside0.mk i0.2
  have HL1 := Aside0.mk i1.1
  have HU1 := Aside0.mk i1.2
  have HE0 := Aside0.mk (show rdMost s p0.1 p0.2 2147483647 = (rN s p0, p1.1, p1.2) by rw [← e1]; rfl)
  clear h hs hp h0 i0 i1 e1 
  go_enter Try.func20, Try.ntmps20
  go_wp2_with (first
    | (go_at_call 35; ((with_reducible refine (RfByte H.out HZ.out HZP.out HSL.out _ _ _ HR0.out).mono ?_)); rintro e wb ⟨rfl, h⟩; have h := h.alloc (.cells #[.int .u8 k, .int .i64 0, .int .i64 0, .string ⟨#[]⟩, .int .i64 0, .int .i64 0] 33 (0, 0)); have ya0 := (blk_cell h.at0 0).trans rfl; have G0 := Aside0.mk h; clear h)
    | (go_at_call 36; ((with_reducible refine (RfMost G0.out.r1 HL0.out HU0.out HSL.out 2147483647 (by omega) (by omega) _ _ _ HE0.out).mono ?_)); rintro e wc0 ⟨rfl, h⟩; have h := h.r1; have zk0 := (blk_cell h.at0 1).trans rfl; have fk0 := blk_frozen h.at0 1; have h9 := h.set 1 (.int .i64 (rN s p0)); have yb0 := (blk_cell h9.at0 0).trans rfl; have G1 := Aside0.mk h9; clear h h9))
  obtain ⟨W, hW⟩ : ∃ W, W = (wc0.setCell ⟨wb.heap.size, 1, none⟩ (.int .i64 (rN s p0))) := ⟨_, rfl⟩
  have hD := G1.out
  rw [← hW] at hD ⊢
  clear hW H HR0 HSL HZ HZP HL0 HU0 HL1 HU1 HE0  zk0 fk0 yb0 G0 ya0 G1
  have xa0 := (blk_cell hD.at0 0).trans rfl; have xa1 := (blk_cell hD.at0 1).trans rfl; have xa2 := (blk_cell hD.at0 2).trans rfl; have xa3 := (blk_cell hD.at0 3).trans rfl; have xa4 := (blk_cell hD.at0 4).trans rfl; have xa5 := (blk_cell hD.at0 5).trans rfl; have xr0 := (blk_cell hD.at1 0).trans rfl; have xr1 := (blk_cell hD.at1 1).trans rfl; have xr2 := (blk_cell hD.at1 2).trans rfl; have xz0 := (blk_cell hD.at2 0).trans rfl; have xz1 := (blk_cell hD.at2 1).trans rfl; have xz2 := (blk_cell hD.at2 2).trans rfl; have xz3 := (blk_cell hD.at2 3).trans rfl; have xz4 := (blk_cell hD.at2 4).trans rfl; have xz5 := (blk_cell hD.at2 5).trans rfl; have fz0 := blk_frozen hD.at2 0; have fz1 := blk_frozen hD.at2 1; have fz2 := blk_frozen hD.at2 2; have fz3 := blk_frozen hD.at2 3; have fz4 := blk_frozen hD.at2 4; have fz5 := blk_frozen hD.at2 5
  have hE := hD.drew
  have xd0 := (blk_cell hE.at0 0).trans rfl; have xd1 := (blk_cell hE.at0 1).trans rfl; have xd2 := (blk_cell hE.at0 2).trans rfl; have xd3 := (blk_cell hE.at0 3).trans rfl; have xd4 := (blk_cell hE.at0 4).trans rfl; have xd5 := (blk_cell hE.at0 5).trans rfl; have xe1 := (blk_cell hE.at1 1).trans rfl; have xe2 := (blk_cell hE.at1 2).trans rfl
  have HF0 := ((((((hD.r2.set 0 (.int .u8 k)).set 1 (.int .i64 (rN s p0))).set 2 (.int .i64 0)).set 3 (.string ⟨#[]⟩)).set 4 (.int .i64 0)).set 5 (.int .i64 0)).drew
  clear hD hE
  have xb0 := (blk_cell HF0.at1 0).trans rfl; have xb1 := (blk_cell HF0.at1 1).trans rfl; have xb2 := (blk_cell HF0.at1 2).trans rfl; have xb3 := (blk_cell HF0.at1 3).trans rfl; have xb4 := (blk_cell HF0.at1 4).trans rfl; have xb5 := (blk_cell HF0.at1 5).trans rfl; have xs1 := (blk_cell HF0.at2 1).trans rfl; have xs2 := (blk_cell HF0.at2 2).trans rfl
  have HF := Aside0.mk HF0
  clear HF0
  go_region
  go_wp2
  have y0 := (blk_cell HF.out.at0 0).trans (rfl : (_ : Option Value) = some (Value.int .u8 k))
  have y1 := (blk_cell HF.out.at0 1).trans (rfl : (_ : Option Value) = some (Value.int .i64 (rN s p0)))
  have y2 := (blk_cell HF.out.at0 2).trans (rfl : (_ : Option Value) = some (Value.int .i64 0))
  have y3 := (blk_cell HF.out.at0 3).trans (rfl : (_ : Option Value) = some (Value.string ⟨#[]⟩))
  have y4 := (blk_cell HF.out.at0 4).trans (rfl : (_ : Option Value) = some (Value.int .i64 0))
  have y5 := (blk_cell HF.out.at0 5).trans (rfl : (_ : Option Value) = some (Value.int .i64 0))
  exact bodyPost_ret (res20 _ _ w.heap.size p1.1 (p1.2 == 0) (.int .u8 k) (.int .i64 (rN s p0)) (.int .i64 0) (.string ⟨#[]⟩) (.int .i64 0) (.int .i64 0) rfl rfl rfl y0 y1 y2 y3 y4 y5) rfl ⟨rfl, HF.out.tail.tail.tail⟩
set_option maxHeartbeats 8000000 in
set_option maxRecDepth 100000 in
theorem rd0a (h : Own w0 w R) (hs : s.size < 1000000) (p : Nat) (hp : p ≤ s.size) (k : Int) (hk : k < 1) (h0 : rdByte s p 0 = (k, p0.1, p0.2)) :
    Calls Try.prog 20 #[.string s, .int .i64 p] w fun e w' => e = .returned (.tuple #[.agg #[.int .u8 0, .int .i64 0, .int .i64 0, .string ⟨#[]⟩, .int .i64 0, .int .i64 0], .int .i64 p, .bool false]) ∧ Own w0 w' R := by
  have k1 : decide (k < 1) = true := decide_eq_true hk
  have H := Aside0.mk (show Own w0 ((w.alloc (.cells #[.int .u8 0, .int .i64 0, .int .i64 0, .string ⟨#[]⟩, .int .i64 0, .int .i64 0] 33 (0, 0))).alloc (.cells #[.string s, .int .i64 p, .int .i64 0] 67 (0, 0))) (RA (w.heap.size + 1) s p 0 :: Blk w.heap.size (.cells #[.int .u8 0, .int .i64 0, .int .i64 0, .string ⟨#[]⟩, .int .i64 0, .int .i64 0] 33 (0, 0)) :: R) from (by have h2 := (h.alloc (.cells #[.int .u8 0, .int .i64 0, .int .i64 0, .string ⟨#[]⟩, .int .i64 0, .int .i64 0] 33 (0, 0))).alloc (.cells #[.string s, .int .i64 p, .int .i64 0] 67 (0, 0)); rwa [alloc_size] at h2))
  have HR0 := Aside0.mk h0
  have HSL := Aside0.mk (Nat.le_of_lt hs)
  have HZ := Aside0.mk (show (0 : Int) ≤ p by omega)
  have HZP := Aside0.mk (show (p : Int) ≤ s.size by omega)
  clear h hs hp h0 hk
  go_enter Try.func20, Try.ntmps20
  go_wp2_with ((go_at_call 35; ((with_reducible refine (RfByte H.out HZ.out HZP.out HSL.out _ _ _ HR0.out).mono ?_)); rintro e wb ⟨rfl, h⟩; have h := h.alloc (.cells #[.int .u8 k, .int .i64 0, .int .i64 0, .string ⟨#[]⟩, .int .i64 0, .int .i64 0] 33 (0, 0)); have ya0 := (blk_cell h.at0 0).trans rfl; have xz0 := (blk_cell h.at2 0).trans rfl; have xz1 := (blk_cell h.at2 1).trans rfl; have xz2 := (blk_cell h.at2 2).trans rfl; have xz3 := (blk_cell h.at2 3).trans rfl; have xz4 := (blk_cell h.at2 4).trans rfl; have xz5 := (blk_cell h.at2 5).trans rfl; have fz0 := blk_frozen h.at2 0; have fz1 := blk_frozen h.at2 1; have fz2 := blk_frozen h.at2 2; have fz3 := blk_frozen h.at2 3; have fz4 := blk_frozen h.at2 4; have fz5 := blk_frozen h.at2 5; have G0 := Aside0.mk h; clear h))
  have HF := ((((((G0.out.r2.set 0 (.int .u8 0)).set 1 (.int .i64 0)).set 2 (.int .i64 0)).set 3 (.string ⟨#[]⟩)).set 4 (.int .i64 0)).set 5 (.int .i64 0))
  exact bodyPost_ret (res20 _ _ _ _ _ _ _ _ _ _ _ rfl rfl rfl ((blk_cell HF.at0 0).trans rfl) ((blk_cell HF.at0 1).trans rfl) ((blk_cell HF.at0 2).trans rfl) ((blk_cell HF.at0 3).trans rfl) ((blk_cell HF.at0 4).trans rfl) ((blk_cell HF.at0 5).trans rfl)) rfl ⟨rfl, HF.tail.tail.tail⟩
set_option maxHeartbeats 8000000 in
set_option maxRecDepth 100000 in
theorem rd0b (h : Own w0 w R) (hs : s.size < 1000000) (p : Nat) (hp : p ≤ s.size) (k : Int) (hk : 8 < k) (h0 : rdByte s p 0 = (k, p0.1, p0.2)) :
    Calls Try.prog 20 #[.string s, .int .i64 p] w fun e w' => e = .returned (.tuple #[.agg #[.int .u8 0, .int .i64 0, .int .i64 0, .string ⟨#[]⟩, .int .i64 0, .int .i64 0], .int .i64 p, .bool false]) ∧ Own w0 w' R := by
  have k1 : decide (k < 1) = false := decide_eq_false (by omega)
  have k2 : decide (k > 8) = true := decide_eq_true hk
  have k2' : decide (8 < k) = true := decide_eq_true hk
  have H := Aside0.mk (show Own w0 ((w.alloc (.cells #[.int .u8 0, .int .i64 0, .int .i64 0, .string ⟨#[]⟩, .int .i64 0, .int .i64 0] 33 (0, 0))).alloc (.cells #[.string s, .int .i64 p, .int .i64 0] 67 (0, 0))) (RA (w.heap.size + 1) s p 0 :: Blk w.heap.size (.cells #[.int .u8 0, .int .i64 0, .int .i64 0, .string ⟨#[]⟩, .int .i64 0, .int .i64 0] 33 (0, 0)) :: R) from (by have h2 := (h.alloc (.cells #[.int .u8 0, .int .i64 0, .int .i64 0, .string ⟨#[]⟩, .int .i64 0, .int .i64 0] 33 (0, 0))).alloc (.cells #[.string s, .int .i64 p, .int .i64 0] 67 (0, 0)); rwa [alloc_size] at h2))
  have HR0 := Aside0.mk h0
  have HSL := Aside0.mk (Nat.le_of_lt hs)
  have HZ := Aside0.mk (show (0 : Int) ≤ p by omega)
  have HZP := Aside0.mk (show (p : Int) ≤ s.size by omega)
  clear h hs hp h0 hk
  go_enter Try.func20, Try.ntmps20
  go_wp2_with ((go_at_call 35; ((with_reducible refine (RfByte H.out HZ.out HZP.out HSL.out _ _ _ HR0.out).mono ?_)); rintro e wb ⟨rfl, h⟩; have h := h.alloc (.cells #[.int .u8 k, .int .i64 0, .int .i64 0, .string ⟨#[]⟩, .int .i64 0, .int .i64 0] 33 (0, 0)); have ya0 := (blk_cell h.at0 0).trans rfl; have xz0 := (blk_cell h.at2 0).trans rfl; have xz1 := (blk_cell h.at2 1).trans rfl; have xz2 := (blk_cell h.at2 2).trans rfl; have xz3 := (blk_cell h.at2 3).trans rfl; have xz4 := (blk_cell h.at2 4).trans rfl; have xz5 := (blk_cell h.at2 5).trans rfl; have fz0 := blk_frozen h.at2 0; have fz1 := blk_frozen h.at2 1; have fz2 := blk_frozen h.at2 2; have fz3 := blk_frozen h.at2 3; have fz4 := blk_frozen h.at2 4; have fz5 := blk_frozen h.at2 5; have G0 := Aside0.mk h; clear h))
  have HF := ((((((G0.out.r2.set 0 (.int .u8 0)).set 1 (.int .i64 0)).set 2 (.int .i64 0)).set 3 (.string ⟨#[]⟩)).set 4 (.int .i64 0)).set 5 (.int .i64 0))
  exact bodyPost_ret (res20 _ _ _ _ _ _ _ _ _ _ _ rfl rfl rfl ((blk_cell HF.at0 0).trans rfl) ((blk_cell HF.at0 1).trans rfl) ((blk_cell HF.at0 2).trans rfl) ((blk_cell HF.at0 3).trans rfl) ((blk_cell HF.at0 4).trans rfl) ((blk_cell HF.at0 5).trans rfl)) rfl ⟨rfl, HF.tail.tail.tail⟩
end

/-- What the document's Read hands back. -/
def readP (s : ByteArray) (p : Nat) : ActS × Int × Bool :=
  if rB s (p, 0) = 1 then (⟨1, rN s (rB' s (p, 0)), 0, rT s (rN' s (rB' s (p, 0))), rI s (rT' s (rN' s (rB' s (p, 0)))), rI s (rI' s (rT' s (rN' s (rB' s (p, 0)))))⟩, (rI' s (rI' s (rT' s (rN' s (rB' s (p, 0)))))).1, (rI' s (rI' s (rT' s (rN' s (rB' s (p, 0)))))).2 == 0) else if rB s (p, 0) = 2 then (⟨2, rN s (rB' s (p, 0)), rN s (rN' s (rB' s (p, 0))), ⟨#[]⟩, rI s (rN' s (rN' s (rB' s (p, 0)))), 0⟩, (rI' s (rN' s (rN' s (rB' s (p, 0))))).1, (rI' s (rN' s (rN' s (rB' s (p, 0))))).2 == 0) else if rB s (p, 0) = 3 then (⟨3, rN s (rB' s (p, 0)), rN s (rN' s (rB' s (p, 0))), ⟨#[]⟩, 0, 0⟩, (rN' s (rN' s (rB' s (p, 0)))).1, (rN' s (rN' s (rB' s (p, 0)))).2 == 0) else if 4 ≤ rB s (p, 0) ∧ rB s (p, 0) ≤ 8 then (⟨rB s (p, 0), rN s (rB' s (p, 0)), 0, ⟨#[]⟩, 0, 0⟩, (rN' s (rB' s (p, 0))).1, (rN' s (rB' s (p, 0))).2 == 0) else (⟨0, 0, 0, ⟨#[]⟩, 0, 0⟩, p, false)
theorem refReadF {w0 w : World} {R : List Asn} {s : ByteArray} (h : Own w0 w R) (hs : s.size < 1000000) (p : Nat) (hp : p ≤ s.size) (a : ActS) (m : Int) (b : Bool) (hr : readP s p = (a, m, b)) :
    Calls Try.prog 20 #[.string s, .int .i64 p] w fun e w' => e = .returned (.tuple #[.agg #[.int .u8 a.f0, .int .i64 a.f1, .int .i64 a.f2, .string a.f3, .int .i64 a.f4, .int .i64 a.f5], .int .i64 m, .bool b]) ∧ Own w0 w' R := by
  have q0 : inS s (rB' s (p, 0)) := rB_in ⟨by simp only; omega, by simp only; omega⟩
  have hb : rdByte s p 0 = (rB s (p, 0), (rB' s (p, 0)).1, (rB' s (p, 0)).2) := rfl
  unfold readP at hr
  by_cases c1 : rB s (p, 0) = 1
  · rw [if_pos c1] at hr
    simp only [Prod.mk.injEq] at hr
    obtain ⟨rfl, rfl, rfl⟩ := hr
    rw [c1] at hb
    have q1 := rN_in q0
    have q2 := rT_in hs q1
    have q3 := (rI_in q2).1
    exact rd1 h hs p hp hb _ _ _ _ rfl rfl rfl rfl q0 q1 q2 q3 (rI_in q3).1
  rw [if_neg c1] at hr
  by_cases c2 : rB s (p, 0) = 2
  · rw [if_pos c2] at hr
    simp only [Prod.mk.injEq] at hr
    obtain ⟨rfl, rfl, rfl⟩ := hr
    rw [c2] at hb
    have q1 := rN_in q0
    have q2 := rN_in q1
    exact rd2 h hs p hp hb _ _ _ rfl rfl rfl q0 q1 q2 (rI_in q2).1
  rw [if_neg c2] at hr
  by_cases c3 : rB s (p, 0) = 3
  · rw [if_pos c3] at hr
    simp only [Prod.mk.injEq] at hr
    obtain ⟨rfl, rfl, rfl⟩ := hr
    rw [c3] at hb
    have q1 := rN_in q0
    exact rd3 h hs p hp hb _ _ rfl rfl q0 q1 (rN_in q1)
  rw [if_neg c3] at hr
  by_cases c4 : 4 ≤ rB s (p, 0) ∧ rB s (p, 0) ≤ 8
  · rw [if_pos c4] at hr
    simp only [Prod.mk.injEq] at hr
    obtain ⟨rfl, rfl, rfl⟩ := hr
    exact rd4 h hs p hp _ c4.1 c4.2 hb _ rfl q0 (rN_in q0)
  rw [if_neg c4] at hr
  simp only [Prod.mk.injEq] at hr
  obtain ⟨rfl, rfl, rfl⟩ := hr
  by_cases c5 : rB s (p, 0) < 1
  · exact rd0a h hs p hp _ c5 hb
  · exact rd0b h hs p hp _ (by omega) hb
theorem rB_at {s : ByteArray} {A R : List Int} {b : Int} (h : bytesOf s = A ++ [b] ++ R) : rB s (((A.length : Nat) : Int), 0) = b ∧ rB' s (((A.length : Nat) : Int), 0) = (((A ++ [b]).length : Int), 0) := by
  have hl : s.size = A.length + 1 + R.length := by rw [← bytesOf_length, h]; simp; omega
  have hb : ((byteN s A.length : Nat) : Int) = b := by rw [byteN_list, h]; simp
  have e : rdByte s (A.length : Int) 0 = (b, (A.length : Int) + 1, 0) := by
    unfold rdByte byteR
    rw [if_neg (by simp), Int.toNat_natCast, if_neg (by omega), hb]
    rfl
  unfold rB rB'
  simp only
  rw [e, List.length_append]
  exact ⟨rfl, rfl⟩
theorem rB_atback {s : ByteArray} {A : List Int} (h : Tk s A ((A.length : Int), 0)) (h2 : (rB' s ((A.length : Int), 0)).2 = 0) : Tk s (A ++ [rB s ((A.length : Int), 0)]) (rB' s ((A.length : Int), 0)) := by
  obtain ⟨_, h1, ht⟩ := h
  unfold rB' rB at *
  rcases byte_back s A.length h1 with ⟨b, hb, e⟩ | ⟨m, _, _, e, hl, ht2⟩
  · simp only at h2
    rw [e] at h2
    exact absurd h2 hb
  · simp only
    rw [e]
    exact ⟨by rw [List.length_append], by rw [List.length_append]; exact hl, by rw [List.length_append, ht2, ht]⟩
theorem encA_small (k n : Int) (h4 : 4 ≤ k) (h8 : k ≤ 8) (f2 : Int) (f3 : ByteArray) (f4 f5 : Int) : encA ⟨k, n, f2, f3, f4, f5⟩ = [] ++ [k] ++ numB (uN n) := by
  have : k = 4 ∨ k = 5 ∨ k = 6 ∨ k = 7 ∨ k = 8 := by omega
  unfold encA encF
  rcases this with rfl | rfl | rfl | rfl | rfl <;> rfl
theorem okA_small (k n : Int) (h4 : 4 ≤ k) (h8 : k ≤ 8) (f2 : Int) (f3 : ByteArray) (f4 f5 : Int) : okA ⟨k, n, f2, f3, f4, f5⟩ = ((true && numOk n) && ((f2 == 0) && ((f3.toList == []) && ((f4 == 0) && (f5 == 0))))) := by
  have : k = 4 ∨ k = 5 ∨ k = 6 ∨ k = 7 ∨ k = 8 := by omega
  unfold okA okF
  rcases this with rfl | rfl | rfl | rfl | rfl <;> rfl
theorem okA_kind (a : ActS) (h : okA a = true) : 1 ≤ a.f0 ∧ a.f0 ≤ 8 := by
  obtain ⟨f0, f1, f2, f3, f4, f5⟩ := a
  unfold okA okF at h
  simp only at h ⊢
  by_cases c : 1 ≤ f0 ∧ f0 ≤ 8
  · exact c
  · rw [if_neg (by omega), if_neg (by omega), if_neg (by omega), if_neg (by omega), if_neg (by omega), if_neg (by omega), if_neg (by omega), if_neg (by omega)] at h
    exact absurd h (by simp)
/-- An act that stands at a place is read there. -/
theorem readP_enc {s : ByteArray} {a : ActS} {A R : List Int} (hs : s.size < 1000000) (ha : actIn a) (ho : okA a = true) (h : bytesOf s = A ++ encA a ++ R) : readP s A.length = (a, ((A.length + (encA a).length : Nat) : Int), true) := by
  have hkind := okA_kind a ho
  obtain ⟨f0, f1, f2, f3, f4, f5⟩ := a
  obtain ⟨⟨i4, j4⟩, ⟨i5, j5⟩, _⟩ := ha
  simp only at i4 j4 i5 j5 hkind
  by_cases c1 : f0 = 1
  · subst c1
    unfold okA okF at ho
    simp only [if_pos] at ho
    simp only [Bool.true_and, Bool.and_eq_true, beq_iff_eq, numOk, textOk, decide_eq_true_eq] at ho
    obtain ⟨⟨⟨n0, n1⟩, ht⟩, rfl⟩ := ho
    have hu := uN_of f1 n0 (by omega)
    have he : encA ⟨1, f1, 0, f3, f4, f5⟩ = [1] ++ numB (uN f1) ++ (numB f3.size ++ bytesOf f3) ++ numB (zigN f4) ++ numB (zigN f5) := rfl
    rw [he] at h ⊢
    have q4 : bytesOf s = A ++ [1] ++ numB (uN f1) ++ (numB f3.size ++ bytesOf f3) ++ numB (zigN f4) ++ numB (zigN f5) ++ R := by rw [h]; simp only [List.append_assoc]
    have q3 := q4; rw [List.append_assoc (bs := numB (zigN f5))] at q3
    have q2 := q3; rw [List.append_assoc (bs := numB (zigN f4))] at q2
    have q1 := q2; rw [List.append_assoc (bs := numB f3.size ++ bytesOf f3)] at q1
    have q0 := q1; rw [List.append_assoc (bs := numB (uN f1))] at q0
    have r0 := rB_at q0
    have r1 := rN_read (n := uN f1) (by omega) q1
    have r2 := rT_read hs ht q2
    have r3 := rI_read i4 j4 q3
    have r4 := rI_read i5 j5 q4
    unfold readP
    rw [r0.1, if_pos rfl, r0.2, r1.1, r1.2, r2.1, r2.2, r3.1, r3.2, r4.1, r4.2, hu]
    simp only [Prod.mk.injEq, List.length_append]
    refine ⟨trivial, by omega, rfl⟩
  by_cases c2 : f0 = 2
  · subst c2
    unfold okA okF at ho
    simp only [if_pos] at ho
    rw [if_neg (by omega)] at ho
    simp only [Bool.true_and, Bool.and_eq_true, beq_iff_eq, numOk, textOk, decide_eq_true_eq] at ho
    obtain ⟨⟨⟨n0, n1⟩, m0, m1⟩, ht, rfl⟩ := ho
    have hu := uN_of f1 n0 (by omega)
    have hu2 := uN_of f2 m0 (by omega)
    obtain rfl := empty_of (t := f3) (by rw [ht]; rfl)
    have he : encA ⟨2, f1, f2, ⟨#[]⟩, f4, 0⟩ = [2] ++ numB (uN f1) ++ numB (uN f2) ++ numB (zigN f4) := rfl
    rw [he] at h ⊢
    have q3 : bytesOf s = A ++ [2] ++ numB (uN f1) ++ numB (uN f2) ++ numB (zigN f4) ++ R := by rw [h]; simp only [List.append_assoc]
    have q2 := q3; rw [List.append_assoc (bs := numB (zigN f4))] at q2
    have q1 := q2; rw [List.append_assoc (bs := numB (uN f2))] at q1
    have q0 := q1; rw [List.append_assoc (bs := numB (uN f1))] at q0
    have r0 := rB_at q0
    have r1 := rN_read (n := uN f1) (by omega) q1
    have r2 := rN_read (n := uN f2) (by omega) q2
    have r3 := rI_read i4 j4 q3
    unfold readP
    rw [r0.1, if_neg (by omega), if_pos rfl, r0.2, r1.1, r1.2, r2.1, r2.2, r3.1, r3.2, hu, hu2]
    simp only [Prod.mk.injEq, List.length_append]
    refine ⟨trivial, by omega, rfl⟩
  by_cases c3 : f0 = 3
  · subst c3
    unfold okA okF at ho
    simp only [if_pos] at ho
    rw [if_neg (by omega), if_neg (by omega)] at ho
    simp only [Bool.true_and, Bool.and_eq_true, beq_iff_eq, numOk, textOk, decide_eq_true_eq] at ho
    obtain ⟨⟨⟨n0, n1⟩, m0, m1⟩, ht, rfl, rfl⟩ := ho
    have hu := uN_of f1 n0 (by omega)
    have hu2 := uN_of f2 m0 (by omega)
    obtain rfl := empty_of (t := f3) (by rw [ht]; rfl)
    have he : encA ⟨3, f1, f2, ⟨#[]⟩, 0, 0⟩ = [3] ++ numB (uN f1) ++ numB (uN f2) := rfl
    rw [he] at h ⊢
    have q2 : bytesOf s = A ++ [3] ++ numB (uN f1) ++ numB (uN f2) ++ R := by rw [h]; simp only [List.append_assoc]
    have q1 := q2; rw [List.append_assoc (bs := numB (uN f2))] at q1
    have q0 := q1; rw [List.append_assoc (bs := numB (uN f1))] at q0
    have r0 := rB_at q0
    have r1 := rN_read (n := uN f1) (by omega) q1
    have r2 := rN_read (n := uN f2) (by omega) q2
    unfold readP
    rw [r0.1, if_neg (by omega), if_neg (by omega), if_pos rfl, r0.2, r1.1, r1.2, r2.1, r2.2, hu, hu2]
    simp only [Prod.mk.injEq, List.length_append]
    refine ⟨trivial, by omega, rfl⟩
  have k4 : 4 ≤ f0 := by omega
  rw [okA_small f0 f1 k4 hkind.2] at ho
  simp only [Bool.true_and, Bool.and_eq_true, beq_iff_eq, numOk, decide_eq_true_eq] at ho
  obtain ⟨⟨n0, n1⟩, rfl, ht, rfl, rfl⟩ := ho
  have hu := uN_of f1 n0 (by omega)
  obtain rfl := empty_of (t := f3) (by rw [ht]; rfl)
  rw [encA_small f0 f1 k4 hkind.2, List.nil_append] at h ⊢
  have q1 : bytesOf s = A ++ [f0] ++ numB (uN f1) ++ R := by rw [h]; simp only [List.append_assoc]
  have q0 := q1; rw [List.append_assoc (bs := numB (uN f1))] at q0
  have r0 := rB_at q0
  have r1 := rN_read (n := uN f1) (by omega) q1
  unfold readP
  rw [r0.1, if_neg (by omega), if_neg (by omega), if_neg (by omega), if_pos ⟨k4, hkind.2⟩, r0.2, r1.1, r1.2, hu]
  simp only [Prod.mk.injEq, List.length_append]
  refine ⟨trivial, by omega, rfl⟩
/-- What is read at a place stands there. -/
theorem readP_back {s : ByteArray} {a : ActS} {m : Int} {A : List Int} (hs : s.size < 1000000) (hA : Tk s A ((A.length : Int), 0)) (h : readP s A.length = (a, m, true)) : okA a = true ∧ actIn a ∧ m = ((A.length + (encA a).length : Nat) : Int) ∧ A.length + (encA a).length ≤ s.size ∧ (bytesOf s).take (A.length + (encA a).length) = A ++ encA a := by
  have fin : ∀ (X : List Int) (q : Int × Int), Tk s (A ++ X) q → q.1 = ((A.length + X.length : Nat) : Int) ∧ A.length + X.length ≤ s.size ∧ (bytesOf s).take (A.length + X.length) = A ++ X := fun X q ⟨h1, h2, h3⟩ => by
    rw [List.length_append] at h1 h2 h3
    exact ⟨by rw [h1], h2, h3⟩
  have q0 : inS s (rB' s ((A.length : Int), 0)) := rB_in hA.inS
  unfold readP at h
  by_cases c1 : rB s ((A.length : Int), 0) = 1
  · rw [if_pos c1] at h
    simp only [Prod.mk.injEq, beq_iff_eq] at h
    obtain ⟨rfl, rfl, z4⟩ := h
    have q1 := rN_in q0
    have q2 := rT_in hs q1
    have q3 := (rI_in q2).1
    have z3 := (rI_mono q3 z4).1
    have z2 := (rI_mono q2 z3).1
    have z1 := (rT_mono hs q1 z2).1
    have z0 := (rN_mono q0 z1).1
    have t0 := rB_atback hA z0
    rw [c1] at t0
    obtain ⟨n, hn, e1, t1⟩ := rN_back t0 z1
    obtain ⟨ht, t2⟩ := rT_back hs t1 z2
    obtain ⟨h4, t3⟩ := rI_back t2 z3
    obtain ⟨h5, t4⟩ := rI_back t3 z4
    rw [e1]
    generalize rI s (rI' s (rT' s (rN' s (rB' s ((A.length : Int), 0))))) = y5 at *
    generalize rI s (rT' s (rN' s (rB' s ((A.length : Int), 0)))) = y4 at *
    generalize rT s (rN' s (rB' s ((A.length : Int), 0))) = y3 at *
    have he : encA ⟨1, (n : Int), 0, y3, y4, y5⟩ = [1] ++ numB n ++ (numB y3.size ++ bytesOf y3) ++ numB (zigN y4) ++ numB (zigN y5) := by
      unfold encA encF
      simp only
      rw [if_pos trivial, uN_nat n hn, List.nil_append]
    rw [he]
    have tf := fin ([1] ++ numB n ++ (numB y3.size ++ bytesOf y3) ++ numB (zigN y4) ++ numB (zigN y5)) _ (by simpa only [List.append_assoc] using t4)
    refine ⟨?_, ⟨h4, h5, by simp only; omega⟩, tf.1, tf.2.1, tf.2.2⟩
    unfold okA okF
    simp only
    rw [if_pos trivial, numOk_nat n hn, show textOk _ = true from decide_eq_true ht]
    rfl
  rw [if_neg c1] at h
  by_cases c2 : rB s ((A.length : Int), 0) = 2
  · rw [if_pos c2] at h
    simp only [Prod.mk.injEq, beq_iff_eq] at h
    obtain ⟨rfl, rfl, z3⟩ := h
    have q1 := rN_in q0
    have q2 := rN_in q1
    have z2 := (rI_mono q2 z3).1
    have z1 := (rN_mono q1 z2).1
    have z0 := (rN_mono q0 z1).1
    have t0 := rB_atback hA z0
    rw [c2] at t0
    obtain ⟨n, hn, e1, t1⟩ := rN_back t0 z1
    obtain ⟨n2, hn2, e2, t2⟩ := rN_back t1 z2
    obtain ⟨h4, t3⟩ := rI_back t2 z3
    rw [e1, e2]
    generalize rI s (rN' s (rN' s (rB' s ((A.length : Int), 0)))) = y4 at *
    have he : encA ⟨2, (n : Int), (n2 : Int), ⟨#[]⟩, y4, 0⟩ = [2] ++ numB n ++ numB n2 ++ numB (zigN y4) := by
      unfold encA encF
      simp only
      rw [if_neg (by omega), if_pos trivial, uN_nat n hn, uN_nat n2 hn2, List.nil_append]
    rw [he]
    have tf := fin ([2] ++ numB n ++ numB n2 ++ numB (zigN y4)) _ (by simpa only [List.append_assoc] using t3)
    refine ⟨?_, ⟨h4, ⟨by show -(2^63) ≤ (0 : Int); omega, by show (0 : Int) < 2 ^ 63; omega⟩, by show (0 : Nat) < 1000000; omega⟩, tf.1, tf.2.1, tf.2.2⟩
    unfold okA okF
    simp only
    rw [if_neg (by omega), if_pos trivial, numOk_nat n hn, numOk_nat n2 hn2, toList_empty]
    rfl
  rw [if_neg c2] at h
  by_cases c3 : rB s ((A.length : Int), 0) = 3
  · rw [if_pos c3] at h
    simp only [Prod.mk.injEq, beq_iff_eq] at h
    obtain ⟨rfl, rfl, z2⟩ := h
    have q1 := rN_in q0
    have z1 := (rN_mono q1 z2).1
    have z0 := (rN_mono q0 z1).1
    have t0 := rB_atback hA z0
    rw [c3] at t0
    obtain ⟨n, hn, e1, t1⟩ := rN_back t0 z1
    obtain ⟨n2, hn2, e2, t2⟩ := rN_back t1 z2
    rw [e1, e2]
    have he : encA ⟨3, (n : Int), (n2 : Int), ⟨#[]⟩, 0, 0⟩ = [3] ++ numB n ++ numB n2 := by
      unfold encA encF
      simp only
      rw [if_neg (by omega), if_neg (by omega), if_pos trivial, uN_nat n hn, uN_nat n2 hn2, List.nil_append]
    rw [he]
    have tf := fin ([3] ++ numB n ++ numB n2) _ (by simpa only [List.append_assoc] using t2)
    refine ⟨?_, ⟨⟨by show -(2^63) ≤ (0 : Int); omega, by show (0 : Int) < 2 ^ 63; omega⟩, ⟨by show -(2^63) ≤ (0 : Int); omega, by show (0 : Int) < 2 ^ 63; omega⟩, by show (0 : Nat) < 1000000; omega⟩, tf.1, tf.2.1, tf.2.2⟩
    unfold okA okF
    simp only
    rw [if_neg (by omega), if_neg (by omega), if_pos trivial, numOk_nat n hn, numOk_nat n2 hn2, toList_empty]
    rfl
  rw [if_neg c3] at h
  by_cases c4 : 4 ≤ rB s ((A.length : Int), 0) ∧ rB s ((A.length : Int), 0) ≤ 8
  · rw [if_pos c4] at h
    simp only [Prod.mk.injEq, beq_iff_eq] at h
    obtain ⟨rfl, rfl, z1⟩ := h
    have z0 := (rN_mono q0 z1).1
    have t0 := rB_atback hA z0
    obtain ⟨n, hn, e1, t1⟩ := rN_back t0 z1
    rw [e1]
    generalize rB s ((A.length : Int), 0) = k at *
    rw [encA_small k n c4.1 c4.2, uN_nat n hn, List.nil_append]
    have tf := fin ([k] ++ numB n) _ (by simpa only [List.append_assoc] using t1)
    refine ⟨?_, ⟨⟨by show -(2^63) ≤ (0 : Int); omega, by show (0 : Int) < 2 ^ 63; omega⟩, ⟨by show -(2^63) ≤ (0 : Int); omega, by show (0 : Int) < 2 ^ 63; omega⟩, by show (0 : Nat) < 1000000; omega⟩, tf.1, tf.2.1, tf.2.2⟩
    rw [okA_small k n c4.1 c4.2, numOk_nat n hn, toList_empty]
    rfl
  · rw [if_neg c4] at h
    simp at h

theorem dec_skip {L : List Int} (hr : rg L) (hne : L ≠ []) (h : (readC L).2.2 = false) : dec L = dec (L.drop 1) := by
  have hpos : 0 < L.length := List.length_pos_iff.2 hne
  obtain ⟨k, hk⟩ : ∃ k, L.length = k + 1 := ⟨L.length - 1, by omega⟩
  unfold dec
  rw [hk, decU, if_neg hne, h, if_neg (by simp)]
  exact decU_fuel _ _ _ (rg_drop hr _) (by rw [List.length_drop]; omega) (Nat.le_refl _)
theorem tk_at (s : ByteArray) (p : Nat) (hp : p ≤ s.size) : ∃ A : List Int, A.length = p ∧ Tk s A ((A.length : Int), 0) ∧ bytesOf s = A ++ (bytesOf s).drop p := by
  have hl : ((bytesOf s).take p).length = p := by rw [List.length_take, bytesOf_length]; omega
  exact ⟨(bytesOf s).take p, hl, ⟨rfl, by omega, by rw [hl]⟩, (List.take_append_drop p _).symm⟩
/-- One step of the document's decoding. -/
theorem step_ok {s : ByteArray} (hs : s.size < 1000000) {p : Nat} (hp : p ≤ s.size) {a : ActS} {m : Int} (h : readP s p = (a, m, true)) : ∃ m2 : Nat, m = (m2 : Int) ∧ p < m2 ∧ m2 ≤ s.size ∧ dec ((bytesOf s).drop p) = a :: dec ((bytesOf s).drop m2) := by
  obtain ⟨A, hA, ht, he⟩ := tk_at s p hp
  subst hA
  obtain ⟨h1, h2, h3, h4, h5⟩ := readP_back hs ht h
  have hpos := encA_pos a h1
  refine ⟨A.length + (encA a).length, h3, by omega, h4, ?_⟩
  have e : (bytesOf s).drop A.length = encA a ++ (bytesOf s).drop (A.length + (encA a).length) := by
    have e2 : bytesOf s = A ++ encA a ++ (bytesOf s).drop (A.length + (encA a).length) := by
      conv => lhs; rw [← List.take_append_drop (A.length + (encA a).length) (bytesOf s), h5]
    conv => lhs; rw [e2, List.append_assoc, List.drop_left]
  rw [e, dec_enc (rg_drop (bytesOf_range s) _) h2 h1]
theorem step_no {s : ByteArray} (hs : s.size < 1000000) {p : Nat} (hp : p < s.size) {a : ActS} {m : Int} (h : readP s p = (a, m, false)) : dec ((bytesOf s).drop p) = dec ((bytesOf s).drop (p + 1)) := by
  have hrg := rg_drop (bytesOf_range s) p
  have hne : (bytesOf s).drop p ≠ [] := fun h => by
    have := congrArg List.length h
    rw [List.length_drop, bytesOf_length] at this
    simp at this
    omega
  rw [← List.drop_drop]
  refine dec_skip hrg hne ?_
  rcases hc : readC ((bytesOf s).drop p) with ⟨a2, m2, b⟩
  cases b with
  | false => rfl
  | true =>
    exfalso
    obtain ⟨h1, h2, h3, h4, h5⟩ := readC_back hrg hc
    obtain ⟨A, hA, ht, he⟩ := tk_at s p (by omega)
    subst hA
    have := readP_enc (A := A) hs h2 h1 (R := ((bytesOf s).drop A.length).drop (encA a2).length) (by rw [List.append_assoc, ← h5, ← he])
    rw [this] at h
    simp at h
section
variable {w0 w w' : World} {R : List Asn}
set_option maxHeartbeats 8000000 in
set_option maxRecDepth 100000 in
theorem refDecS (h : Own w0 w R) (s : ByteArray) (hs : s.size ≤ 65536) (dl : List ActS) (hd : decR (bytesOf s) = dl) :
    Calls Try.prog 13 #[.string s] w fun e w' => ∃ A' c', e = .returned (.slice A' dl.length c') ∧ Own w0 w' (Row k33 33 (.slice A' dl.length c') dl :: R) := by
  have H := Aside0.mk (h.row_nil k33 33)
  have HS6 := Aside0.mk (show s.size < 1000000 by omega)
  have HDL := Aside0.mk (show [] ++ (dec (bytesOf s)).take (4096 - ([] : List ActS).length) = dl by
    rw [← hd]
    unfold decR
    rw [List.take_of_length_le (l := bytesOf s) (by rw [bytesOf_length]; exact hs)]
    rfl)
  have d0 : decide ((s.size : Int) > 65536) = false := decide_eq_false (by omega)
  clear h hd
  go_enter Try.func13, Try.ntmps13
  go_wp2
  go_loopw [3, 4] (fun v3 v4 wr => ∃ (p : Nat) (acc : List ActS) (B : Option Addr) (d : Nat), p ≤ s.size ∧ v3 = .slice B acc.length d ∧ v4 = .int .i64 p ∧ acc.length ≤ 4096 ∧ Aside0 (acc ++ (dec ((bytesOf s).drop p)).take (4096 - acc.length) = dl) ∧ Aside0 (Own w0 wr (Row k33 33 (.slice B acc.length d) acc :: R))) (fun _ v4 _ => s.size - (RowKit.intOf v4).toNat)
  case atStart => exact ⟨0, [], none, 0, Nat.zero_le _, rfl, rfl, by simp, ⟨by rw [List.drop_zero]; exact HDL.out⟩, H⟩
  case round =>
    obtain ⟨p, acc, B, d, hp, rfl, rfl, ha, HG, HO⟩ := hrel
    by_cases c0 : p < s.size
    · by_cases c1 : acc.length < 4096
      · have d1 : decide ((acc.length : Int) < 4096) = true := decide_eq_true (by omega)
        rcases hv : readP s p with ⟨⟨f0, f1, f2, f3, f4, f5⟩, m, b⟩
        have HV := Lib.hid hv
        have HPS := Aside0.mk hp
        cases b with
        | true =>
          obtain ⟨m2, rfl, hm1, hm2, hst⟩ := step_ok HS6.out hp hv
          have hg := HG.out
          rw [hst, show 4096 - acc.length = (4096 - (acc.length + 1)) + 1 by omega, List.take_succ_cons] at hg
          have HST := Aside0.mk hg
          clear hv hst hg
          go_wp2_with (first
            | (go_at_call 20; (with_reducible refine (refReadF HO.out HS6.out p HPS.out _ _ _ HV.out).mono ?_); rintro e w5 ⟨rfl, h⟩; have H5 := Aside0.mk h; clear h)
            | ((with_reducible refine gate_builtin (b := .append) (xs := #[.tmp 30, .tmp 32]) rfl ?_); at_builtin; refine Own.append k33 rfl (.tmp 30) (.tmp 32) 24 33 (.agg #[.int .u8 0, .int .i64 0, .int .i64 0, .string ⟨#[]⟩, .int .i64 0, .int .i64 0]) 56 rfl Try.underlying24 infoAct rfl (by decide) (by omega) (.slice B acc.length d) acc ⟨f0, f1, f2, f3, f4, f5⟩ [.int .u8 f0, .int .i64 f1, .int .i64 f2, .string f3, .int .i64 f4, .int .i64 f5] rfl (by rw [alloc_size]; rfl) (fun _ => k33_mkM _ _ _ _) (H5.out.junk (.cells #[.int .u8 f0, .int .i64 f1, .int .i64 f2, .string f3, .int .i64 f4, .int .i64 f5] 33 (0, 0))) (by omega) ?_; intro A6 c6 w6 h; have H6 := Aside0.mk h; clear h))
          go_roundw
          case rel =>
            refine ⟨m2, acc ++ [(⟨f0, f1, f2, f3, f4, f5⟩ : ActS)], A6, c6, hm2, by rw [List.length_append]; rfl, rfl, by rw [List.length_append, List.length_singleton]; omega, ⟨?_⟩, by rw [List.length_append]; exact H6⟩
            rw [List.length_append, List.length_singleton, List.append_assoc]
            exact HST.out
          case measure => first | (simp [RowKit.intOf]; done) | (simp [RowKit.intOf]; omega)
        | false =>
          have hst := step_no HS6.out c0 hv
          have hg := HG.out
          rw [hst] at hg
          have HST := Aside0.mk hg
          clear hv hst hg
          go_wp2_with (go_at_call 20; (with_reducible refine (refReadF HO.out HS6.out p HPS.out _ _ _ HV.out).mono ?_); rintro e w5 ⟨rfl, h⟩; have H5 := Aside0.mk h; clear h)
          go_roundw
          case rel => exact ⟨p + 1, acc, B, d, by omega, rfl, by first | rfl | go_num, ha, HST, ⟨H5.out.junk _⟩⟩
          case measure => first | (simp [RowKit.intOf]; done) | (simp [RowKit.intOf]; omega)
      · have d1 : decide ((acc.length : Int) < 4096) = false := decide_eq_false (by omega)
        have hres : Aside0 (acc = dl) := ⟨by have h := HG.out; rwa [show 4096 - acc.length = 0 by omega, List.take_zero, List.append_nil] at h⟩
        go_wp2
        go_ret
        rw [← hres.out]
        exact ⟨B, d, rfl, HO.out⟩
    · have hres : Aside0 (acc = dl) := ⟨by have h := HG.out; rwa [List.drop_of_length_le (by rw [bytesOf_length]; omega), dec_nil, List.take_nil, List.append_nil] at h⟩
      go_wp2
      go_ret
      rw [← hres.out]
      exact ⟨B, d, rfl, HO.out⟩
set_option maxHeartbeats 8000000 in
set_option maxRecDepth 100000 in
theorem refDecB (h : Own w0 w R) (s : ByteArray) (hs : 65536 < s.size) (hs2 : s.size < 1000000) (dl : List ActS) (hd : decR (bytesOf s) = dl) :
    Calls Try.prog 13 #[.string s] w fun e w' => ∃ A' c', e = .returned (.slice A' dl.length c') ∧ Own w0 w' (Row k33 33 (.slice A' dl.length c') dl :: R) := by
  have H := Aside0.mk (h.row_nil k33 33)
  obtain ⟨u, hu⟩ : ∃ u, s.extract 0 65536 = u := ⟨_, rfl⟩
  have hus : u.size = 65536 := by rw [← hu, ByteArray.size_extract]; omega
  have HS6 := Aside0.mk (show u.size < 1000000 by omega)
  have HDL := Aside0.mk (show [] ++ (dec (bytesOf u)).take (4096 - ([] : List ActS).length) = dl by
    rw [← hd, ← hu, bytesOf_extract, List.drop_zero]
    rfl)
  have d0 : decide ((s.size : Int) > 65536) = true := decide_eq_true (by omega)
  clear h hd
  go_enter Try.func13, Try.ntmps13
  go_wp2
  have hus2 : u.size ≤ 65536 := by omega
  clear hus
  go_loopw [3, 4] (fun v3 v4 wr => ∃ (p : Nat) (acc : List ActS) (B : Option Addr) (d : Nat), p ≤ u.size ∧ v3 = .slice B acc.length d ∧ v4 = .int .i64 p ∧ acc.length ≤ 4096 ∧ Aside0 (acc ++ (dec ((bytesOf u).drop p)).take (4096 - acc.length) = dl) ∧ Aside0 (Own w0 wr (Row k33 33 (.slice B acc.length d) acc :: R))) (fun _ v4 _ => u.size - (RowKit.intOf v4).toNat)
  case atStart => exact ⟨0, [], none, 0, Nat.zero_le _, rfl, rfl, by simp, ⟨by rw [List.drop_zero]; exact HDL.out⟩, H⟩
  case round =>
    obtain ⟨p, acc, B, d, hp, rfl, rfl, ha, HG, HO⟩ := hrel
    by_cases c0 : p < u.size
    · by_cases c1 : acc.length < 4096
      · have d1 : decide ((acc.length : Int) < 4096) = true := decide_eq_true (by omega)
        rcases hv : readP u p with ⟨⟨f0, f1, f2, f3, f4, f5⟩, m, b⟩
        have HV := Lib.hid hv
        have HPS := Aside0.mk hp
        cases b with
        | true =>
          obtain ⟨m2, rfl, hm1, hm2, hst⟩ := step_ok HS6.out hp hv
          have hg := HG.out
          rw [hst, show 4096 - acc.length = (4096 - (acc.length + 1)) + 1 by omega, List.take_succ_cons] at hg
          have HST := Aside0.mk hg
          clear hv hst hg
          go_wp2_with (first
            | (go_at_call 20; (with_reducible refine (refReadF HO.out HS6.out p HPS.out _ _ _ HV.out).mono ?_); rintro e w5 ⟨rfl, h⟩; have H5 := Aside0.mk h; clear h)
            | ((with_reducible refine gate_builtin (b := .append) (xs := #[.tmp 30, .tmp 32]) rfl ?_); at_builtin; refine Own.append k33 rfl (.tmp 30) (.tmp 32) 24 33 (.agg #[.int .u8 0, .int .i64 0, .int .i64 0, .string ⟨#[]⟩, .int .i64 0, .int .i64 0]) 56 rfl Try.underlying24 infoAct rfl (by decide) (by omega) (.slice B acc.length d) acc ⟨f0, f1, f2, f3, f4, f5⟩ [.int .u8 f0, .int .i64 f1, .int .i64 f2, .string f3, .int .i64 f4, .int .i64 f5] rfl (by rw [alloc_size]; rfl) (fun _ => k33_mkM _ _ _ _) (H5.out.junk (.cells #[.int .u8 f0, .int .i64 f1, .int .i64 f2, .string f3, .int .i64 f4, .int .i64 f5] 33 (0, 0))) (by omega) ?_; intro A6 c6 w6 h; have H6 := Aside0.mk h; clear h))
          go_roundw
          case rel =>
            refine ⟨m2, acc ++ [(⟨f0, f1, f2, f3, f4, f5⟩ : ActS)], A6, c6, hm2, by rw [List.length_append]; rfl, rfl, by rw [List.length_append, List.length_singleton]; omega, ⟨?_⟩, by rw [List.length_append]; exact H6⟩
            rw [List.length_append, List.length_singleton, List.append_assoc]
            exact HST.out
          case measure => first | (simp [RowKit.intOf]; done) | (simp [RowKit.intOf]; omega)
        | false =>
          have hst := step_no HS6.out c0 hv
          have hg := HG.out
          rw [hst] at hg
          have HST := Aside0.mk hg
          clear hv hst hg
          go_wp2_with (go_at_call 20; (with_reducible refine (refReadF HO.out HS6.out p HPS.out _ _ _ HV.out).mono ?_); rintro e w5 ⟨rfl, h⟩; have H5 := Aside0.mk h; clear h)
          go_roundw
          case rel => exact ⟨p + 1, acc, B, d, by omega, rfl, by first | rfl | go_num, ha, HST, ⟨H5.out.junk _⟩⟩
          case measure => first | (simp [RowKit.intOf]; done) | (simp [RowKit.intOf]; omega)
      · have d1 : decide ((acc.length : Int) < 4096) = false := decide_eq_false (by omega)
        have hres : Aside0 (acc = dl) := ⟨by have h := HG.out; rwa [show 4096 - acc.length = 0 by omega, List.take_zero, List.append_nil] at h⟩
        go_wp2
        go_ret
        rw [← hres.out]
        exact ⟨B, d, rfl, HO.out⟩
    · have hres : Aside0 (acc = dl) := ⟨by have h := HG.out; rwa [List.drop_of_length_le (by rw [bytesOf_length]; omega), dec_nil, List.take_nil, List.append_nil] at h⟩
      go_wp2
      go_ret
      rw [← hres.out]
      exact ⟨B, d, rfl, HO.out⟩
theorem refDecodeF (h : Own w0 w R) (s : ByteArray) (hs : s.size < 1000000) (dl : List ActS) (hd : decR (bytesOf s) = dl) :
    Calls Try.prog 13 #[.string s] w fun e w' => ∃ A' c', e = .returned (.slice A' dl.length c') ∧ Own w0 w' (Row k33 33 (.slice A' dl.length c') dl :: R) := by
  by_cases c : s.size ≤ 65536
  · exact refDecS h s c dl hd
  · exact refDecB h s (by omega) hs dl hd
end

def onlyA (a : ActS) : ActS := ⟨a.f0, a.f1, if a.f0 = 2 ∨ a.f0 = 3 then a.f2 else 0, if a.f0 = 1 then a.f3 else ⟨#[]⟩, if a.f0 = 1 ∨ a.f0 = 2 then a.f4 else 0, if a.f0 = 1 then a.f5 else 0⟩
section
variable {w0 w w' : World} {R : List Asn}
set_option maxHeartbeats 4000000 in
set_option maxRecDepth 100000 in
theorem only1 (h : Own w0 w R) (f1 f2 : Int) (f3 : ByteArray) (f4 f5 : Int) :
    Calls Try.prog 23 #[.agg #[.int .u8 1, .int .i64 f1, .int .i64 f2, .string f3, .int .i64 f4, .int .i64 f5]] w fun e w' => e = .returned (.agg #[.int .u8 1, .int .i64 f1, .int .i64 0, .string f3, .int .i64 f4, .int .i64 f5]) ∧ Own w0 w' R := by
  have H := Aside0.mk h
  clear h
  go_enter Try.func23, Try.ntmps23
  go_wp2
  refine bodyPost_ret (v := .agg #[.int .u8 1, .int .i64 f1, .int .i64 0, .string f3, .int .i64 f4, .int .i64 f5]) ?_ rfl ⟨rfl, ((H.out.junk _).junk _).junk _⟩
  simp [results, Try.results23, go_sem]
set_option maxHeartbeats 4000000 in
set_option maxRecDepth 100000 in
theorem only2 (h : Own w0 w R) (f1 f2 : Int) (f3 : ByteArray) (f4 f5 : Int) :
    Calls Try.prog 23 #[.agg #[.int .u8 2, .int .i64 f1, .int .i64 f2, .string f3, .int .i64 f4, .int .i64 f5]] w fun e w' => e = .returned (.agg #[.int .u8 2, .int .i64 f1, .int .i64 f2, .string ⟨#[]⟩, .int .i64 f4, .int .i64 0]) ∧ Own w0 w' R := by
  have H := Aside0.mk h
  clear h
  go_enter Try.func23, Try.ntmps23
  go_wp2
  refine bodyPost_ret (v := .agg #[.int .u8 2, .int .i64 f1, .int .i64 f2, .string ⟨#[]⟩, .int .i64 f4, .int .i64 0]) ?_ rfl ⟨rfl, ((H.out.junk _).junk _).junk _⟩
  simp [results, Try.results23, go_sem]
set_option maxHeartbeats 4000000 in
set_option maxRecDepth 100000 in
theorem only3 (h : Own w0 w R) (f1 f2 : Int) (f3 : ByteArray) (f4 f5 : Int) :
    Calls Try.prog 23 #[.agg #[.int .u8 3, .int .i64 f1, .int .i64 f2, .string f3, .int .i64 f4, .int .i64 f5]] w fun e w' => e = .returned (.agg #[.int .u8 3, .int .i64 f1, .int .i64 f2, .string ⟨#[]⟩, .int .i64 0, .int .i64 0]) ∧ Own w0 w' R := by
  have H := Aside0.mk h
  clear h
  go_enter Try.func23, Try.ntmps23
  go_wp2
  refine bodyPost_ret (v := .agg #[.int .u8 3, .int .i64 f1, .int .i64 f2, .string ⟨#[]⟩, .int .i64 0, .int .i64 0]) ?_ rfl ⟨rfl, ((H.out.junk _).junk _).junk _⟩
  simp [results, Try.results23, go_sem]
set_option maxHeartbeats 4000000 in
set_option maxRecDepth 100000 in
theorem only4 (h : Own w0 w R) (k : Int) (f1 f2 : Int) (f3 : ByteArray) (f4 f5 : Int) (h1 : k ≠ 1) (h2 : k ≠ 2) (h3 : k ≠ 3) :
    Calls Try.prog 23 #[.agg #[.int .u8 k, .int .i64 f1, .int .i64 f2, .string f3, .int .i64 f4, .int .i64 f5]] w fun e w' => e = .returned (.agg #[.int .u8 k, .int .i64 f1, .int .i64 0, .string ⟨#[]⟩, .int .i64 0, .int .i64 0]) ∧ Own w0 w' R := by
  have H := Aside0.mk h
  have q1 : (k == 1) = false := beq_eq_false_iff_ne.2 h1
  have q2 : (k == 2) = false := beq_eq_false_iff_ne.2 h2
  have q3 : (k == 3) = false := beq_eq_false_iff_ne.2 h3
  clear h1 h2 h3
  clear h
  go_enter Try.func23, Try.ntmps23
  go_wp2
  refine bodyPost_ret (v := .agg #[.int .u8 k, .int .i64 f1, .int .i64 0, .string ⟨#[]⟩, .int .i64 0, .int .i64 0]) ?_ rfl ⟨rfl, ((H.out.junk _).junk _).junk _⟩
  simp [results, Try.results23, go_sem]
theorem OnlyF (h : Own w0 w R) (f0 f1 f2 : Int) (f3 : ByteArray) (f4 f5 : Int) (o : ActS) (ho : onlyA ⟨f0, f1, f2, f3, f4, f5⟩ = o) :
    Calls Try.prog 23 #[.agg #[.int .u8 f0, .int .i64 f1, .int .i64 f2, .string f3, .int .i64 f4, .int .i64 f5]] w fun e w' => e = .returned (.agg #[.int .u8 o.f0, .int .i64 o.f1, .int .i64 o.f2, .string o.f3, .int .i64 o.f4, .int .i64 o.f5]) ∧ Own w0 w' R := by
  subst ho
  unfold onlyA
  simp only
  by_cases c1 : f0 = 1
  · subst c1
    rw [if_neg (by omega), if_pos rfl, if_pos (.inl rfl), if_pos rfl]
    exact only1 h f1 f2 f3 f4 f5
  by_cases c2 : f0 = 2
  · subst c2
    rw [if_pos (.inl rfl), if_neg c1, if_pos (.inr rfl), if_neg c1]
    exact only2 h f1 f2 f3 f4 f5
  by_cases c3 : f0 = 3
  · subst c3
    rw [if_pos (.inr rfl), if_neg c1, if_neg (by omega), if_neg c1]
    exact only3 h f1 f2 f3 f4 f5
  rw [if_neg (by omega), if_neg c1, if_neg (by omega), if_neg c1]
  exact only4 h f0 f1 f2 f3 f4 f5 c1 c2 c3
end
end Go.Proofs.Ytapkoiaeghjpdaa.PScriptWrites
