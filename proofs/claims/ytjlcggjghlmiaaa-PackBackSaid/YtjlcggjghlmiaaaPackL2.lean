/- The document's answer for numbers' bytes, and the laws' helper over parts. -/
import Derived.Test.YtjlcggjghlmiaaaPackL1
import Derived.Deep.RegionWith
namespace Go.Proofs.Ytjlcggjghlmiaaa.PPackWrites
open Go.RowKit Go.Proofs.YtjlcggjghlmiaaaW.PrintWords Go.Proofs.YtjlcggjghlmiaaaW.PrintLast Go.Proofs.YtjlcggjghlmiaaaW.PrintMore
open Go.Proofs.YtjlcggjghlmiaaaO
attribute [local go_sem] max2_int min2_int max_two min_two max_three min_three max_four min_four
set_option linter.unusedVariables false
set_option linter.unusedSimpArgs false
theorem one_byte (w : World) (b : Int) : (convert 24 9 (.slice (some ⟨w.heap.size, 0, none⟩) 1 1)).run Try.prog (w.alloc (.cells #[.int .u8 b] 5)) = .ok (.string (strOfNums [b])) (w.alloc (.cells #[.int .u8 b] 5)) := by
  have h := own_lit w 0 5 .u8 [b] (Nat.zero_le _) (by simp)
  exact own_string (P := Try.prog) (e' := 5) Try.underlying24 Try.underlying5 Try.underlying9 h
theorem one_byte' (w : World) (b : Int) (v : World) (hv : v.heap[w.heap.size]? = some (.cells #[.int .u8 b] 5 (0, 0))) : (convert 24 9 (.slice (some ⟨w.heap.size, 0, none⟩) 1 1)).run Try.prog v = .ok (.string (strOfNums [b])) v := by
  have h : v.ownsRow 0 5 1 (.slice (some ⟨w.heap.size, 0, none⟩) 1 1) 1 (nums .u8 [b]) := ⟨rfl, .inr ⟨_, 1, _, rfl, Nat.zero_le _, hv, Nat.le_refl _, by decide, rfl, rfl⟩⟩
  exact own_string (P := Try.prog) (e' := 5) Try.underlying24 Try.underlying5 Try.underlying9 h
theorem one_byte2 (w : World) (b : Int) (v : World) (hb : Below (w.alloc (.cells #[.int .u8 b] 5)).drew.heap.size (w.alloc (.cells #[.int .u8 b] 5)).drew v) : (convert 24 9 (.slice (some ⟨w.heap.size, 0, none⟩) 1 1)).run Try.prog v = .ok (.string (strOfNums [b])) v :=
  one_byte' w b v ((hb.block _ (by show w.heap.size < (w.heap.push _).size; simp)).trans (blk_new w _))
set_option maxHeartbeats 4000000 in
set_option maxRecDepth 100000 in
theorem refNum_calls (n : Nat) : ∀ (x : Int) (hx : x = n) (w : World), n < 2 ^ 64 → Calls Try.prog 31 #[.int .u64 x] w fun e w' => e = .returned (.string (strOfNums (numB n))) ∧ Below w.heap.size w w' := by
  induction n using Nat.strongRecOn with
  | ind n ih =>
    intro x hx w hn
    subst hx
    by_cases h : n < 128
    · have e := Lib.hid (numB_lt n h)
      have hc := one_byte w n
      have q1 : IntKind.u8.wrap (n : Int) = n := by rw [IntKind.wrap_u8]; omega
      have q2 : (n : Int) % 256 = n := by omega
      have d1 : decide ((n : Int) < 128) = true := decide_eq_true (by omega)
      go_enter Try.func31, Try.ntmps31
      go_wp2
      go_ret
      exact ⟨by rw [e.out]; rfl, below_alloc (Below.refl _ _) _⟩
    · have hh := Aside0.mk (ih (n / 128) (by omega) (n / 128 : Nat) rfl)
      have e := Lib.hid (numB_ge n h)
      have d1 : decide ((n : Int) < 128) = false := decide_eq_false (by omega)
      have hb : IntKind.u8.wrap (IntKind.u8.wrap ((n : Int).tmod 128) + 128) = ((n % 128 + 128 : Nat) : Int) := by rw [IntKind.wrap_u8, IntKind.wrap_u8, Int.tmod_eq_emod_of_nonneg (by omega)]; omega
      have hq : IntKind.u64.wrap ((n : Int) / 128) = ((n / 128 : Nat) : Int) := by simp only [IntKind.wrap, IntKind.bits, IntKind.signed]; simp; omega
      have hl := (numB_len (n / 128) 10 (pow10 _ (by omega))).2
      have hs1 := size_strOf (numB (n / 128))
      have hs2 := size_strOf [((n % 128 + 128 : Nat) : Int)]
      have hsz : (strOfNums [((n % 128 + 128 : Nat) : Int)]).size + (strOfNums (numB (n / 128))).size ≤ 9223372036854775807 := by rw [hs1, hs2]; simp only [List.length_cons, List.length_nil]; omega
      have he : strOfNums (numB n) = strOfNums [((n % 128 + 128 : Nat) : Int)] ++ strOfNums (numB (n / 128)) := by rw [e.out, ← strOf_append]; rfl
      have HE := Lib.hid he
      clear hl hs1 hs2 he ih
      obtain ⟨b, hbb⟩ : ∃ b : Int, b = ((n % 128 + 128 : Nat) : Int) := ⟨_, rfl⟩
      rw [← hbb] at hb hsz
      obtain ⟨q, hqq⟩ : ∃ q : Int, q = ((n / 128 : Nat) : Int) := ⟨_, rfl⟩
      rw [← hqq] at hq
      have HB := Lib.hid hbb
      have HQ := Lib.hid hqq
      clear hbb hqq
      have hc0 : (convert 24 9 (.slice (some ⟨w.heap.size, 0, none⟩) 1 1)).run Try.prog (w.alloc (.cells #[.int .u8 b] 5)).drew = .ok (.string (strOfNums [b])) (w.alloc (.cells #[.int .u8 b] 5)).drew := one_byte w.drew b
      have hc1 : (convert 24 9 (.slice (some ⟨w.heap.size, 0, none⟩) 1 1)).run Try.prog (w.drew.alloc (.cells #[.int .u8 b] 5)) = .ok (.string (strOfNums [b])) (w.drew.alloc (.cells #[.int .u8 b] 5)) := one_byte w.drew b
      go_enter Try.func31, Try.ntmps31
      go_wp2
      go_region_with (go_at_call 31; rw [HQ.out]; refine (hh.out _ (by omega)).mono ?_; rintro e w1 ⟨rfl, hb1⟩; have hc2 := one_byte w1 b; (try have hc3 := one_byte2 w b w1 hb1); have HB1 := Aside0.mk hb1; clear hb1)
      all_goals (go_wp2; go_ret; refine ⟨by rw [HE.out, ← HB.out]; rfl, ?_⟩)
      all_goals first
        | exact (((Below.refl _ w).alloc (Nat.le_refl _) _).drew).trans (HB1.out.mono (by simp))
        | exact below_alloc (((Below.refl _ w).drew).trans HB1.out) _
theorem refZig (i : Int) (h0 : -(2^63) ≤ i) (h1 : i < 2 ^ 63) : meterref02_Zig.f i = some ((zigN i : Nat) : Int) := by
  unfold meterref02_Zig.f zigN
  have hw : ∀ x : Int, IntKind.u64.wrap x = x % 18446744073709551616 := fun x => by simp only [IntKind.wrap, IntKind.bits, IntKind.signed]; simp
  by_cases h : i ≥ 0
  · rw [if_pos h, if_pos (by omega), hw, hw]
    congr 1
    omega
  · rw [if_neg h, if_neg (by omega), hw, hw, hw]
    congr 1
    have e1 : wrap64 (i + 1) = i + 1 := by unfold wrap64; omega
    have e2 : wrap64 (-(i + 1)) = -(i + 1) := by unfold wrap64; omega
    rw [e1, e2]
    omega
set_option maxHeartbeats 4000000 in
theorem refText_calls (s : ByteArray) (hs : s.size < 1000000) (w : World) : Calls Try.prog 33 #[.string s] w fun e w' => e = .returned (.string (strOfNums (numB s.size ++ bytesOf s))) ∧ Below w.heap.size w w' := by
  have wu : IntKind.u64.wrap (s.size : Int) = (s.size : Int) := by simp only [IntKind.wrap, IntKind.bits, IntKind.signed]; simp; omega
  have hl := (numB_len s.size 10 (pow10 _ (by omega))).2
  have hs1 := size_strOf (numB s.size)
  have hsz : (strOfNums (numB s.size)).size + s.size ≤ 9223372036854775807 := by rw [hs1]; omega
  have he : strOfNums (numB s.size ++ bytesOf s) = strOfNums (numB s.size) ++ s := by rw [strOf_append, strOf_bytes]
  have HE := Lib.hid he
  clear he hs1 hl
  go_enter Try.func33, Try.ntmps33
  go_wp2_with (go_at_call 31; refine (refNum_calls s.size _ rfl w (by omega)).mono ?_; rintro e w1 ⟨rfl, hb1⟩; have HB1 := Aside0.mk hb1; clear hb1)
  go_ret
  exact ⟨by rw [HE.out]; rfl, HB1.out⟩
set_option maxHeartbeats 4000000 in
set_option maxRecDepth 100000 in
theorem bytes_calls (w : World) (k n i : Int) (s : ByteArray) (b m : Int) (hx : PartOk ⟨k, n, i, s, b, m⟩) (hs : s.size < 1000000) :
    Calls Try.prog 17 #[.agg #[.int .i64 k, .int .u64 n, .int .i64 i, .string s, .int .u8 b, .int .i64 m]] w fun e w' => e = .returned (.string (strOfNums (partB ⟨k, n, i, s, b, m⟩))) ∧ Below w.heap.size w w' := by
  obtain ⟨_, _, n0, n1, i0, i1, b0, b1, _, _⟩ := hx
  simp only at n0 n1 i0 i1 b0 b1
  by_cases k0 : k = 0
  · subst k0
    obtain ⟨n, rfl⟩ := Int.eq_ofNat_of_zero_le n0
    have HB := Aside0.mk (below_alloc (Below.refl w.heap.size w) (.cells #[.int .i64 0, .int .u64 n, .int .i64 i, .string s, .int .u8 b, .int .i64 m] 38 (0, 0)))
    go_enter Try.func17, Try.ntmps17
    go_wp2_with (go_at_call 31; refine (refNum_calls n _ rfl _ (by omega)).mono ?_; rintro e w1 ⟨rfl, hb1⟩; have HB1 := Aside0.mk (below_step HB.out hb1); clear hb1)
    go_ret
    exact ⟨rfl, HB1.out⟩
  by_cases k1 : k = 1
  · subst k1
    have HB := Aside0.mk (below_alloc (Below.refl w.heap.size w) (.cells #[.int .i64 1, .int .u64 n, .int .i64 i, .string s, .int .u8 b, .int .i64 m] 38 (0, 0)))
    have HZ := Aside0.mk (refZig i i0 i1)
    go_enter Try.func17, Try.ntmps17
    go_wp2_with (first
      | (go_at_call 32; refine (meterref02_Zig.calls i _ _ HZ.out).mono ?_; rintro e w1 ⟨rfl, hd⟩; have HB0 := Aside0.mk (below_step HB.out hd.below); clear hd)
      | (go_at_call 31; refine (refNum_calls (zigN i) _ rfl _ (zigN_lt i i0 i1)).mono ?_; rintro e w2 ⟨rfl, hb1⟩; have HB1 := Aside0.mk (below_step HB0.out hb1); clear hb1))
    go_ret
    exact ⟨rfl, HB1.out⟩
  by_cases k2 : k = 2
  · subst k2
    have HB := Aside0.mk (below_alloc (Below.refl w.heap.size w) (.cells #[.int .i64 2, .int .u64 n, .int .i64 i, .string s, .int .u8 b, .int .i64 m] 38 (0, 0)))
    go_enter Try.func17, Try.ntmps17
    go_wp2_with (go_at_call 33; refine (refText_calls s hs _).mono ?_; rintro e w1 ⟨rfl, hb1⟩; have HB1 := Aside0.mk (below_step HB.out hb1); clear hb1)
    go_ret
    exact ⟨rfl, HB1.out⟩
  by_cases k3 : k = 3
  · subst k3
    have HB := Aside0.mk (below_alloc (below_alloc (Below.refl w.heap.size w) (.cells #[.int .i64 3, .int .u64 n, .int .i64 i, .string s, .int .u8 b, .int .i64 m] 38 (0, 0))) (.cells #[.int .u8 b] 5))
    have hc := one_byte (w.alloc (.cells #[.int .i64 3, .int .u64 n, .int .i64 i, .string s, .int .u8 b, .int .i64 m] 38 (0, 0))) b
    simp at hc
    go_enter Try.func17, Try.ntmps17
    go_wp2
    go_ret
    exact ⟨rfl, HB.out⟩
  have P := Aside0.mk (show partB ⟨k, n, i, s, b, m⟩ = [] by unfold partB; rw [if_neg k0, if_neg k1, if_neg k2, if_neg k3])
  have HB := Aside0.mk (below_alloc (Below.refl w.heap.size w) (.cells #[.int .i64 k, .int .u64 n, .int .i64 i, .string s, .int .u8 b, .int .i64 m] 38 (0, 0)))
  have e0 : (k == 0) = false := beq_eq_false_iff_ne.mpr k0
  have e1 : (k == 1) = false := beq_eq_false_iff_ne.mpr k1
  have e2 : (k == 2) = false := beq_eq_false_iff_ne.mpr k2
  have e3 : (k == 3) = false := beq_eq_false_iff_ne.mpr k3
  go_enter Try.func17, Try.ntmps17
  go_wp2
  go_ret
  exact ⟨by rw [P.out]; rfl, HB.out⟩
end Go.Proofs.Ytjlcggjghlmiaaa.PPackWrites
