-- Written by a program of this session's (wip/gprint.py): the kit's print, with functions given by hand.
import Derived.Test.YtpfipeopacjkjaaPFrameReadsx0
import Derived.Test.YtpfipeopacjkjaaPFrameReadsx3
namespace Go.Proofs.Ytpfipeopacjkjaa.PFrameReads
open Go.RowKit Go.Proofs.YtpfipeopacjkjaaW.PrintWords Go.Proofs.YtpfipeopacjkjaaW.PrintLast Go.Proofs.YtpfipeopacjkjaaW.PrintMore
attribute [local go_sem] max2_int min2_int max_two min_two max_three min_three max_four min_four   -- for this text's walks alone
set_option linter.unusedVariables false
set_option linter.unusedSimpArgs false

/-! ### meterref03_Next: function 15 -/
def meterref03_Next.j0 : Nat → ByteArray → Int → Bool → Option (ByteArray × Int × Int)
  | 0, _, _, _ => none
  | k + 1, x0, x1, x16 => if x16 = true then (some ((⟨#[]⟩ : ByteArray), 0, 1)) else (if 0 ≤ x1 then (if x1 ≤ (x0.size : Int) then (if ((x0.extract (x1 : Int).toNat x0.size).size : Int) < 8 then (some ((⟨#[]⟩ : ByteArray), 0, 7)) else (if 0 ≤ 4 then (if 4 ≤ ((x0.extract (x1 : Int).toNat x0.size).size : Int) then ((meterref01_Crc.f k ((x0.extract (x1 : Int).toNat x0.size).extract 0 4)).bind fun t144 => ((meterref03_four.f t144).bind fun t145 => (if 4 ≤ 8 then (if 8 ≤ ((x0.extract (x1 : Int).toNat x0.size).size : Int) then (if t145.toList = ((x0.extract (x1 : Int).toNat x0.size).extract 4 8).toList then (if 0 < ((x0.extract (x1 : Int).toNat x0.size).size : Int) then (if 1 < ((x0.extract (x1 : Int).toNat x0.size).size : Int) then (if 2 < ((x0.extract (x1 : Int).toNat x0.size).size : Int) then (if 3 < ((x0.extract (x1 : Int).toNat x0.size).size : Int) then (if (wrap64 ((wrap64 ((wrap64 ((wrap64 (bt (x0.extract (x1 : Int).toNat x0.size) 0)) + (wrap64 (256 * (wrap64 (bt (x0.extract (x1 : Int).toNat x0.size) 1)))))) + (wrap64 (65536 * (wrap64 (bt (x0.extract (x1 : Int).toNat x0.size) 2)))))) + (wrap64 (16777216 * (wrap64 (bt (x0.extract (x1 : Int).toNat x0.size) 3)))))) > 16384 then (some ((⟨#[]⟩ : ByteArray), 0, 3)) else (if ((x0.extract (x1 : Int).toNat x0.size).size : Int) < (wrap64 ((wrap64 ((wrap64 ((wrap64 ((wrap64 (bt (x0.extract (x1 : Int).toNat x0.size) 0)) + (wrap64 (256 * (wrap64 (bt (x0.extract (x1 : Int).toNat x0.size) 1)))))) + (wrap64 (65536 * (wrap64 (bt (x0.extract (x1 : Int).toNat x0.size) 2)))))) + (wrap64 (16777216 * (wrap64 (bt (x0.extract (x1 : Int).toNat x0.size) 3)))))) + 12)) then (some ((⟨#[]⟩ : ByteArray), 0, 7)) else (if 8 ≤ (wrap64 (8 + (wrap64 ((wrap64 ((wrap64 ((wrap64 (bt (x0.extract (x1 : Int).toNat x0.size) 0)) + (wrap64 (256 * (wrap64 (bt (x0.extract (x1 : Int).toNat x0.size) 1)))))) + (wrap64 (65536 * (wrap64 (bt (x0.extract (x1 : Int).toNat x0.size) 2)))))) + (wrap64 (16777216 * (wrap64 (bt (x0.extract (x1 : Int).toNat x0.size) 3)))))))) then (if (wrap64 (8 + (wrap64 ((wrap64 ((wrap64 ((wrap64 (bt (x0.extract (x1 : Int).toNat x0.size) 0)) + (wrap64 (256 * (wrap64 (bt (x0.extract (x1 : Int).toNat x0.size) 1)))))) + (wrap64 (65536 * (wrap64 (bt (x0.extract (x1 : Int).toNat x0.size) 2)))))) + (wrap64 (16777216 * (wrap64 (bt (x0.extract (x1 : Int).toNat x0.size) 3)))))))) ≤ ((x0.extract (x1 : Int).toNat x0.size).size : Int) then ((meterref01_Crc.f k ((x0.extract (x1 : Int).toNat x0.size).extract 8 ((wrap64 (8 + (wrap64 ((wrap64 ((wrap64 ((wrap64 (bt (x0.extract (x1 : Int).toNat x0.size) 0)) + (wrap64 (256 * (wrap64 (bt (x0.extract (x1 : Int).toNat x0.size) 1)))))) + (wrap64 (65536 * (wrap64 (bt (x0.extract (x1 : Int).toNat x0.size) 2)))))) + (wrap64 (16777216 * (wrap64 (bt (x0.extract (x1 : Int).toNat x0.size) 3)))))))) : Int).toNat)).bind fun t146 => ((meterref03_four.f t146).bind fun t147 => (if 0 ≤ (wrap64 (8 + (wrap64 ((wrap64 ((wrap64 ((wrap64 (bt (x0.extract (x1 : Int).toNat x0.size) 0)) + (wrap64 (256 * (wrap64 (bt (x0.extract (x1 : Int).toNat x0.size) 1)))))) + (wrap64 (65536 * (wrap64 (bt (x0.extract (x1 : Int).toNat x0.size) 2)))))) + (wrap64 (16777216 * (wrap64 (bt (x0.extract (x1 : Int).toNat x0.size) 3)))))))) then (if (wrap64 (8 + (wrap64 ((wrap64 ((wrap64 ((wrap64 (bt (x0.extract (x1 : Int).toNat x0.size) 0)) + (wrap64 (256 * (wrap64 (bt (x0.extract (x1 : Int).toNat x0.size) 1)))))) + (wrap64 (65536 * (wrap64 (bt (x0.extract (x1 : Int).toNat x0.size) 2)))))) + (wrap64 (16777216 * (wrap64 (bt (x0.extract (x1 : Int).toNat x0.size) 3)))))))) ≤ (wrap64 (12 + (wrap64 ((wrap64 ((wrap64 ((wrap64 (bt (x0.extract (x1 : Int).toNat x0.size) 0)) + (wrap64 (256 * (wrap64 (bt (x0.extract (x1 : Int).toNat x0.size) 1)))))) + (wrap64 (65536 * (wrap64 (bt (x0.extract (x1 : Int).toNat x0.size) 2)))))) + (wrap64 (16777216 * (wrap64 (bt (x0.extract (x1 : Int).toNat x0.size) 3)))))))) then (if (wrap64 (12 + (wrap64 ((wrap64 ((wrap64 ((wrap64 (bt (x0.extract (x1 : Int).toNat x0.size) 0)) + (wrap64 (256 * (wrap64 (bt (x0.extract (x1 : Int).toNat x0.size) 1)))))) + (wrap64 (65536 * (wrap64 (bt (x0.extract (x1 : Int).toNat x0.size) 2)))))) + (wrap64 (16777216 * (wrap64 (bt (x0.extract (x1 : Int).toNat x0.size) 3)))))))) ≤ ((x0.extract (x1 : Int).toNat x0.size).size : Int) then (if t147.toList = ((x0.extract (x1 : Int).toNat x0.size).extract ((wrap64 (8 + (wrap64 ((wrap64 ((wrap64 ((wrap64 (bt (x0.extract (x1 : Int).toNat x0.size) 0)) + (wrap64 (256 * (wrap64 (bt (x0.extract (x1 : Int).toNat x0.size) 1)))))) + (wrap64 (65536 * (wrap64 (bt (x0.extract (x1 : Int).toNat x0.size) 2)))))) + (wrap64 (16777216 * (wrap64 (bt (x0.extract (x1 : Int).toNat x0.size) 3)))))))) : Int).toNat ((wrap64 (12 + (wrap64 ((wrap64 ((wrap64 ((wrap64 (bt (x0.extract (x1 : Int).toNat x0.size) 0)) + (wrap64 (256 * (wrap64 (bt (x0.extract (x1 : Int).toNat x0.size) 1)))))) + (wrap64 (65536 * (wrap64 (bt (x0.extract (x1 : Int).toNat x0.size) 2)))))) + (wrap64 (16777216 * (wrap64 (bt (x0.extract (x1 : Int).toNat x0.size) 3)))))))) : Int).toNat).toList then (some ((x0.extract (x1 : Int).toNat x0.size).extract 8 ((wrap64 (8 + (wrap64 ((wrap64 ((wrap64 ((wrap64 (bt (x0.extract (x1 : Int).toNat x0.size) 0)) + (wrap64 (256 * (wrap64 (bt (x0.extract (x1 : Int).toNat x0.size) 1)))))) + (wrap64 (65536 * (wrap64 (bt (x0.extract (x1 : Int).toNat x0.size) 2)))))) + (wrap64 (16777216 * (wrap64 (bt (x0.extract (x1 : Int).toNat x0.size) 3)))))))) : Int).toNat, wrap64 ((wrap64 (x1 + 12)) + (wrap64 ((wrap64 ((wrap64 ((wrap64 (bt (x0.extract (x1 : Int).toNat x0.size) 0)) + (wrap64 (256 * (wrap64 (bt (x0.extract (x1 : Int).toNat x0.size) 1)))))) + (wrap64 (65536 * (wrap64 (bt (x0.extract (x1 : Int).toNat x0.size) 2)))))) + (wrap64 (16777216 * (wrap64 (bt (x0.extract (x1 : Int).toNat x0.size) 3))))))), 0)) else (some ((⟨#[]⟩ : ByteArray), 0, 9))) else (none)) else (none)) else (none)))) else (none)) else (none)))) else (none)) else (none)) else (none)) else (none)) else (some ((⟨#[]⟩ : ByteArray), 0, 9))) else (none)) else (none)))) else (none)) else (none))) else (none)) else (none))
def meterref03_Next.f (k : Nat) (a0 : ByteArray) (a1 : Int) : Option (ByteArray × Int × Int) := if a1 < 0 then (meterref03_Next.j0 k a0 a1 true) else (meterref03_Next.j0 k a0 a1 (decide (a1 > (a0.size : Int))))
theorem meterref03_Next.mono_l : ∀ k, (∀ y0 y1 y2, LeO (meterref03_Next.j0 k y0 y1 y2) (meterref03_Next.j0 (k + 1) y0 y1 y2))
  | 0 => fun _ _ _ r h => by simp [meterref03_Next.j0] at h
  | k + 1 => by
    have ih0 := meterref03_Next.mono_l k
    · intro y0 y1 y2
      unfold meterref03_Next.j0
      repeat' first
      | (with_reducible exact ih0 _ _ _)
      | (with_reducible exact meterref01_Crc.mono _ _)
      | (with_reducible exact LeO.refl _)
      | (with_reducible exact LeO.none _)
      | (with_reducible refine LeO.ite ?_ ?_)
      | (with_reducible refine LeO.bind ?_ (fun _ => ?_))
      | exact ih0 _ _ _
      | exact meterref01_Crc.mono _ _
      | exact LeO.none _
      | refine LeO.ite ?_ ?_
      | refine LeO.bind ?_ (fun _ => ?_)
theorem meterref03_Next.mono : ∀ a0 a1 k, LeO (meterref03_Next.f k a0 a1) (meterref03_Next.f (k + 1) a0 a1) := by
  intro a0 a1 k
  have ih0 := meterref03_Next.mono_l k
  unfold meterref03_Next.f
  repeat' first
      | (with_reducible exact ih0 _ _ _)
      | (with_reducible exact meterref01_Crc.mono _ _)
      | (with_reducible exact LeO.refl _)
      | (with_reducible exact LeO.none _)
      | (with_reducible refine LeO.ite ?_ ?_)
      | (with_reducible refine LeO.bind ?_ (fun _ => ?_))
      | exact ih0 _ _ _
      | exact meterref01_Crc.mono _ _
      | exact LeO.none _
      | refine LeO.ite ?_ ?_
      | refine LeO.bind ?_ (fun _ => ?_)
def meterref03_Next.T8 : Bool × List (List Nat × List Nat) := (true, [([], []), ([0], [0]), ([1], [1]), ([], []), ([3], [3]), ([4], [4]), ([5], [5]), ([2, 6], [2, 6]), ([], []), ([8], [8]), ([9], [9]), ([10], [10]), ([7, 11], [7, 11]), ([], []), ([13], [13]), ([14], [14]), ([15], [15]), ([12, 16], [12, 16]), ([17, 0, 1, 2, 3, 4, 5, 6, 7, 8, 9, 10, 11, 12, 13, 14, 15, 16, 17], [17])])
def meterref03_Next.B8 : List Nat := [0, 1, 3, 0, 8, 24, 56, 127, 0, 256, 768, 1792, 4095, 0, 8192, 24576, 57344, 131071, 262143]
theorem meterref03_Next.tab8 : rtab .any (opsOf Try.f15 8) = meterref03_Next.T8 := by kernel_rfl
theorem meterref03_Next.bits8 : waitsOk meterref03_Next.T8.2 meterref03_Next.B8 = true := by kernel_rfl
def meterref03_Next.T14 : Bool × List (List Nat × List Nat) := (true, [([], []), ([0], [0]), ([1, 1], [1]), ([], []), ([], []), ([4], [4]), ([], []), ([6], [6]), ([3, 5, 7], [3, 5, 7]), ([2, 8], [2, 8])])
def meterref03_Next.B14 : List Nat := [0, 1, 3, 0, 0, 16, 0, 64, 248, 511]
theorem meterref03_Next.tab14 : rtab .any (opsOf Try.f15 14) = meterref03_Next.T14 := by kernel_rfl
theorem meterref03_Next.bits14 : waitsOk meterref03_Next.T14.2 meterref03_Next.B14 = true := by kernel_rfl
set_option maxHeartbeats 8000000 in
set_option maxRecDepth 100000 in
theorem meterref03_Next.calls (k : Nat) (a0 : ByteArray) (a1 : Int) (r1 : ByteArray) (r2 : Int) (r3 : Int) (w : World) (h : meterref03_Next.f k a0 a1 = some (r1, r2, r3)) :
    Calls Try.prog 15 #[.string a0, .int .i64 a1] w fun e w' => e = .returned (.tuple #[.string r1, .int .i64 r2, .int .i64 r3]) ∧ Below w.heap.size w w' := by
  have HB := Aside0.mk (Below.refl w.heap.size w)
  have H : (if a1 < 0 then (meterref03_Next.j0 k a0 a1 true) else (meterref03_Next.j0 k a0 a1 (decide (a1 > (a0.size : Int))))) = some (r1, r2, r3) := h
  clear h
  have HC3 := Aside0.mk H
  clear H
  go_enter Try.func15, Try.ntmps15
  go_upto_region 1 with (fail)
  go_cut [16] (fun v16 wc => ∃ (kq : Nat) (x16_2 : Bool), v16 = .bool x16_2 ∧ Aside0 (meterref03_Next.j0 kq a0 a1 x16_2 = some (r1, r2, r3)) ∧ Aside0 (kq ≤ k) ∧ Aside0 (Below w.heap.size w wc))
  case first =>
    have H := HC3.out
    clear HC3
    by_cases c4 : a1 < 0
    · rw [if_pos c4] at H
      have c4b0 : decide (a1 < 0) = true := decide_eq_true c4
      clear c4
      (first | rw [c4b0] | (simp only [i64_w, i32_w]; rw [c4b0]) | skip)
      have H' := Aside0.mk H
      clear H
      go_wp2
      go_meet
      case rel => exact ⟨_, (true), (by first | rfl | (simp; done) | (simp [*]; done) | (congr 1; simp only [eq_iff_iff, iff_true, ByteArray.size_append] at *; unfold wrap64; omega) | (congr 2; simp only [eq_iff_iff, iff_true, ByteArray.size_append] at *; unfold wrap64; omega)), H', ⟨by first | omega | exact Nat.le_refl _⟩, ⟨by repeat (first | (with_reducible first | exact HB.out | apply below_alloc | apply pw_below_drewN | apply below_drew1) | exact HB.out)⟩⟩
    · rw [if_neg c4] at H
      have c4b0 : decide (a1 < 0) = false := decide_eq_false c4
      clear c4
      (first | rw [c4b0] | (simp only [i64_w, i32_w]; rw [c4b0]) | skip)
      have H' := Aside0.mk H
      clear H
      go_wp2
      go_meet
      case rel => exact ⟨_, (decide (a1 > (a0.size : Int))), (by first | rfl | (simp; done) | (simp [*]; done) | (congr 1; simp only [eq_iff_iff, iff_true, ByteArray.size_append] at *; unfold wrap64; omega) | (congr 2; simp only [eq_iff_iff, iff_true, ByteArray.size_append] at *; unfold wrap64; omega)), H', ⟨by first | omega | exact Nat.le_refl _⟩, ⟨by repeat (first | (with_reducible first | exact HB.out | apply below_alloc | apply pw_below_drewN | apply below_drew1) | exact HB.out)⟩⟩
  case rest =>
    clear HC3
    try clear c1
    try clear p2
    try clear c4
    try clear c4b0
    obtain ⟨kq, x16_2, rfl, HA, HJ2, HB⟩ := hcut
    cases kq with
    | zero => exact absurd HA.out (by simp [meterref03_Next.j0])
    | succ kj2 =>
      have H := HA.out
      clear HA
      simp only [meterref03_Next.j0] at H
      by_cases c5 : x16_2 = true
      · subst c5
        have H1 : (some ((⟨#[]⟩ : ByteArray), 0, 1)) = some (r1, r2, r3) := by rw [if_pos rfl] at H; exact H
        clear H
        have H := H1
        clear H1
        simp only [Option.some.injEq, Prod.mk.injEq] at H
        obtain ⟨rfl, rfl, rfl⟩ := H
        go_wp2
        go_ret3
        exact ⟨by first | rfl | (simp [errW_none, errW_some] <;> rfl) | (simp [*, errW_none, errW_some] <;> rfl), by repeat (first | (with_reducible first | exact HB.out | apply below_alloc | apply pw_below_drewN | apply below_drew1) | exact HB.out)⟩
      · replace c5 := Bool.eq_false_iff.mpr c5
        subst c5
        have H1 : (if 0 ≤ a1 then (if a1 ≤ (a0.size : Int) then (if ((a0.extract (a1 : Int).toNat a0.size).size : Int) < 8 then (some ((⟨#[]⟩ : ByteArray), 0, 7)) else (if 0 ≤ 4 then (if 4 ≤ ((a0.extract (a1 : Int).toNat a0.size).size : Int) then ((meterref01_Crc.f kj2 ((a0.extract (a1 : Int).toNat a0.size).extract 0 4)).bind fun t144 => ((meterref03_four.f t144).bind fun t145 => (if 4 ≤ 8 then (if 8 ≤ ((a0.extract (a1 : Int).toNat a0.size).size : Int) then (if t145.toList = ((a0.extract (a1 : Int).toNat a0.size).extract 4 8).toList then (if 0 < ((a0.extract (a1 : Int).toNat a0.size).size : Int) then (if 1 < ((a0.extract (a1 : Int).toNat a0.size).size : Int) then (if 2 < ((a0.extract (a1 : Int).toNat a0.size).size : Int) then (if 3 < ((a0.extract (a1 : Int).toNat a0.size).size : Int) then (if (wrap64 ((wrap64 ((wrap64 ((wrap64 (bt (a0.extract (a1 : Int).toNat a0.size) 0)) + (wrap64 (256 * (wrap64 (bt (a0.extract (a1 : Int).toNat a0.size) 1)))))) + (wrap64 (65536 * (wrap64 (bt (a0.extract (a1 : Int).toNat a0.size) 2)))))) + (wrap64 (16777216 * (wrap64 (bt (a0.extract (a1 : Int).toNat a0.size) 3)))))) > 16384 then (some ((⟨#[]⟩ : ByteArray), 0, 3)) else (if ((a0.extract (a1 : Int).toNat a0.size).size : Int) < (wrap64 ((wrap64 ((wrap64 ((wrap64 ((wrap64 (bt (a0.extract (a1 : Int).toNat a0.size) 0)) + (wrap64 (256 * (wrap64 (bt (a0.extract (a1 : Int).toNat a0.size) 1)))))) + (wrap64 (65536 * (wrap64 (bt (a0.extract (a1 : Int).toNat a0.size) 2)))))) + (wrap64 (16777216 * (wrap64 (bt (a0.extract (a1 : Int).toNat a0.size) 3)))))) + 12)) then (some ((⟨#[]⟩ : ByteArray), 0, 7)) else (if 8 ≤ (wrap64 (8 + (wrap64 ((wrap64 ((wrap64 ((wrap64 (bt (a0.extract (a1 : Int).toNat a0.size) 0)) + (wrap64 (256 * (wrap64 (bt (a0.extract (a1 : Int).toNat a0.size) 1)))))) + (wrap64 (65536 * (wrap64 (bt (a0.extract (a1 : Int).toNat a0.size) 2)))))) + (wrap64 (16777216 * (wrap64 (bt (a0.extract (a1 : Int).toNat a0.size) 3)))))))) then (if (wrap64 (8 + (wrap64 ((wrap64 ((wrap64 ((wrap64 (bt (a0.extract (a1 : Int).toNat a0.size) 0)) + (wrap64 (256 * (wrap64 (bt (a0.extract (a1 : Int).toNat a0.size) 1)))))) + (wrap64 (65536 * (wrap64 (bt (a0.extract (a1 : Int).toNat a0.size) 2)))))) + (wrap64 (16777216 * (wrap64 (bt (a0.extract (a1 : Int).toNat a0.size) 3)))))))) ≤ ((a0.extract (a1 : Int).toNat a0.size).size : Int) then ((meterref01_Crc.f kj2 ((a0.extract (a1 : Int).toNat a0.size).extract 8 ((wrap64 (8 + (wrap64 ((wrap64 ((wrap64 ((wrap64 (bt (a0.extract (a1 : Int).toNat a0.size) 0)) + (wrap64 (256 * (wrap64 (bt (a0.extract (a1 : Int).toNat a0.size) 1)))))) + (wrap64 (65536 * (wrap64 (bt (a0.extract (a1 : Int).toNat a0.size) 2)))))) + (wrap64 (16777216 * (wrap64 (bt (a0.extract (a1 : Int).toNat a0.size) 3)))))))) : Int).toNat)).bind fun t146 => ((meterref03_four.f t146).bind fun t147 => (if 0 ≤ (wrap64 (8 + (wrap64 ((wrap64 ((wrap64 ((wrap64 (bt (a0.extract (a1 : Int).toNat a0.size) 0)) + (wrap64 (256 * (wrap64 (bt (a0.extract (a1 : Int).toNat a0.size) 1)))))) + (wrap64 (65536 * (wrap64 (bt (a0.extract (a1 : Int).toNat a0.size) 2)))))) + (wrap64 (16777216 * (wrap64 (bt (a0.extract (a1 : Int).toNat a0.size) 3)))))))) then (if (wrap64 (8 + (wrap64 ((wrap64 ((wrap64 ((wrap64 (bt (a0.extract (a1 : Int).toNat a0.size) 0)) + (wrap64 (256 * (wrap64 (bt (a0.extract (a1 : Int).toNat a0.size) 1)))))) + (wrap64 (65536 * (wrap64 (bt (a0.extract (a1 : Int).toNat a0.size) 2)))))) + (wrap64 (16777216 * (wrap64 (bt (a0.extract (a1 : Int).toNat a0.size) 3)))))))) ≤ (wrap64 (12 + (wrap64 ((wrap64 ((wrap64 ((wrap64 (bt (a0.extract (a1 : Int).toNat a0.size) 0)) + (wrap64 (256 * (wrap64 (bt (a0.extract (a1 : Int).toNat a0.size) 1)))))) + (wrap64 (65536 * (wrap64 (bt (a0.extract (a1 : Int).toNat a0.size) 2)))))) + (wrap64 (16777216 * (wrap64 (bt (a0.extract (a1 : Int).toNat a0.size) 3)))))))) then (if (wrap64 (12 + (wrap64 ((wrap64 ((wrap64 ((wrap64 (bt (a0.extract (a1 : Int).toNat a0.size) 0)) + (wrap64 (256 * (wrap64 (bt (a0.extract (a1 : Int).toNat a0.size) 1)))))) + (wrap64 (65536 * (wrap64 (bt (a0.extract (a1 : Int).toNat a0.size) 2)))))) + (wrap64 (16777216 * (wrap64 (bt (a0.extract (a1 : Int).toNat a0.size) 3)))))))) ≤ ((a0.extract (a1 : Int).toNat a0.size).size : Int) then (if t147.toList = ((a0.extract (a1 : Int).toNat a0.size).extract ((wrap64 (8 + (wrap64 ((wrap64 ((wrap64 ((wrap64 (bt (a0.extract (a1 : Int).toNat a0.size) 0)) + (wrap64 (256 * (wrap64 (bt (a0.extract (a1 : Int).toNat a0.size) 1)))))) + (wrap64 (65536 * (wrap64 (bt (a0.extract (a1 : Int).toNat a0.size) 2)))))) + (wrap64 (16777216 * (wrap64 (bt (a0.extract (a1 : Int).toNat a0.size) 3)))))))) : Int).toNat ((wrap64 (12 + (wrap64 ((wrap64 ((wrap64 ((wrap64 (bt (a0.extract (a1 : Int).toNat a0.size) 0)) + (wrap64 (256 * (wrap64 (bt (a0.extract (a1 : Int).toNat a0.size) 1)))))) + (wrap64 (65536 * (wrap64 (bt (a0.extract (a1 : Int).toNat a0.size) 2)))))) + (wrap64 (16777216 * (wrap64 (bt (a0.extract (a1 : Int).toNat a0.size) 3)))))))) : Int).toNat).toList then (some ((a0.extract (a1 : Int).toNat a0.size).extract 8 ((wrap64 (8 + (wrap64 ((wrap64 ((wrap64 ((wrap64 (bt (a0.extract (a1 : Int).toNat a0.size) 0)) + (wrap64 (256 * (wrap64 (bt (a0.extract (a1 : Int).toNat a0.size) 1)))))) + (wrap64 (65536 * (wrap64 (bt (a0.extract (a1 : Int).toNat a0.size) 2)))))) + (wrap64 (16777216 * (wrap64 (bt (a0.extract (a1 : Int).toNat a0.size) 3)))))))) : Int).toNat, wrap64 ((wrap64 (a1 + 12)) + (wrap64 ((wrap64 ((wrap64 ((wrap64 (bt (a0.extract (a1 : Int).toNat a0.size) 0)) + (wrap64 (256 * (wrap64 (bt (a0.extract (a1 : Int).toNat a0.size) 1)))))) + (wrap64 (65536 * (wrap64 (bt (a0.extract (a1 : Int).toNat a0.size) 2)))))) + (wrap64 (16777216 * (wrap64 (bt (a0.extract (a1 : Int).toNat a0.size) 3))))))), 0)) else (some ((⟨#[]⟩ : ByteArray), 0, 9))) else (none)) else (none)) else (none)))) else (none)) else (none)))) else (none)) else (none)) else (none)) else (none)) else (some ((⟨#[]⟩ : ByteArray), 0, 9))) else (none)) else (none)))) else (none)) else (none))) else (none)) else (none)) = some (r1, r2, r3) := by rw [if_neg (show ¬ (false = true) by decide)] at H; exact H
        clear H
        have H := H1
        clear H1
        by_cases c6 : 0 ≤ a1
        · rw [if_pos c6] at H
          have c6b0 := eq_true c6
          have c6b1 : decide (0 ≤ a1) = true := decide_eq_true c6
          clear c6
          by_cases c7 : a1 ≤ (a0.size : Int)
          · rw [if_pos c7] at H
            have c7b0 := eq_true c7
            have c7b1 : decide (a1 ≤ (a0.size : Int)) = true := decide_eq_true c7
            clear c7
            by_cases c8 : ((a0.extract (a1 : Int).toNat a0.size).size : Int) < 8
            · rw [if_pos c8] at H
              have c8b0 : decide (((a0.extract (a1 : Int).toNat a0.size).size : Int) < 8) = true := decide_eq_true c8
              try (have c8x0 := c8b0; simp only [ByteArray.size_extract, Nat.min_self] at c8x0)
              have c8b1 : decide ((a0.extract (a1 : Int).toNat a0.size).size < 8) = true := decide_eq_true (by omega)
              try (have c8x1 := c8b1; simp only [ByteArray.size_extract, Nat.min_self] at c8x1)
              clear c8
              simp only [Option.some.injEq, Prod.mk.injEq] at H
              obtain ⟨rfl, rfl, rfl⟩ := H
              go_wp2
              go_ret3
              exact ⟨by first | rfl | (simp [errW_none, errW_some] <;> rfl) | (simp [*, errW_none, errW_some] <;> rfl), by repeat (first | (with_reducible first | exact HB.out | apply below_alloc | apply pw_below_drewN | apply below_drew1) | exact HB.out)⟩
            · rw [if_neg c8] at H
              have c8b0 : decide (((a0.extract (a1 : Int).toNat a0.size).size : Int) < 8) = false := decide_eq_false c8
              try (have c8x0 := c8b0; simp only [ByteArray.size_extract, Nat.min_self] at c8x0)
              have c8b1 : decide ((a0.extract (a1 : Int).toNat a0.size).size < 8) = false := decide_eq_false (by omega)
              try (have c8x1 := c8b1; simp only [ByteArray.size_extract, Nat.min_self] at c8x1)
              clear c8
              by_cases c9 : 0 ≤ 4
              · rw [if_pos c9] at H
                have c9b0 := eq_true c9
                have c9b1 : decide (0 ≤ 4) = true := decide_eq_true c9
                clear c9
                by_cases c10 : 4 ≤ ((a0.extract (a1 : Int).toNat a0.size).size : Int)
                · rw [if_pos c10] at H
                  have c10b0 := eq_true c10
                  have c10b1 : decide (4 ≤ ((a0.extract (a1 : Int).toNat a0.size).size : Int)) = true := decide_eq_true c10
                  try (have c10x0 := c10b0; simp only [ByteArray.size_extract, Nat.min_self] at c10x0)
                  try (have c10x1 := c10b1; simp only [ByteArray.size_extract, Nat.min_self] at c10x1)
                  clear c10
                  replace H := Option.bind_eq_some_iff.mp H
                  obtain ⟨t144, A110, H⟩ := H
                  replace H : ((meterref03_four.f t144).bind fun t145 => (if 4 ≤ 8 then (if 8 ≤ ((a0.extract (a1 : Int).toNat a0.size).size : Int) then (if t145.toList = ((a0.extract (a1 : Int).toNat a0.size).extract 4 8).toList then (if 0 < ((a0.extract (a1 : Int).toNat a0.size).size : Int) then (if 1 < ((a0.extract (a1 : Int).toNat a0.size).size : Int) then (if 2 < ((a0.extract (a1 : Int).toNat a0.size).size : Int) then (if 3 < ((a0.extract (a1 : Int).toNat a0.size).size : Int) then (if (wrap64 ((wrap64 ((wrap64 ((wrap64 (bt (a0.extract (a1 : Int).toNat a0.size) 0)) + (wrap64 (256 * (wrap64 (bt (a0.extract (a1 : Int).toNat a0.size) 1)))))) + (wrap64 (65536 * (wrap64 (bt (a0.extract (a1 : Int).toNat a0.size) 2)))))) + (wrap64 (16777216 * (wrap64 (bt (a0.extract (a1 : Int).toNat a0.size) 3)))))) > 16384 then (some ((⟨#[]⟩ : ByteArray), 0, 3)) else (if ((a0.extract (a1 : Int).toNat a0.size).size : Int) < (wrap64 ((wrap64 ((wrap64 ((wrap64 ((wrap64 (bt (a0.extract (a1 : Int).toNat a0.size) 0)) + (wrap64 (256 * (wrap64 (bt (a0.extract (a1 : Int).toNat a0.size) 1)))))) + (wrap64 (65536 * (wrap64 (bt (a0.extract (a1 : Int).toNat a0.size) 2)))))) + (wrap64 (16777216 * (wrap64 (bt (a0.extract (a1 : Int).toNat a0.size) 3)))))) + 12)) then (some ((⟨#[]⟩ : ByteArray), 0, 7)) else (if 8 ≤ (wrap64 (8 + (wrap64 ((wrap64 ((wrap64 ((wrap64 (bt (a0.extract (a1 : Int).toNat a0.size) 0)) + (wrap64 (256 * (wrap64 (bt (a0.extract (a1 : Int).toNat a0.size) 1)))))) + (wrap64 (65536 * (wrap64 (bt (a0.extract (a1 : Int).toNat a0.size) 2)))))) + (wrap64 (16777216 * (wrap64 (bt (a0.extract (a1 : Int).toNat a0.size) 3)))))))) then (if (wrap64 (8 + (wrap64 ((wrap64 ((wrap64 ((wrap64 (bt (a0.extract (a1 : Int).toNat a0.size) 0)) + (wrap64 (256 * (wrap64 (bt (a0.extract (a1 : Int).toNat a0.size) 1)))))) + (wrap64 (65536 * (wrap64 (bt (a0.extract (a1 : Int).toNat a0.size) 2)))))) + (wrap64 (16777216 * (wrap64 (bt (a0.extract (a1 : Int).toNat a0.size) 3)))))))) ≤ ((a0.extract (a1 : Int).toNat a0.size).size : Int) then ((meterref01_Crc.f kj2 ((a0.extract (a1 : Int).toNat a0.size).extract 8 ((wrap64 (8 + (wrap64 ((wrap64 ((wrap64 ((wrap64 (bt (a0.extract (a1 : Int).toNat a0.size) 0)) + (wrap64 (256 * (wrap64 (bt (a0.extract (a1 : Int).toNat a0.size) 1)))))) + (wrap64 (65536 * (wrap64 (bt (a0.extract (a1 : Int).toNat a0.size) 2)))))) + (wrap64 (16777216 * (wrap64 (bt (a0.extract (a1 : Int).toNat a0.size) 3)))))))) : Int).toNat)).bind fun t146 => ((meterref03_four.f t146).bind fun t147 => (if 0 ≤ (wrap64 (8 + (wrap64 ((wrap64 ((wrap64 ((wrap64 (bt (a0.extract (a1 : Int).toNat a0.size) 0)) + (wrap64 (256 * (wrap64 (bt (a0.extract (a1 : Int).toNat a0.size) 1)))))) + (wrap64 (65536 * (wrap64 (bt (a0.extract (a1 : Int).toNat a0.size) 2)))))) + (wrap64 (16777216 * (wrap64 (bt (a0.extract (a1 : Int).toNat a0.size) 3)))))))) then (if (wrap64 (8 + (wrap64 ((wrap64 ((wrap64 ((wrap64 (bt (a0.extract (a1 : Int).toNat a0.size) 0)) + (wrap64 (256 * (wrap64 (bt (a0.extract (a1 : Int).toNat a0.size) 1)))))) + (wrap64 (65536 * (wrap64 (bt (a0.extract (a1 : Int).toNat a0.size) 2)))))) + (wrap64 (16777216 * (wrap64 (bt (a0.extract (a1 : Int).toNat a0.size) 3)))))))) ≤ (wrap64 (12 + (wrap64 ((wrap64 ((wrap64 ((wrap64 (bt (a0.extract (a1 : Int).toNat a0.size) 0)) + (wrap64 (256 * (wrap64 (bt (a0.extract (a1 : Int).toNat a0.size) 1)))))) + (wrap64 (65536 * (wrap64 (bt (a0.extract (a1 : Int).toNat a0.size) 2)))))) + (wrap64 (16777216 * (wrap64 (bt (a0.extract (a1 : Int).toNat a0.size) 3)))))))) then (if (wrap64 (12 + (wrap64 ((wrap64 ((wrap64 ((wrap64 (bt (a0.extract (a1 : Int).toNat a0.size) 0)) + (wrap64 (256 * (wrap64 (bt (a0.extract (a1 : Int).toNat a0.size) 1)))))) + (wrap64 (65536 * (wrap64 (bt (a0.extract (a1 : Int).toNat a0.size) 2)))))) + (wrap64 (16777216 * (wrap64 (bt (a0.extract (a1 : Int).toNat a0.size) 3)))))))) ≤ ((a0.extract (a1 : Int).toNat a0.size).size : Int) then (if t147.toList = ((a0.extract (a1 : Int).toNat a0.size).extract ((wrap64 (8 + (wrap64 ((wrap64 ((wrap64 ((wrap64 (bt (a0.extract (a1 : Int).toNat a0.size) 0)) + (wrap64 (256 * (wrap64 (bt (a0.extract (a1 : Int).toNat a0.size) 1)))))) + (wrap64 (65536 * (wrap64 (bt (a0.extract (a1 : Int).toNat a0.size) 2)))))) + (wrap64 (16777216 * (wrap64 (bt (a0.extract (a1 : Int).toNat a0.size) 3)))))))) : Int).toNat ((wrap64 (12 + (wrap64 ((wrap64 ((wrap64 ((wrap64 (bt (a0.extract (a1 : Int).toNat a0.size) 0)) + (wrap64 (256 * (wrap64 (bt (a0.extract (a1 : Int).toNat a0.size) 1)))))) + (wrap64 (65536 * (wrap64 (bt (a0.extract (a1 : Int).toNat a0.size) 2)))))) + (wrap64 (16777216 * (wrap64 (bt (a0.extract (a1 : Int).toNat a0.size) 3)))))))) : Int).toNat).toList then (some ((a0.extract (a1 : Int).toNat a0.size).extract 8 ((wrap64 (8 + (wrap64 ((wrap64 ((wrap64 ((wrap64 (bt (a0.extract (a1 : Int).toNat a0.size) 0)) + (wrap64 (256 * (wrap64 (bt (a0.extract (a1 : Int).toNat a0.size) 1)))))) + (wrap64 (65536 * (wrap64 (bt (a0.extract (a1 : Int).toNat a0.size) 2)))))) + (wrap64 (16777216 * (wrap64 (bt (a0.extract (a1 : Int).toNat a0.size) 3)))))))) : Int).toNat, wrap64 ((wrap64 (a1 + 12)) + (wrap64 ((wrap64 ((wrap64 ((wrap64 (bt (a0.extract (a1 : Int).toNat a0.size) 0)) + (wrap64 (256 * (wrap64 (bt (a0.extract (a1 : Int).toNat a0.size) 1)))))) + (wrap64 (65536 * (wrap64 (bt (a0.extract (a1 : Int).toNat a0.size) 2)))))) + (wrap64 (16777216 * (wrap64 (bt (a0.extract (a1 : Int).toNat a0.size) 3))))))), 0)) else (some ((⟨#[]⟩ : ByteArray), 0, 9))) else (none)) else (none)) else (none)))) else (none)) else (none)))) else (none)) else (none)) else (none)) else (none)) else (some ((⟨#[]⟩ : ByteArray), 0, 9))) else (none)) else (none))) = some (r1, r2, r3) := H
                  have A11 := Aside0.mk A110
                  clear A110
                  replace H := Option.bind_eq_some_iff.mp H
                  obtain ⟨t145, A120, H⟩ := H
                  replace H : (if 4 ≤ 8 then (if 8 ≤ ((a0.extract (a1 : Int).toNat a0.size).size : Int) then (if t145.toList = ((a0.extract (a1 : Int).toNat a0.size).extract 4 8).toList then (if 0 < ((a0.extract (a1 : Int).toNat a0.size).size : Int) then (if 1 < ((a0.extract (a1 : Int).toNat a0.size).size : Int) then (if 2 < ((a0.extract (a1 : Int).toNat a0.size).size : Int) then (if 3 < ((a0.extract (a1 : Int).toNat a0.size).size : Int) then (if (wrap64 ((wrap64 ((wrap64 ((wrap64 (bt (a0.extract (a1 : Int).toNat a0.size) 0)) + (wrap64 (256 * (wrap64 (bt (a0.extract (a1 : Int).toNat a0.size) 1)))))) + (wrap64 (65536 * (wrap64 (bt (a0.extract (a1 : Int).toNat a0.size) 2)))))) + (wrap64 (16777216 * (wrap64 (bt (a0.extract (a1 : Int).toNat a0.size) 3)))))) > 16384 then (some ((⟨#[]⟩ : ByteArray), 0, 3)) else (if ((a0.extract (a1 : Int).toNat a0.size).size : Int) < (wrap64 ((wrap64 ((wrap64 ((wrap64 ((wrap64 (bt (a0.extract (a1 : Int).toNat a0.size) 0)) + (wrap64 (256 * (wrap64 (bt (a0.extract (a1 : Int).toNat a0.size) 1)))))) + (wrap64 (65536 * (wrap64 (bt (a0.extract (a1 : Int).toNat a0.size) 2)))))) + (wrap64 (16777216 * (wrap64 (bt (a0.extract (a1 : Int).toNat a0.size) 3)))))) + 12)) then (some ((⟨#[]⟩ : ByteArray), 0, 7)) else (if 8 ≤ (wrap64 (8 + (wrap64 ((wrap64 ((wrap64 ((wrap64 (bt (a0.extract (a1 : Int).toNat a0.size) 0)) + (wrap64 (256 * (wrap64 (bt (a0.extract (a1 : Int).toNat a0.size) 1)))))) + (wrap64 (65536 * (wrap64 (bt (a0.extract (a1 : Int).toNat a0.size) 2)))))) + (wrap64 (16777216 * (wrap64 (bt (a0.extract (a1 : Int).toNat a0.size) 3)))))))) then (if (wrap64 (8 + (wrap64 ((wrap64 ((wrap64 ((wrap64 (bt (a0.extract (a1 : Int).toNat a0.size) 0)) + (wrap64 (256 * (wrap64 (bt (a0.extract (a1 : Int).toNat a0.size) 1)))))) + (wrap64 (65536 * (wrap64 (bt (a0.extract (a1 : Int).toNat a0.size) 2)))))) + (wrap64 (16777216 * (wrap64 (bt (a0.extract (a1 : Int).toNat a0.size) 3)))))))) ≤ ((a0.extract (a1 : Int).toNat a0.size).size : Int) then ((meterref01_Crc.f kj2 ((a0.extract (a1 : Int).toNat a0.size).extract 8 ((wrap64 (8 + (wrap64 ((wrap64 ((wrap64 ((wrap64 (bt (a0.extract (a1 : Int).toNat a0.size) 0)) + (wrap64 (256 * (wrap64 (bt (a0.extract (a1 : Int).toNat a0.size) 1)))))) + (wrap64 (65536 * (wrap64 (bt (a0.extract (a1 : Int).toNat a0.size) 2)))))) + (wrap64 (16777216 * (wrap64 (bt (a0.extract (a1 : Int).toNat a0.size) 3)))))))) : Int).toNat)).bind fun t146 => ((meterref03_four.f t146).bind fun t147 => (if 0 ≤ (wrap64 (8 + (wrap64 ((wrap64 ((wrap64 ((wrap64 (bt (a0.extract (a1 : Int).toNat a0.size) 0)) + (wrap64 (256 * (wrap64 (bt (a0.extract (a1 : Int).toNat a0.size) 1)))))) + (wrap64 (65536 * (wrap64 (bt (a0.extract (a1 : Int).toNat a0.size) 2)))))) + (wrap64 (16777216 * (wrap64 (bt (a0.extract (a1 : Int).toNat a0.size) 3)))))))) then (if (wrap64 (8 + (wrap64 ((wrap64 ((wrap64 ((wrap64 (bt (a0.extract (a1 : Int).toNat a0.size) 0)) + (wrap64 (256 * (wrap64 (bt (a0.extract (a1 : Int).toNat a0.size) 1)))))) + (wrap64 (65536 * (wrap64 (bt (a0.extract (a1 : Int).toNat a0.size) 2)))))) + (wrap64 (16777216 * (wrap64 (bt (a0.extract (a1 : Int).toNat a0.size) 3)))))))) ≤ (wrap64 (12 + (wrap64 ((wrap64 ((wrap64 ((wrap64 (bt (a0.extract (a1 : Int).toNat a0.size) 0)) + (wrap64 (256 * (wrap64 (bt (a0.extract (a1 : Int).toNat a0.size) 1)))))) + (wrap64 (65536 * (wrap64 (bt (a0.extract (a1 : Int).toNat a0.size) 2)))))) + (wrap64 (16777216 * (wrap64 (bt (a0.extract (a1 : Int).toNat a0.size) 3)))))))) then (if (wrap64 (12 + (wrap64 ((wrap64 ((wrap64 ((wrap64 (bt (a0.extract (a1 : Int).toNat a0.size) 0)) + (wrap64 (256 * (wrap64 (bt (a0.extract (a1 : Int).toNat a0.size) 1)))))) + (wrap64 (65536 * (wrap64 (bt (a0.extract (a1 : Int).toNat a0.size) 2)))))) + (wrap64 (16777216 * (wrap64 (bt (a0.extract (a1 : Int).toNat a0.size) 3)))))))) ≤ ((a0.extract (a1 : Int).toNat a0.size).size : Int) then (if t147.toList = ((a0.extract (a1 : Int).toNat a0.size).extract ((wrap64 (8 + (wrap64 ((wrap64 ((wrap64 ((wrap64 (bt (a0.extract (a1 : Int).toNat a0.size) 0)) + (wrap64 (256 * (wrap64 (bt (a0.extract (a1 : Int).toNat a0.size) 1)))))) + (wrap64 (65536 * (wrap64 (bt (a0.extract (a1 : Int).toNat a0.size) 2)))))) + (wrap64 (16777216 * (wrap64 (bt (a0.extract (a1 : Int).toNat a0.size) 3)))))))) : Int).toNat ((wrap64 (12 + (wrap64 ((wrap64 ((wrap64 ((wrap64 (bt (a0.extract (a1 : Int).toNat a0.size) 0)) + (wrap64 (256 * (wrap64 (bt (a0.extract (a1 : Int).toNat a0.size) 1)))))) + (wrap64 (65536 * (wrap64 (bt (a0.extract (a1 : Int).toNat a0.size) 2)))))) + (wrap64 (16777216 * (wrap64 (bt (a0.extract (a1 : Int).toNat a0.size) 3)))))))) : Int).toNat).toList then (some ((a0.extract (a1 : Int).toNat a0.size).extract 8 ((wrap64 (8 + (wrap64 ((wrap64 ((wrap64 ((wrap64 (bt (a0.extract (a1 : Int).toNat a0.size) 0)) + (wrap64 (256 * (wrap64 (bt (a0.extract (a1 : Int).toNat a0.size) 1)))))) + (wrap64 (65536 * (wrap64 (bt (a0.extract (a1 : Int).toNat a0.size) 2)))))) + (wrap64 (16777216 * (wrap64 (bt (a0.extract (a1 : Int).toNat a0.size) 3)))))))) : Int).toNat, wrap64 ((wrap64 (a1 + 12)) + (wrap64 ((wrap64 ((wrap64 ((wrap64 (bt (a0.extract (a1 : Int).toNat a0.size) 0)) + (wrap64 (256 * (wrap64 (bt (a0.extract (a1 : Int).toNat a0.size) 1)))))) + (wrap64 (65536 * (wrap64 (bt (a0.extract (a1 : Int).toNat a0.size) 2)))))) + (wrap64 (16777216 * (wrap64 (bt (a0.extract (a1 : Int).toNat a0.size) 3))))))), 0)) else (some ((⟨#[]⟩ : ByteArray), 0, 9))) else (none)) else (none)) else (none)))) else (none)) else (none)))) else (none)) else (none)) else (none)) else (none)) else (some ((⟨#[]⟩ : ByteArray), 0, 9))) else (none)) else (none)) = some (r1, r2, r3) := H
                  have A12 := Aside0.mk A120
                  clear A120
                  by_cases c13 : 4 ≤ 8
                  · rw [if_pos c13] at H
                    have c13b0 := eq_true c13
                    have c13b1 : decide (4 ≤ 8) = true := decide_eq_true c13
                    clear c13
                    by_cases c14 : 8 ≤ ((a0.extract (a1 : Int).toNat a0.size).size : Int)
                    · rw [if_pos c14] at H
                      have c14b0 := eq_true c14
                      have c14b1 : decide (8 ≤ ((a0.extract (a1 : Int).toNat a0.size).size : Int)) = true := decide_eq_true c14
                      try (have c14x0 := c14b0; simp only [ByteArray.size_extract, Nat.min_self] at c14x0)
                      try (have c14x1 := c14b1; simp only [ByteArray.size_extract, Nat.min_self] at c14x1)
                      clear c14
                      by_cases c15 : t145.toList = ((a0.extract (a1 : Int).toNat a0.size).extract 4 8).toList
                      · rw [if_pos c15] at H
                        have c15b0 : (t145.toList == ((a0.extract (a1 : Int).toNat a0.size).extract 4 8).toList) = true := beq_iff_eq.mpr c15
                        try (have c15x0 := c15b0; simp only [ByteArray.size_extract, Nat.min_self] at c15x0)
                        have c15b1 : (t145.toList != ((a0.extract (a1 : Int).toNat a0.size).extract 4 8).toList) = false := bne_eq_false_iff_eq.mpr c15
                        try (have c15x1 := c15b1; simp only [ByteArray.size_extract, Nat.min_self] at c15x1)
                        clear c15
                        by_cases c16 : 0 < ((a0.extract (a1 : Int).toNat a0.size).size : Int)
                        · rw [if_pos c16] at H
                          have c16b0 : decide (0 < ((a0.extract (a1 : Int).toNat a0.size).size : Int)) = true := decide_eq_true c16
                          try (have c16x0 := c16b0; simp only [ByteArray.size_extract, Nat.min_self] at c16x0)
                          have c16b1 : decide (0 < (a0.extract (a1 : Int).toNat a0.size).size) = true := decide_eq_true (by omega)
                          try (have c16x1 := c16b1; simp only [ByteArray.size_extract, Nat.min_self] at c16x1)
                          clear c16
                          by_cases c18 : 1 < ((a0.extract (a1 : Int).toNat a0.size).size : Int)
                          · rw [if_pos c18] at H
                            have c18b0 : decide (1 < ((a0.extract (a1 : Int).toNat a0.size).size : Int)) = true := decide_eq_true c18
                            try (have c18x0 := c18b0; simp only [ByteArray.size_extract, Nat.min_self] at c18x0)
                            have c18b1 : decide (1 < (a0.extract (a1 : Int).toNat a0.size).size) = true := decide_eq_true (by omega)
                            try (have c18x1 := c18b1; simp only [ByteArray.size_extract, Nat.min_self] at c18x1)
                            clear c18
                            by_cases c20 : 2 < ((a0.extract (a1 : Int).toNat a0.size).size : Int)
                            · rw [if_pos c20] at H
                              have c20b0 : decide (2 < ((a0.extract (a1 : Int).toNat a0.size).size : Int)) = true := decide_eq_true c20
                              try (have c20x0 := c20b0; simp only [ByteArray.size_extract, Nat.min_self] at c20x0)
                              have c20b1 : decide (2 < (a0.extract (a1 : Int).toNat a0.size).size) = true := decide_eq_true (by omega)
                              try (have c20x1 := c20b1; simp only [ByteArray.size_extract, Nat.min_self] at c20x1)
                              clear c20
                              by_cases c22 : 3 < ((a0.extract (a1 : Int).toNat a0.size).size : Int)
                              · rw [if_pos c22] at H
                                have c22b0 : decide (3 < ((a0.extract (a1 : Int).toNat a0.size).size : Int)) = true := decide_eq_true c22
                                try (have c22x0 := c22b0; simp only [ByteArray.size_extract, Nat.min_self] at c22x0)
                                have c22b1 : decide (3 < (a0.extract (a1 : Int).toNat a0.size).size) = true := decide_eq_true (by omega)
                                try (have c22x1 := c22b1; simp only [ByteArray.size_extract, Nat.min_self] at c22x1)
                                clear c22
                                by_cases c24 : (wrap64 ((wrap64 ((wrap64 ((wrap64 (bt (a0.extract (a1 : Int).toNat a0.size) 0)) + (wrap64 (256 * (wrap64 (bt (a0.extract (a1 : Int).toNat a0.size) 1)))))) + (wrap64 (65536 * (wrap64 (bt (a0.extract (a1 : Int).toNat a0.size) 2)))))) + (wrap64 (16777216 * (wrap64 (bt (a0.extract (a1 : Int).toNat a0.size) 3)))))) > 16384
                                · rw [if_pos c24] at H
                                  have c24b0 : decide (16384 < (wrap64 ((wrap64 ((wrap64 ((wrap64 (bt (a0.extract (a1 : Int).toNat a0.size) 0)) + (wrap64 (256 * (wrap64 (bt (a0.extract (a1 : Int).toNat a0.size) 1)))))) + (wrap64 (65536 * (wrap64 (bt (a0.extract (a1 : Int).toNat a0.size) 2)))))) + (wrap64 (16777216 * (wrap64 (bt (a0.extract (a1 : Int).toNat a0.size) 3))))))) = true := decide_eq_true c24
                                  try (have c24x0 := c24b0; simp only [ByteArray.size_extract, Nat.min_self] at c24x0)
                                  clear c24
                                  simp only [Option.some.injEq, Prod.mk.injEq] at H
                                  obtain ⟨rfl, rfl, rfl⟩ := H
                                  try go_wp2
                                  have n0_ := Aside0.mk (below_drew1 HB.out)
                                  clear HB
                                  have HB := n0_
                                  clear n0_
                                  refine start_ (n := 7) (S := fun w' => True) (ds := []) #[false, false, false, false, false, false, false] (by kernel_rfl) rfl rfl trivial (fun hHeld => ?_)
                                  generalize wc.drew = w25 at HB hHeld ⊢
                                  refine pure_ (i := 0) (N := some 23) (v := ?_) (a' := ?_) #[true, false, false, false, false, false, false] rfl rfl (by kernel_rfl) (fun _ _ _ h => h) (Or.inl ⟨by rfl, ?_⟩) ?_ ?_
                                  rotate_left
                                  · intro w'
                                    go_simp
                                    with_reducible rfl
                                  rotate_left
                                  · simp only [Act.put, List.setIfInBounds_toArray, List.set_cons_zero, List.set_cons_succ, i64_w, i32_w]
                                    rfl
                                  refine pure_ (i := 1) (N := some 24) (v := ?_) (a' := ?_) #[true, true, false, false, false, false, false] rfl rfl (by kernel_rfl) (fun _ _ _ h => h) (Or.inl ⟨by rfl, ?_⟩) ?_ ?_
                                  rotate_left
                                  · intro w'
                                    go_simp
                                    with_reducible rfl
                                  rotate_left
                                  · simp only [Act.put, List.setIfInBounds_toArray, List.set_cons_zero, List.set_cons_succ, i64_w, i32_w]
                                    rfl
                                  refine pure_ (i := 4) (N := some 27) (v := ?_) (a' := ?_) #[true, true, false, false, true, false, false] rfl rfl (by kernel_rfl) (fun _ _ _ h => h) (Or.inl ⟨by rfl, ?_⟩) ?_ ?_
                                  rotate_left
                                  · intro w'
                                    go_simp
                                    with_reducible rfl
                                  rotate_left
                                  · simp only [Act.put, List.setIfInBounds_toArray, List.set_cons_zero, List.set_cons_succ, i64_w, i32_w]
                                    rfl
                                  refine pure_ (i := 5) (N := some 28) (v := ?_) (a' := ?_) #[true, true, false, false, true, true, false] rfl rfl (by kernel_rfl) (fun _ _ _ h => h) (Or.inl ⟨by rfl, ?_⟩) ?_ ?_
                                  rotate_left
                                  · intro w'
                                    go_simp
                                    with_reducible rfl
                                  rotate_left
                                  · simp only [Act.put, List.setIfInBounds_toArray, List.set_cons_zero, List.set_cons_succ, i64_w, i32_w]
                                    rfl
                                  refine one_ (i := 2) (N := some 25) #[true, true, true, false, true, true, false] rfl rfl (by kernel_rfl) (by decide) (fun K hK => ?_)
                                  refine goes_ Try.func12 (by kernel_rfl) rfl #[.string ((a0.extract (a1 : Int).toNat a0.size).extract 0 4)] (by rfl) rfl rfl (by (try simp only [List.map_toArray, List.map_cons, List.map_nil]); first | done | rfl | (simp only [List.length_drop, List.length_take]; rfl)) ?_
                                  with_reducible refine (meterref01_Crc.calls kj2 ((a0.extract (a1 : Int).toNat a0.size).extract 0 4) t144 _ A11.out).mono ?_
                                  rintro e w' ⟨rfl, ⟨nd, rfl⟩⟩
                                  refine ⟨_, rfl, ?_⟩
                                  refine hK.out _ _ trivial (fun hHeld => ?_)
                                  clear hK K
                                  refine norm_ (a' := ?_) ?_ ?_
                                  rotate_left
                                  · show Act.put _ (some 25) _ = _
                                    simp only [Act.put, List.setIfInBounds_toArray, List.set_cons_zero, List.set_cons_succ, i64_w, i32_w]
                                    rfl
                                  refine one_ (i := 3) (N := some 26) #[true, true, true, true, true, true, false] rfl rfl (by kernel_rfl) (by decide) (fun K hK => ?_)
                                  refine goes_ Try.func20 (by kernel_rfl) rfl #[.int .u32 t144] (by rfl) rfl rfl (by (try simp only [List.map_toArray, List.map_cons, List.map_nil]); first | done | rfl | (simp only [List.length_drop, List.length_take]; rfl)) ?_
                                  with_reducible refine (meterref03_four.calls t144 t145 _ A12.out).mono ?_
                                  rintro e w26 ⟨rfl, hb⟩
                                  refine ⟨_, rfl, ?_⟩
                                  have n0_ := Aside0.mk (below_step (by repeat (first | (with_reducible first | exact HB.out | apply below_alloc | apply pw_below_drewN | apply below_drew1) | exact HB.out)) hb)
                                  clear HB
                                  have HB := n0_
                                  clear n0_
                                  (try clear hb)
                                  (try clear hb2)
                                  (try clear hk)
                                  (try clear hi)
                                  refine hK.out _ _ trivial (fun hHeld => ?_)
                                  clear hK K
                                  refine norm_ (a' := ?_) ?_ ?_
                                  rotate_left
                                  · show Act.put _ (some 26) _ = _
                                    simp only [Act.put, List.setIfInBounds_toArray, List.set_cons_zero, List.set_cons_succ, i64_w, i32_w]
                                    rfl
                                  refine pure_ (i := 6) (N := some 29) (v := ?_) (a' := ?_) #[true, true, true, true, true, true, true] rfl rfl (by kernel_rfl) (fun _ _ _ h => h) (Or.inl ⟨by rfl, ?_⟩) ?_ ?_
                                  rotate_left
                                  · intro w'
                                    go_simp
                                    with_reducible rfl
                                  rotate_left
                                  · simp only [Act.put, List.setIfInBounds_toArray, List.set_cons_zero, List.set_cons_succ, i64_w, i32_w]
                                    rfl
                                  refine done_ (by kernel_rfl) ?_
                                  try go_wp2
                                  have n0_ := Aside0.mk (below_drew1 HB.out)
                                  clear HB
                                  have HB := n0_
                                  clear n0_
                                  have p17 : 0 ≤ (0 : Int) := (by omega)
                                  have q17 : 0 < (a0.extract (a1 : Int).toNat a0.size).size := (by have : (0 : Int) < ((a0.extract (a1 : Int).toNat a0.size).size : Int) := of_decide_eq_true (by first | (with_reducible assumption) | assumption); omega)
                                  have hx17 : ∀ h : 0 < (a0.extract (a1 : Int).toNat a0.size).size, (((a0.extract (a1 : Int).toNat a0.size)[0]'h).toNat : Int) = bt (a0.extract (a1 : Int).toNat a0.size) 0 := bt_at (a0.extract (a1 : Int).toNat a0.size) 0
                                  clear p17
                                  have qi17 : (0 < ((a0.extract (a1 : Int).toNat a0.size).size : Int)) = True := eq_true (of_decide_eq_true (by first | (with_reducible assumption) | assumption))
                                  replace q17 := eq_true q17
                                  try (have qx17 := q17; simp only [ByteArray.size_extract, Nat.min_self] at qx17)
                                  try (have qix17 := qi17; simp only [ByteArray.size_extract, Nat.min_self] at qix17)
                                  have p19 : 0 ≤ (1 : Int) := (by omega)
                                  have q19 : 1 < (a0.extract (a1 : Int).toNat a0.size).size := (by have : (1 : Int) < ((a0.extract (a1 : Int).toNat a0.size).size : Int) := of_decide_eq_true (by first | (with_reducible assumption) | assumption); omega)
                                  have hx19 : ∀ h : 1 < (a0.extract (a1 : Int).toNat a0.size).size, (((a0.extract (a1 : Int).toNat a0.size)[1]'h).toNat : Int) = bt (a0.extract (a1 : Int).toNat a0.size) 1 := bt_at (a0.extract (a1 : Int).toNat a0.size) 1
                                  clear p19
                                  have qi19 : (1 < ((a0.extract (a1 : Int).toNat a0.size).size : Int)) = True := eq_true (of_decide_eq_true (by first | (with_reducible assumption) | assumption))
                                  replace q19 := eq_true q19
                                  try (have qx19 := q19; simp only [ByteArray.size_extract, Nat.min_self] at qx19)
                                  try (have qix19 := qi19; simp only [ByteArray.size_extract, Nat.min_self] at qix19)
                                  have p21 : 0 ≤ (2 : Int) := (by omega)
                                  have q21 : 2 < (a0.extract (a1 : Int).toNat a0.size).size := (by have : (2 : Int) < ((a0.extract (a1 : Int).toNat a0.size).size : Int) := of_decide_eq_true (by first | (with_reducible assumption) | assumption); omega)
                                  have hx21 : ∀ h : 2 < (a0.extract (a1 : Int).toNat a0.size).size, (((a0.extract (a1 : Int).toNat a0.size)[2]'h).toNat : Int) = bt (a0.extract (a1 : Int).toNat a0.size) 2 := bt_at (a0.extract (a1 : Int).toNat a0.size) 2
                                  clear p21
                                  have qi21 : (2 < ((a0.extract (a1 : Int).toNat a0.size).size : Int)) = True := eq_true (of_decide_eq_true (by first | (with_reducible assumption) | assumption))
                                  replace q21 := eq_true q21
                                  try (have qx21 := q21; simp only [ByteArray.size_extract, Nat.min_self] at qx21)
                                  try (have qix21 := qi21; simp only [ByteArray.size_extract, Nat.min_self] at qix21)
                                  have p23 : 0 ≤ (3 : Int) := (by omega)
                                  have q23 : 3 < (a0.extract (a1 : Int).toNat a0.size).size := (by have : (3 : Int) < ((a0.extract (a1 : Int).toNat a0.size).size : Int) := of_decide_eq_true (by first | (with_reducible assumption) | assumption); omega)
                                  have hx23 : ∀ h : 3 < (a0.extract (a1 : Int).toNat a0.size).size, (((a0.extract (a1 : Int).toNat a0.size)[3]'h).toNat : Int) = bt (a0.extract (a1 : Int).toNat a0.size) 3 := bt_at (a0.extract (a1 : Int).toNat a0.size) 3
                                  clear p23
                                  have qi23 : (3 < ((a0.extract (a1 : Int).toNat a0.size).size : Int)) = True := eq_true (of_decide_eq_true (by first | (with_reducible assumption) | assumption))
                                  replace q23 := eq_true q23
                                  try (have qx23 := q23; simp only [ByteArray.size_extract, Nat.min_self] at qx23)
                                  try (have qix23 := qi23; simp only [ByteArray.size_extract, Nat.min_self] at qix23)
                                  refine start_ (n := 19) (S := fun w' => True) (ds := []) #[false, false, false, false, false, false, false, false, false, false, false, false, false, false, false, false, false, false, false] (by kernel_rfl) rfl rfl trivial (fun hHeld => ?_); refine with_tabW meterref03_Next.tab8 meterref03_Next.bits8 (fun HT_ HW_ => ?_)
                                  generalize w26.drew = w27 at HB hHeld ⊢
                                  refine pure_ (i := 0) (N := some 30) (v := ?_) (a' := ?_) #[true, false, false, false, false, false, false, false, false, false, false, false, false, false, false, false, false, false, false] rfl rfl (any_of HT_.out (by kernel_rfl)) (fun _ _ _ h => h) (Or.inl ⟨by rfl, ?_⟩) ?_ ?_
                                  rotate_left
                                  · intro w'
                                    go_simp
                                    with_reducible rfl
                                  rotate_left
                                  · simp only [Act.put, List.setIfInBounds_toArray, List.set_cons_zero, List.set_cons_succ, i64_w, i32_w]
                                    rfl
                                  refine pure_ (i := 3) (N := some 33) (v := ?_) (a' := ?_) #[true, false, false, true, false, false, false, false, false, false, false, false, false, false, false, false, false, false, false] rfl rfl (any_of HT_.out (by kernel_rfl)) (fun _ _ _ h => h) (Or.inl ⟨by rfl, ?_⟩) ?_ ?_
                                  rotate_left
                                  · intro w'
                                    go_simp
                                    with_reducible rfl
                                  rotate_left
                                  · simp only [Act.put, List.setIfInBounds_toArray, List.set_cons_zero, List.set_cons_succ, i64_w, i32_w]
                                    rfl
                                  refine pure_ (i := 8) (N := some 38) (v := ?_) (a' := ?_) #[true, false, false, true, false, false, false, false, true, false, false, false, false, false, false, false, false, false, false] rfl rfl (any_of HT_.out (by kernel_rfl)) (fun _ _ _ h => h) (Or.inl ⟨by rfl, ?_⟩) ?_ ?_
                                  rotate_left
                                  · intro w'
                                    go_simp
                                    with_reducible rfl
                                  rotate_left
                                  · simp only [Act.put, List.setIfInBounds_toArray, List.set_cons_zero, List.set_cons_succ, i64_w, i32_w]
                                    rfl
                                  refine pure_ (i := 13) (N := some 43) (v := ?_) (a' := ?_) #[true, false, false, true, false, false, false, false, true, false, false, false, false, true, false, false, false, false, false] rfl rfl (any_of HT_.out (by kernel_rfl)) (fun _ _ _ h => h) (Or.inl ⟨by rfl, ?_⟩) ?_ ?_
                                  rotate_left
                                  · intro w'
                                    go_simp
                                    with_reducible rfl
                                  rotate_left
                                  · simp only [Act.put, List.setIfInBounds_toArray, List.set_cons_zero, List.set_cons_succ, i64_w, i32_w]
                                    rfl
                                  refine take_ (i := 1) (N := some 31) (v := ?_) (a' := ?_) #[true, true, false, true, false, false, false, false, true, false, false, false, false, true, false, false, false, false, false] rfl rfl (take_ofW HT_.out HW_.out (by kernel_rfl)) (fun _ _ _ h => h) (Or.inl ⟨by rfl, ?_⟩) hHeld ?_ ?_
                                  rotate_left
                                  · intro w' _
                                    go_simp
                                    with_reducible rfl
                                  rotate_left
                                  · simp only [Act.put, List.setIfInBounds_toArray, List.set_cons_zero, List.set_cons_succ, i64_w, i32_w]
                                    rfl
                                  refine pure_ (i := 2) (N := some 32) (v := ?_) (a' := ?_) #[true, true, true, true, false, false, false, false, true, false, false, false, false, true, false, false, false, false, false] rfl rfl (any_of HT_.out (by kernel_rfl)) (fun _ _ _ h => h) (Or.inl ⟨by rfl, ?_⟩) ?_ ?_
                                  rotate_left
                                  · intro w'
                                    go_simp
                                    with_reducible rfl
                                  rotate_left
                                  · simp only [Act.put, List.setIfInBounds_toArray, List.set_cons_zero, List.set_cons_succ, i64_w, i32_w]
                                    rfl
                                  refine take_ (i := 4) (N := some 34) (v := ?_) (a' := ?_) #[true, true, true, true, true, false, false, false, true, false, false, false, false, true, false, false, false, false, false] rfl rfl (take_ofW HT_.out HW_.out (by kernel_rfl)) (fun _ _ _ h => h) (Or.inl ⟨by rfl, ?_⟩) hHeld ?_ ?_
                                  rotate_left
                                  · intro w' _
                                    go_simp
                                    with_reducible rfl
                                  rotate_left
                                  · simp only [Act.put, List.setIfInBounds_toArray, List.set_cons_zero, List.set_cons_succ, i64_w, i32_w]
                                    rfl
                                  refine pure_ (i := 5) (N := some 35) (v := ?_) (a' := ?_) #[true, true, true, true, true, true, false, false, true, false, false, false, false, true, false, false, false, false, false] rfl rfl (any_of HT_.out (by kernel_rfl)) (fun _ _ _ h => h) (Or.inl ⟨by rfl, ?_⟩) ?_ ?_
                                  rotate_left
                                  · intro w'
                                    go_simp
                                    with_reducible rfl
                                  rotate_left
                                  · simp only [Act.put, List.setIfInBounds_toArray, List.set_cons_zero, List.set_cons_succ, i64_w, i32_w]
                                    rfl
                                  refine pure_ (i := 6) (N := some 36) (v := ?_) (a' := ?_) #[true, true, true, true, true, true, true, false, true, false, false, false, false, true, false, false, false, false, false] rfl rfl (any_of HT_.out (by kernel_rfl)) (fun _ _ _ h => h) (Or.inl ⟨by rfl, ?_⟩) ?_ ?_
                                  rotate_left
                                  · intro w'
                                    go_simp
                                    with_reducible rfl
                                  rotate_left
                                  · simp only [Act.put, List.setIfInBounds_toArray, List.set_cons_zero, List.set_cons_succ, i64_w, i32_w]
                                    rfl
                                  refine pure_ (i := 7) (N := some 37) (v := ?_) (a' := ?_) #[true, true, true, true, true, true, true, true, true, false, false, false, false, true, false, false, false, false, false] rfl rfl (any_of HT_.out (by kernel_rfl)) (fun _ _ _ h => h) (Or.inl ⟨by rfl, ?_⟩) ?_ ?_
                                  rotate_left
                                  · intro w'
                                    go_simp
                                    with_reducible rfl
                                  rotate_left
                                  · simp only [Act.put, List.setIfInBounds_toArray, List.set_cons_zero, List.set_cons_succ, i64_w, i32_w]
                                    rfl
                                  refine take_ (i := 9) (N := some 39) (v := ?_) (a' := ?_) #[true, true, true, true, true, true, true, true, true, true, false, false, false, true, false, false, false, false, false] rfl rfl (take_ofW HT_.out HW_.out (by kernel_rfl)) (fun _ _ _ h => h) (Or.inl ⟨by rfl, ?_⟩) hHeld ?_ ?_
                                  rotate_left
                                  · intro w' _
                                    go_simp
                                    with_reducible rfl
                                  rotate_left
                                  · simp only [Act.put, List.setIfInBounds_toArray, List.set_cons_zero, List.set_cons_succ, i64_w, i32_w]
                                    rfl
                                  refine pure_ (i := 10) (N := some 40) (v := ?_) (a' := ?_) #[true, true, true, true, true, true, true, true, true, true, true, false, false, true, false, false, false, false, false] rfl rfl (any_of HT_.out (by kernel_rfl)) (fun _ _ _ h => h) (Or.inl ⟨by rfl, ?_⟩) ?_ ?_
                                  rotate_left
                                  · intro w'
                                    go_simp
                                    with_reducible rfl
                                  rotate_left
                                  · simp only [Act.put, List.setIfInBounds_toArray, List.set_cons_zero, List.set_cons_succ, i64_w, i32_w]
                                    rfl
                                  refine pure_ (i := 11) (N := some 41) (v := ?_) (a' := ?_) #[true, true, true, true, true, true, true, true, true, true, true, true, false, true, false, false, false, false, false] rfl rfl (any_of HT_.out (by kernel_rfl)) (fun _ _ _ h => h) (Or.inl ⟨by rfl, ?_⟩) ?_ ?_
                                  rotate_left
                                  · intro w'
                                    go_simp
                                    with_reducible rfl
                                  rotate_left
                                  · simp only [Act.put, List.setIfInBounds_toArray, List.set_cons_zero, List.set_cons_succ, i64_w, i32_w]
                                    rfl
                                  refine pure_ (i := 12) (N := some 42) (v := ?_) (a' := ?_) #[true, true, true, true, true, true, true, true, true, true, true, true, true, true, false, false, false, false, false] rfl rfl (any_of HT_.out (by kernel_rfl)) (fun _ _ _ h => h) (Or.inl ⟨by rfl, ?_⟩) ?_ ?_
                                  rotate_left
                                  · intro w'
                                    go_simp
                                    with_reducible rfl
                                  rotate_left
                                  · simp only [Act.put, List.setIfInBounds_toArray, List.set_cons_zero, List.set_cons_succ, i64_w, i32_w]
                                    rfl
                                  refine take_ (i := 14) (N := some 44) (v := ?_) (a' := ?_) #[true, true, true, true, true, true, true, true, true, true, true, true, true, true, true, false, false, false, false] rfl rfl (take_ofW HT_.out HW_.out (by kernel_rfl)) (fun _ _ _ h => h) (Or.inl ⟨by rfl, ?_⟩) hHeld ?_ ?_
                                  rotate_left
                                  · intro w' _
                                    go_simp
                                    with_reducible rfl
                                  rotate_left
                                  · simp only [Act.put, List.setIfInBounds_toArray, List.set_cons_zero, List.set_cons_succ, i64_w, i32_w]
                                    rfl
                                  refine pure_ (i := 15) (N := some 45) (v := ?_) (a' := ?_) #[true, true, true, true, true, true, true, true, true, true, true, true, true, true, true, true, false, false, false] rfl rfl (any_of HT_.out (by kernel_rfl)) (fun _ _ _ h => h) (Or.inl ⟨by rfl, ?_⟩) ?_ ?_
                                  rotate_left
                                  · intro w'
                                    go_simp
                                    with_reducible rfl
                                  rotate_left
                                  · simp only [Act.put, List.setIfInBounds_toArray, List.set_cons_zero, List.set_cons_succ, i64_w, i32_w]
                                    rfl
                                  refine pure_ (i := 16) (N := some 46) (v := ?_) (a' := ?_) #[true, true, true, true, true, true, true, true, true, true, true, true, true, true, true, true, true, false, false] rfl rfl (any_of HT_.out (by kernel_rfl)) (fun _ _ _ h => h) (Or.inl ⟨by rfl, ?_⟩) ?_ ?_
                                  rotate_left
                                  · intro w'
                                    go_simp
                                    with_reducible rfl
                                  rotate_left
                                  · simp only [Act.put, List.setIfInBounds_toArray, List.set_cons_zero, List.set_cons_succ, i64_w, i32_w]
                                    rfl
                                  refine pure_ (i := 17) (N := some 47) (v := ?_) (a' := ?_) #[true, true, true, true, true, true, true, true, true, true, true, true, true, true, true, true, true, true, false] rfl rfl (any_of HT_.out (by kernel_rfl)) (fun _ _ _ h => h) (Or.inl ⟨by rfl, ?_⟩) ?_ ?_
                                  rotate_left
                                  · intro w'
                                    go_simp
                                    with_reducible rfl
                                  rotate_left
                                  · simp only [Act.put, List.setIfInBounds_toArray, List.set_cons_zero, List.set_cons_succ, i64_w, i32_w]
                                    rfl
                                  refine pure_ (i := 18) (N := some 7) (v := ?_) (a' := ?_) #[true, true, true, true, true, true, true, true, true, true, true, true, true, true, true, true, true, true, true] rfl rfl (any_of HT_.out (by kernel_rfl)) (fun _ _ _ h => h) (Or.inl ⟨by rfl, ?_⟩) ?_ ?_
                                  rotate_left
                                  · intro w'
                                    go_simp
                                    with_reducible rfl
                                  rotate_left
                                  · simp only [Act.put, List.setIfInBounds_toArray, List.set_cons_zero, List.set_cons_succ, i64_w, i32_w]
                                    rfl
                                  refine done_ (done_of HT_.out (by kernel_rfl)) ?_
                                  try go_wp2
                                  go_ret3
                                  exact ⟨by first | rfl | (simp [errW_none, errW_some] <;> rfl) | (simp [*, errW_none, errW_some] <;> rfl), by repeat (first | (with_reducible first | exact HB.out | apply below_alloc | apply pw_below_drewN | apply below_drew1) | exact HB.out)⟩
                                · rw [if_neg c24] at H
                                  have c24b0 : decide (16384 < (wrap64 ((wrap64 ((wrap64 ((wrap64 (bt (a0.extract (a1 : Int).toNat a0.size) 0)) + (wrap64 (256 * (wrap64 (bt (a0.extract (a1 : Int).toNat a0.size) 1)))))) + (wrap64 (65536 * (wrap64 (bt (a0.extract (a1 : Int).toNat a0.size) 2)))))) + (wrap64 (16777216 * (wrap64 (bt (a0.extract (a1 : Int).toNat a0.size) 3))))))) = false := decide_eq_false c24
                                  try (have c24x0 := c24b0; simp only [ByteArray.size_extract, Nat.min_self] at c24x0)
                                  clear c24
                                  by_cases c28 : ((a0.extract (a1 : Int).toNat a0.size).size : Int) < (wrap64 ((wrap64 ((wrap64 ((wrap64 ((wrap64 (bt (a0.extract (a1 : Int).toNat a0.size) 0)) + (wrap64 (256 * (wrap64 (bt (a0.extract (a1 : Int).toNat a0.size) 1)))))) + (wrap64 (65536 * (wrap64 (bt (a0.extract (a1 : Int).toNat a0.size) 2)))))) + (wrap64 (16777216 * (wrap64 (bt (a0.extract (a1 : Int).toNat a0.size) 3)))))) + 12))
                                  · rw [if_pos c28] at H
                                    have c28b0 : decide (((a0.extract (a1 : Int).toNat a0.size).size : Int) < (wrap64 ((wrap64 ((wrap64 ((wrap64 ((wrap64 (bt (a0.extract (a1 : Int).toNat a0.size) 0)) + (wrap64 (256 * (wrap64 (bt (a0.extract (a1 : Int).toNat a0.size) 1)))))) + (wrap64 (65536 * (wrap64 (bt (a0.extract (a1 : Int).toNat a0.size) 2)))))) + (wrap64 (16777216 * (wrap64 (bt (a0.extract (a1 : Int).toNat a0.size) 3)))))) + 12))) = true := decide_eq_true c28
                                    try (have c28x0 := c28b0; simp only [ByteArray.size_extract, Nat.min_self] at c28x0)
                                    clear c28
                                    simp only [Option.some.injEq, Prod.mk.injEq] at H
                                    obtain ⟨rfl, rfl, rfl⟩ := H
                                    try go_wp2
                                    have n0_ := Aside0.mk (below_drew1 HB.out)
                                    clear HB
                                    have HB := n0_
                                    clear n0_
                                    refine start_ (n := 7) (S := fun w' => True) (ds := []) #[false, false, false, false, false, false, false] (by kernel_rfl) rfl rfl trivial (fun hHeld => ?_)
                                    generalize wc.drew = w29 at HB hHeld ⊢
                                    refine pure_ (i := 0) (N := some 23) (v := ?_) (a' := ?_) #[true, false, false, false, false, false, false] rfl rfl (by kernel_rfl) (fun _ _ _ h => h) (Or.inl ⟨by rfl, ?_⟩) ?_ ?_
                                    rotate_left
                                    · intro w'
                                      go_simp
                                      with_reducible rfl
                                    rotate_left
                                    · simp only [Act.put, List.setIfInBounds_toArray, List.set_cons_zero, List.set_cons_succ, i64_w, i32_w]
                                      rfl
                                    refine pure_ (i := 1) (N := some 24) (v := ?_) (a' := ?_) #[true, true, false, false, false, false, false] rfl rfl (by kernel_rfl) (fun _ _ _ h => h) (Or.inl ⟨by rfl, ?_⟩) ?_ ?_
                                    rotate_left
                                    · intro w'
                                      go_simp
                                      with_reducible rfl
                                    rotate_left
                                    · simp only [Act.put, List.setIfInBounds_toArray, List.set_cons_zero, List.set_cons_succ, i64_w, i32_w]
                                      rfl
                                    refine pure_ (i := 4) (N := some 27) (v := ?_) (a' := ?_) #[true, true, false, false, true, false, false] rfl rfl (by kernel_rfl) (fun _ _ _ h => h) (Or.inl ⟨by rfl, ?_⟩) ?_ ?_
                                    rotate_left
                                    · intro w'
                                      go_simp
                                      with_reducible rfl
                                    rotate_left
                                    · simp only [Act.put, List.setIfInBounds_toArray, List.set_cons_zero, List.set_cons_succ, i64_w, i32_w]
                                      rfl
                                    refine pure_ (i := 5) (N := some 28) (v := ?_) (a' := ?_) #[true, true, false, false, true, true, false] rfl rfl (by kernel_rfl) (fun _ _ _ h => h) (Or.inl ⟨by rfl, ?_⟩) ?_ ?_
                                    rotate_left
                                    · intro w'
                                      go_simp
                                      with_reducible rfl
                                    rotate_left
                                    · simp only [Act.put, List.setIfInBounds_toArray, List.set_cons_zero, List.set_cons_succ, i64_w, i32_w]
                                      rfl
                                    refine one_ (i := 2) (N := some 25) #[true, true, true, false, true, true, false] rfl rfl (by kernel_rfl) (by decide) (fun K hK => ?_)
                                    refine goes_ Try.func12 (by kernel_rfl) rfl #[.string ((a0.extract (a1 : Int).toNat a0.size).extract 0 4)] (by rfl) rfl rfl (by (try simp only [List.map_toArray, List.map_cons, List.map_nil]); first | done | rfl | (simp only [List.length_drop, List.length_take]; rfl)) ?_
                                    with_reducible refine (meterref01_Crc.calls kj2 ((a0.extract (a1 : Int).toNat a0.size).extract 0 4) t144 _ A11.out).mono ?_
                                    rintro e w' ⟨rfl, ⟨nd, rfl⟩⟩
                                    refine ⟨_, rfl, ?_⟩
                                    refine hK.out _ _ trivial (fun hHeld => ?_)
                                    clear hK K
                                    refine norm_ (a' := ?_) ?_ ?_
                                    rotate_left
                                    · show Act.put _ (some 25) _ = _
                                      simp only [Act.put, List.setIfInBounds_toArray, List.set_cons_zero, List.set_cons_succ, i64_w, i32_w]
                                      rfl
                                    refine one_ (i := 3) (N := some 26) #[true, true, true, true, true, true, false] rfl rfl (by kernel_rfl) (by decide) (fun K hK => ?_)
                                    refine goes_ Try.func20 (by kernel_rfl) rfl #[.int .u32 t144] (by rfl) rfl rfl (by (try simp only [List.map_toArray, List.map_cons, List.map_nil]); first | done | rfl | (simp only [List.length_drop, List.length_take]; rfl)) ?_
                                    with_reducible refine (meterref03_four.calls t144 t145 _ A12.out).mono ?_
                                    rintro e w30 ⟨rfl, hb⟩
                                    refine ⟨_, rfl, ?_⟩
                                    have n0_ := Aside0.mk (below_step (by repeat (first | (with_reducible first | exact HB.out | apply below_alloc | apply pw_below_drewN | apply below_drew1) | exact HB.out)) hb)
                                    clear HB
                                    have HB := n0_
                                    clear n0_
                                    (try clear hb)
                                    (try clear hb2)
                                    (try clear hk)
                                    (try clear hi)
                                    refine hK.out _ _ trivial (fun hHeld => ?_)
                                    clear hK K
                                    refine norm_ (a' := ?_) ?_ ?_
                                    rotate_left
                                    · show Act.put _ (some 26) _ = _
                                      simp only [Act.put, List.setIfInBounds_toArray, List.set_cons_zero, List.set_cons_succ, i64_w, i32_w]
                                      rfl
                                    refine pure_ (i := 6) (N := some 29) (v := ?_) (a' := ?_) #[true, true, true, true, true, true, true] rfl rfl (by kernel_rfl) (fun _ _ _ h => h) (Or.inl ⟨by rfl, ?_⟩) ?_ ?_
                                    rotate_left
                                    · intro w'
                                      go_simp
                                      with_reducible rfl
                                    rotate_left
                                    · simp only [Act.put, List.setIfInBounds_toArray, List.set_cons_zero, List.set_cons_succ, i64_w, i32_w]
                                      rfl
                                    refine done_ (by kernel_rfl) ?_
                                    try go_wp2
                                    have n0_ := Aside0.mk (below_drew1 HB.out)
                                    clear HB
                                    have HB := n0_
                                    clear n0_
                                    have p17 : 0 ≤ (0 : Int) := (by omega)
                                    have q17 : 0 < (a0.extract (a1 : Int).toNat a0.size).size := (by have : (0 : Int) < ((a0.extract (a1 : Int).toNat a0.size).size : Int) := of_decide_eq_true (by first | (with_reducible assumption) | assumption); omega)
                                    have hx17 : ∀ h : 0 < (a0.extract (a1 : Int).toNat a0.size).size, (((a0.extract (a1 : Int).toNat a0.size)[0]'h).toNat : Int) = bt (a0.extract (a1 : Int).toNat a0.size) 0 := bt_at (a0.extract (a1 : Int).toNat a0.size) 0
                                    clear p17
                                    have qi17 : (0 < ((a0.extract (a1 : Int).toNat a0.size).size : Int)) = True := eq_true (of_decide_eq_true (by first | (with_reducible assumption) | assumption))
                                    replace q17 := eq_true q17
                                    try (have qx17 := q17; simp only [ByteArray.size_extract, Nat.min_self] at qx17)
                                    try (have qix17 := qi17; simp only [ByteArray.size_extract, Nat.min_self] at qix17)
                                    have p19 : 0 ≤ (1 : Int) := (by omega)
                                    have q19 : 1 < (a0.extract (a1 : Int).toNat a0.size).size := (by have : (1 : Int) < ((a0.extract (a1 : Int).toNat a0.size).size : Int) := of_decide_eq_true (by first | (with_reducible assumption) | assumption); omega)
                                    have hx19 : ∀ h : 1 < (a0.extract (a1 : Int).toNat a0.size).size, (((a0.extract (a1 : Int).toNat a0.size)[1]'h).toNat : Int) = bt (a0.extract (a1 : Int).toNat a0.size) 1 := bt_at (a0.extract (a1 : Int).toNat a0.size) 1
                                    clear p19
                                    have qi19 : (1 < ((a0.extract (a1 : Int).toNat a0.size).size : Int)) = True := eq_true (of_decide_eq_true (by first | (with_reducible assumption) | assumption))
                                    replace q19 := eq_true q19
                                    try (have qx19 := q19; simp only [ByteArray.size_extract, Nat.min_self] at qx19)
                                    try (have qix19 := qi19; simp only [ByteArray.size_extract, Nat.min_self] at qix19)
                                    have p21 : 0 ≤ (2 : Int) := (by omega)
                                    have q21 : 2 < (a0.extract (a1 : Int).toNat a0.size).size := (by have : (2 : Int) < ((a0.extract (a1 : Int).toNat a0.size).size : Int) := of_decide_eq_true (by first | (with_reducible assumption) | assumption); omega)
                                    have hx21 : ∀ h : 2 < (a0.extract (a1 : Int).toNat a0.size).size, (((a0.extract (a1 : Int).toNat a0.size)[2]'h).toNat : Int) = bt (a0.extract (a1 : Int).toNat a0.size) 2 := bt_at (a0.extract (a1 : Int).toNat a0.size) 2
                                    clear p21
                                    have qi21 : (2 < ((a0.extract (a1 : Int).toNat a0.size).size : Int)) = True := eq_true (of_decide_eq_true (by first | (with_reducible assumption) | assumption))
                                    replace q21 := eq_true q21
                                    try (have qx21 := q21; simp only [ByteArray.size_extract, Nat.min_self] at qx21)
                                    try (have qix21 := qi21; simp only [ByteArray.size_extract, Nat.min_self] at qix21)
                                    have p23 : 0 ≤ (3 : Int) := (by omega)
                                    have q23 : 3 < (a0.extract (a1 : Int).toNat a0.size).size := (by have : (3 : Int) < ((a0.extract (a1 : Int).toNat a0.size).size : Int) := of_decide_eq_true (by first | (with_reducible assumption) | assumption); omega)
                                    have hx23 : ∀ h : 3 < (a0.extract (a1 : Int).toNat a0.size).size, (((a0.extract (a1 : Int).toNat a0.size)[3]'h).toNat : Int) = bt (a0.extract (a1 : Int).toNat a0.size) 3 := bt_at (a0.extract (a1 : Int).toNat a0.size) 3
                                    clear p23
                                    have qi23 : (3 < ((a0.extract (a1 : Int).toNat a0.size).size : Int)) = True := eq_true (of_decide_eq_true (by first | (with_reducible assumption) | assumption))
                                    replace q23 := eq_true q23
                                    try (have qx23 := q23; simp only [ByteArray.size_extract, Nat.min_self] at qx23)
                                    try (have qix23 := qi23; simp only [ByteArray.size_extract, Nat.min_self] at qix23)
                                    refine start_ (n := 19) (S := fun w' => True) (ds := []) #[false, false, false, false, false, false, false, false, false, false, false, false, false, false, false, false, false, false, false] (by kernel_rfl) rfl rfl trivial (fun hHeld => ?_); refine with_tabW meterref03_Next.tab8 meterref03_Next.bits8 (fun HT_ HW_ => ?_)
                                    generalize w30.drew = w31 at HB hHeld ⊢
                                    refine pure_ (i := 0) (N := some 30) (v := ?_) (a' := ?_) #[true, false, false, false, false, false, false, false, false, false, false, false, false, false, false, false, false, false, false] rfl rfl (any_of HT_.out (by kernel_rfl)) (fun _ _ _ h => h) (Or.inl ⟨by rfl, ?_⟩) ?_ ?_
                                    rotate_left
                                    · intro w'
                                      go_simp
                                      with_reducible rfl
                                    rotate_left
                                    · simp only [Act.put, List.setIfInBounds_toArray, List.set_cons_zero, List.set_cons_succ, i64_w, i32_w]
                                      rfl
                                    refine pure_ (i := 3) (N := some 33) (v := ?_) (a' := ?_) #[true, false, false, true, false, false, false, false, false, false, false, false, false, false, false, false, false, false, false] rfl rfl (any_of HT_.out (by kernel_rfl)) (fun _ _ _ h => h) (Or.inl ⟨by rfl, ?_⟩) ?_ ?_
                                    rotate_left
                                    · intro w'
                                      go_simp
                                      with_reducible rfl
                                    rotate_left
                                    · simp only [Act.put, List.setIfInBounds_toArray, List.set_cons_zero, List.set_cons_succ, i64_w, i32_w]
                                      rfl
                                    refine pure_ (i := 8) (N := some 38) (v := ?_) (a' := ?_) #[true, false, false, true, false, false, false, false, true, false, false, false, false, false, false, false, false, false, false] rfl rfl (any_of HT_.out (by kernel_rfl)) (fun _ _ _ h => h) (Or.inl ⟨by rfl, ?_⟩) ?_ ?_
                                    rotate_left
                                    · intro w'
                                      go_simp
                                      with_reducible rfl
                                    rotate_left
                                    · simp only [Act.put, List.setIfInBounds_toArray, List.set_cons_zero, List.set_cons_succ, i64_w, i32_w]
                                      rfl
                                    refine pure_ (i := 13) (N := some 43) (v := ?_) (a' := ?_) #[true, false, false, true, false, false, false, false, true, false, false, false, false, true, false, false, false, false, false] rfl rfl (any_of HT_.out (by kernel_rfl)) (fun _ _ _ h => h) (Or.inl ⟨by rfl, ?_⟩) ?_ ?_
                                    rotate_left
                                    · intro w'
                                      go_simp
                                      with_reducible rfl
                                    rotate_left
                                    · simp only [Act.put, List.setIfInBounds_toArray, List.set_cons_zero, List.set_cons_succ, i64_w, i32_w]
                                      rfl
                                    refine take_ (i := 1) (N := some 31) (v := ?_) (a' := ?_) #[true, true, false, true, false, false, false, false, true, false, false, false, false, true, false, false, false, false, false] rfl rfl (take_ofW HT_.out HW_.out (by kernel_rfl)) (fun _ _ _ h => h) (Or.inl ⟨by rfl, ?_⟩) hHeld ?_ ?_
                                    rotate_left
                                    · intro w' _
                                      go_simp
                                      with_reducible rfl
                                    rotate_left
                                    · simp only [Act.put, List.setIfInBounds_toArray, List.set_cons_zero, List.set_cons_succ, i64_w, i32_w]
                                      rfl
                                    refine pure_ (i := 2) (N := some 32) (v := ?_) (a' := ?_) #[true, true, true, true, false, false, false, false, true, false, false, false, false, true, false, false, false, false, false] rfl rfl (any_of HT_.out (by kernel_rfl)) (fun _ _ _ h => h) (Or.inl ⟨by rfl, ?_⟩) ?_ ?_
                                    rotate_left
                                    · intro w'
                                      go_simp
                                      with_reducible rfl
                                    rotate_left
                                    · simp only [Act.put, List.setIfInBounds_toArray, List.set_cons_zero, List.set_cons_succ, i64_w, i32_w]
                                      rfl
                                    refine take_ (i := 4) (N := some 34) (v := ?_) (a' := ?_) #[true, true, true, true, true, false, false, false, true, false, false, false, false, true, false, false, false, false, false] rfl rfl (take_ofW HT_.out HW_.out (by kernel_rfl)) (fun _ _ _ h => h) (Or.inl ⟨by rfl, ?_⟩) hHeld ?_ ?_
                                    rotate_left
                                    · intro w' _
                                      go_simp
                                      with_reducible rfl
                                    rotate_left
                                    · simp only [Act.put, List.setIfInBounds_toArray, List.set_cons_zero, List.set_cons_succ, i64_w, i32_w]
                                      rfl
                                    refine pure_ (i := 5) (N := some 35) (v := ?_) (a' := ?_) #[true, true, true, true, true, true, false, false, true, false, false, false, false, true, false, false, false, false, false] rfl rfl (any_of HT_.out (by kernel_rfl)) (fun _ _ _ h => h) (Or.inl ⟨by rfl, ?_⟩) ?_ ?_
                                    rotate_left
                                    · intro w'
                                      go_simp
                                      with_reducible rfl
                                    rotate_left
                                    · simp only [Act.put, List.setIfInBounds_toArray, List.set_cons_zero, List.set_cons_succ, i64_w, i32_w]
                                      rfl
                                    refine pure_ (i := 6) (N := some 36) (v := ?_) (a' := ?_) #[true, true, true, true, true, true, true, false, true, false, false, false, false, true, false, false, false, false, false] rfl rfl (any_of HT_.out (by kernel_rfl)) (fun _ _ _ h => h) (Or.inl ⟨by rfl, ?_⟩) ?_ ?_
                                    rotate_left
                                    · intro w'
                                      go_simp
                                      with_reducible rfl
                                    rotate_left
                                    · simp only [Act.put, List.setIfInBounds_toArray, List.set_cons_zero, List.set_cons_succ, i64_w, i32_w]
                                      rfl
                                    refine pure_ (i := 7) (N := some 37) (v := ?_) (a' := ?_) #[true, true, true, true, true, true, true, true, true, false, false, false, false, true, false, false, false, false, false] rfl rfl (any_of HT_.out (by kernel_rfl)) (fun _ _ _ h => h) (Or.inl ⟨by rfl, ?_⟩) ?_ ?_
                                    rotate_left
                                    · intro w'
                                      go_simp
                                      with_reducible rfl
                                    rotate_left
                                    · simp only [Act.put, List.setIfInBounds_toArray, List.set_cons_zero, List.set_cons_succ, i64_w, i32_w]
                                      rfl
                                    refine take_ (i := 9) (N := some 39) (v := ?_) (a' := ?_) #[true, true, true, true, true, true, true, true, true, true, false, false, false, true, false, false, false, false, false] rfl rfl (take_ofW HT_.out HW_.out (by kernel_rfl)) (fun _ _ _ h => h) (Or.inl ⟨by rfl, ?_⟩) hHeld ?_ ?_
                                    rotate_left
                                    · intro w' _
                                      go_simp
                                      with_reducible rfl
                                    rotate_left
                                    · simp only [Act.put, List.setIfInBounds_toArray, List.set_cons_zero, List.set_cons_succ, i64_w, i32_w]
                                      rfl
                                    refine pure_ (i := 10) (N := some 40) (v := ?_) (a' := ?_) #[true, true, true, true, true, true, true, true, true, true, true, false, false, true, false, false, false, false, false] rfl rfl (any_of HT_.out (by kernel_rfl)) (fun _ _ _ h => h) (Or.inl ⟨by rfl, ?_⟩) ?_ ?_
                                    rotate_left
                                    · intro w'
                                      go_simp
                                      with_reducible rfl
                                    rotate_left
                                    · simp only [Act.put, List.setIfInBounds_toArray, List.set_cons_zero, List.set_cons_succ, i64_w, i32_w]
                                      rfl
                                    refine pure_ (i := 11) (N := some 41) (v := ?_) (a' := ?_) #[true, true, true, true, true, true, true, true, true, true, true, true, false, true, false, false, false, false, false] rfl rfl (any_of HT_.out (by kernel_rfl)) (fun _ _ _ h => h) (Or.inl ⟨by rfl, ?_⟩) ?_ ?_
                                    rotate_left
                                    · intro w'
                                      go_simp
                                      with_reducible rfl
                                    rotate_left
                                    · simp only [Act.put, List.setIfInBounds_toArray, List.set_cons_zero, List.set_cons_succ, i64_w, i32_w]
                                      rfl
                                    refine pure_ (i := 12) (N := some 42) (v := ?_) (a' := ?_) #[true, true, true, true, true, true, true, true, true, true, true, true, true, true, false, false, false, false, false] rfl rfl (any_of HT_.out (by kernel_rfl)) (fun _ _ _ h => h) (Or.inl ⟨by rfl, ?_⟩) ?_ ?_
                                    rotate_left
                                    · intro w'
                                      go_simp
                                      with_reducible rfl
                                    rotate_left
                                    · simp only [Act.put, List.setIfInBounds_toArray, List.set_cons_zero, List.set_cons_succ, i64_w, i32_w]
                                      rfl
                                    refine take_ (i := 14) (N := some 44) (v := ?_) (a' := ?_) #[true, true, true, true, true, true, true, true, true, true, true, true, true, true, true, false, false, false, false] rfl rfl (take_ofW HT_.out HW_.out (by kernel_rfl)) (fun _ _ _ h => h) (Or.inl ⟨by rfl, ?_⟩) hHeld ?_ ?_
                                    rotate_left
                                    · intro w' _
                                      go_simp
                                      with_reducible rfl
                                    rotate_left
                                    · simp only [Act.put, List.setIfInBounds_toArray, List.set_cons_zero, List.set_cons_succ, i64_w, i32_w]
                                      rfl
                                    refine pure_ (i := 15) (N := some 45) (v := ?_) (a' := ?_) #[true, true, true, true, true, true, true, true, true, true, true, true, true, true, true, true, false, false, false] rfl rfl (any_of HT_.out (by kernel_rfl)) (fun _ _ _ h => h) (Or.inl ⟨by rfl, ?_⟩) ?_ ?_
                                    rotate_left
                                    · intro w'
                                      go_simp
                                      with_reducible rfl
                                    rotate_left
                                    · simp only [Act.put, List.setIfInBounds_toArray, List.set_cons_zero, List.set_cons_succ, i64_w, i32_w]
                                      rfl
                                    refine pure_ (i := 16) (N := some 46) (v := ?_) (a' := ?_) #[true, true, true, true, true, true, true, true, true, true, true, true, true, true, true, true, true, false, false] rfl rfl (any_of HT_.out (by kernel_rfl)) (fun _ _ _ h => h) (Or.inl ⟨by rfl, ?_⟩) ?_ ?_
                                    rotate_left
                                    · intro w'
                                      go_simp
                                      with_reducible rfl
                                    rotate_left
                                    · simp only [Act.put, List.setIfInBounds_toArray, List.set_cons_zero, List.set_cons_succ, i64_w, i32_w]
                                      rfl
                                    refine pure_ (i := 17) (N := some 47) (v := ?_) (a' := ?_) #[true, true, true, true, true, true, true, true, true, true, true, true, true, true, true, true, true, true, false] rfl rfl (any_of HT_.out (by kernel_rfl)) (fun _ _ _ h => h) (Or.inl ⟨by rfl, ?_⟩) ?_ ?_
                                    rotate_left
                                    · intro w'
                                      go_simp
                                      with_reducible rfl
                                    rotate_left
                                    · simp only [Act.put, List.setIfInBounds_toArray, List.set_cons_zero, List.set_cons_succ, i64_w, i32_w]
                                      rfl
                                    refine pure_ (i := 18) (N := some 7) (v := ?_) (a' := ?_) #[true, true, true, true, true, true, true, true, true, true, true, true, true, true, true, true, true, true, true] rfl rfl (any_of HT_.out (by kernel_rfl)) (fun _ _ _ h => h) (Or.inl ⟨by rfl, ?_⟩) ?_ ?_
                                    rotate_left
                                    · intro w'
                                      go_simp
                                      with_reducible rfl
                                    rotate_left
                                    · simp only [Act.put, List.setIfInBounds_toArray, List.set_cons_zero, List.set_cons_succ, i64_w, i32_w]
                                      rfl
                                    refine done_ (done_of HT_.out (by kernel_rfl)) ?_
                                    try go_wp2
                                    go_ret3
                                    exact ⟨by first | rfl | (simp [errW_none, errW_some] <;> rfl) | (simp [*, errW_none, errW_some] <;> rfl), by repeat (first | (with_reducible first | exact HB.out | apply below_alloc | apply pw_below_drewN | apply below_drew1) | exact HB.out)⟩
                                  · rw [if_neg c28] at H
                                    have c28b0 : decide (((a0.extract (a1 : Int).toNat a0.size).size : Int) < (wrap64 ((wrap64 ((wrap64 ((wrap64 ((wrap64 (bt (a0.extract (a1 : Int).toNat a0.size) 0)) + (wrap64 (256 * (wrap64 (bt (a0.extract (a1 : Int).toNat a0.size) 1)))))) + (wrap64 (65536 * (wrap64 (bt (a0.extract (a1 : Int).toNat a0.size) 2)))))) + (wrap64 (16777216 * (wrap64 (bt (a0.extract (a1 : Int).toNat a0.size) 3)))))) + 12))) = false := decide_eq_false c28
                                    try (have c28x0 := c28b0; simp only [ByteArray.size_extract, Nat.min_self] at c28x0)
                                    clear c28
                                    by_cases c32 : 8 ≤ (wrap64 (8 + (wrap64 ((wrap64 ((wrap64 ((wrap64 (bt (a0.extract (a1 : Int).toNat a0.size) 0)) + (wrap64 (256 * (wrap64 (bt (a0.extract (a1 : Int).toNat a0.size) 1)))))) + (wrap64 (65536 * (wrap64 (bt (a0.extract (a1 : Int).toNat a0.size) 2)))))) + (wrap64 (16777216 * (wrap64 (bt (a0.extract (a1 : Int).toNat a0.size) 3))))))))
                                    · rw [if_pos c32] at H
                                      have c32b0 := eq_true c32
                                      have c32b1 : decide (8 ≤ (wrap64 (8 + (wrap64 ((wrap64 ((wrap64 ((wrap64 (bt (a0.extract (a1 : Int).toNat a0.size) 0)) + (wrap64 (256 * (wrap64 (bt (a0.extract (a1 : Int).toNat a0.size) 1)))))) + (wrap64 (65536 * (wrap64 (bt (a0.extract (a1 : Int).toNat a0.size) 2)))))) + (wrap64 (16777216 * (wrap64 (bt (a0.extract (a1 : Int).toNat a0.size) 3))))))))) = true := decide_eq_true c32
                                      try (have c32x0 := c32b0; simp only [ByteArray.size_extract, Nat.min_self] at c32x0)
                                      try (have c32x1 := c32b1; simp only [ByteArray.size_extract, Nat.min_self] at c32x1)
                                      by_cases c33 : (wrap64 (8 + (wrap64 ((wrap64 ((wrap64 ((wrap64 (bt (a0.extract (a1 : Int).toNat a0.size) 0)) + (wrap64 (256 * (wrap64 (bt (a0.extract (a1 : Int).toNat a0.size) 1)))))) + (wrap64 (65536 * (wrap64 (bt (a0.extract (a1 : Int).toNat a0.size) 2)))))) + (wrap64 (16777216 * (wrap64 (bt (a0.extract (a1 : Int).toNat a0.size) 3)))))))) ≤ ((a0.extract (a1 : Int).toNat a0.size).size : Int)
                                      · rw [if_pos c33] at H
                                        have c33b0 := eq_true c33
                                        have c33b1 : decide ((wrap64 (8 + (wrap64 ((wrap64 ((wrap64 ((wrap64 (bt (a0.extract (a1 : Int).toNat a0.size) 0)) + (wrap64 (256 * (wrap64 (bt (a0.extract (a1 : Int).toNat a0.size) 1)))))) + (wrap64 (65536 * (wrap64 (bt (a0.extract (a1 : Int).toNat a0.size) 2)))))) + (wrap64 (16777216 * (wrap64 (bt (a0.extract (a1 : Int).toNat a0.size) 3)))))))) ≤ ((a0.extract (a1 : Int).toNat a0.size).size : Int)) = true := decide_eq_true c33
                                        try (have c33x0 := c33b0; simp only [ByteArray.size_extract, Nat.min_self] at c33x0)
                                        try (have c33x1 := c33b1; simp only [ByteArray.size_extract, Nat.min_self] at c33x1)
                                        replace H := Option.bind_eq_some_iff.mp H
                                        obtain ⟨t146, A340, H⟩ := H
                                        replace H : ((meterref03_four.f t146).bind fun t147 => (if 0 ≤ (wrap64 (8 + (wrap64 ((wrap64 ((wrap64 ((wrap64 (bt (a0.extract (a1 : Int).toNat a0.size) 0)) + (wrap64 (256 * (wrap64 (bt (a0.extract (a1 : Int).toNat a0.size) 1)))))) + (wrap64 (65536 * (wrap64 (bt (a0.extract (a1 : Int).toNat a0.size) 2)))))) + (wrap64 (16777216 * (wrap64 (bt (a0.extract (a1 : Int).toNat a0.size) 3)))))))) then (if (wrap64 (8 + (wrap64 ((wrap64 ((wrap64 ((wrap64 (bt (a0.extract (a1 : Int).toNat a0.size) 0)) + (wrap64 (256 * (wrap64 (bt (a0.extract (a1 : Int).toNat a0.size) 1)))))) + (wrap64 (65536 * (wrap64 (bt (a0.extract (a1 : Int).toNat a0.size) 2)))))) + (wrap64 (16777216 * (wrap64 (bt (a0.extract (a1 : Int).toNat a0.size) 3)))))))) ≤ (wrap64 (12 + (wrap64 ((wrap64 ((wrap64 ((wrap64 (bt (a0.extract (a1 : Int).toNat a0.size) 0)) + (wrap64 (256 * (wrap64 (bt (a0.extract (a1 : Int).toNat a0.size) 1)))))) + (wrap64 (65536 * (wrap64 (bt (a0.extract (a1 : Int).toNat a0.size) 2)))))) + (wrap64 (16777216 * (wrap64 (bt (a0.extract (a1 : Int).toNat a0.size) 3)))))))) then (if (wrap64 (12 + (wrap64 ((wrap64 ((wrap64 ((wrap64 (bt (a0.extract (a1 : Int).toNat a0.size) 0)) + (wrap64 (256 * (wrap64 (bt (a0.extract (a1 : Int).toNat a0.size) 1)))))) + (wrap64 (65536 * (wrap64 (bt (a0.extract (a1 : Int).toNat a0.size) 2)))))) + (wrap64 (16777216 * (wrap64 (bt (a0.extract (a1 : Int).toNat a0.size) 3)))))))) ≤ ((a0.extract (a1 : Int).toNat a0.size).size : Int) then (if t147.toList = ((a0.extract (a1 : Int).toNat a0.size).extract ((wrap64 (8 + (wrap64 ((wrap64 ((wrap64 ((wrap64 (bt (a0.extract (a1 : Int).toNat a0.size) 0)) + (wrap64 (256 * (wrap64 (bt (a0.extract (a1 : Int).toNat a0.size) 1)))))) + (wrap64 (65536 * (wrap64 (bt (a0.extract (a1 : Int).toNat a0.size) 2)))))) + (wrap64 (16777216 * (wrap64 (bt (a0.extract (a1 : Int).toNat a0.size) 3)))))))) : Int).toNat ((wrap64 (12 + (wrap64 ((wrap64 ((wrap64 ((wrap64 (bt (a0.extract (a1 : Int).toNat a0.size) 0)) + (wrap64 (256 * (wrap64 (bt (a0.extract (a1 : Int).toNat a0.size) 1)))))) + (wrap64 (65536 * (wrap64 (bt (a0.extract (a1 : Int).toNat a0.size) 2)))))) + (wrap64 (16777216 * (wrap64 (bt (a0.extract (a1 : Int).toNat a0.size) 3)))))))) : Int).toNat).toList then (some ((a0.extract (a1 : Int).toNat a0.size).extract 8 ((wrap64 (8 + (wrap64 ((wrap64 ((wrap64 ((wrap64 (bt (a0.extract (a1 : Int).toNat a0.size) 0)) + (wrap64 (256 * (wrap64 (bt (a0.extract (a1 : Int).toNat a0.size) 1)))))) + (wrap64 (65536 * (wrap64 (bt (a0.extract (a1 : Int).toNat a0.size) 2)))))) + (wrap64 (16777216 * (wrap64 (bt (a0.extract (a1 : Int).toNat a0.size) 3)))))))) : Int).toNat, wrap64 ((wrap64 (a1 + 12)) + (wrap64 ((wrap64 ((wrap64 ((wrap64 (bt (a0.extract (a1 : Int).toNat a0.size) 0)) + (wrap64 (256 * (wrap64 (bt (a0.extract (a1 : Int).toNat a0.size) 1)))))) + (wrap64 (65536 * (wrap64 (bt (a0.extract (a1 : Int).toNat a0.size) 2)))))) + (wrap64 (16777216 * (wrap64 (bt (a0.extract (a1 : Int).toNat a0.size) 3))))))), 0)) else (some ((⟨#[]⟩ : ByteArray), 0, 9))) else (none)) else (none)) else (none))) = some (r1, r2, r3) := H
                                        have A34 := Aside0.mk A340
                                        clear A340
                                        replace H := Option.bind_eq_some_iff.mp H
                                        obtain ⟨t147, A350, H⟩ := H
                                        replace H : (if 0 ≤ (wrap64 (8 + (wrap64 ((wrap64 ((wrap64 ((wrap64 (bt (a0.extract (a1 : Int).toNat a0.size) 0)) + (wrap64 (256 * (wrap64 (bt (a0.extract (a1 : Int).toNat a0.size) 1)))))) + (wrap64 (65536 * (wrap64 (bt (a0.extract (a1 : Int).toNat a0.size) 2)))))) + (wrap64 (16777216 * (wrap64 (bt (a0.extract (a1 : Int).toNat a0.size) 3)))))))) then (if (wrap64 (8 + (wrap64 ((wrap64 ((wrap64 ((wrap64 (bt (a0.extract (a1 : Int).toNat a0.size) 0)) + (wrap64 (256 * (wrap64 (bt (a0.extract (a1 : Int).toNat a0.size) 1)))))) + (wrap64 (65536 * (wrap64 (bt (a0.extract (a1 : Int).toNat a0.size) 2)))))) + (wrap64 (16777216 * (wrap64 (bt (a0.extract (a1 : Int).toNat a0.size) 3)))))))) ≤ (wrap64 (12 + (wrap64 ((wrap64 ((wrap64 ((wrap64 (bt (a0.extract (a1 : Int).toNat a0.size) 0)) + (wrap64 (256 * (wrap64 (bt (a0.extract (a1 : Int).toNat a0.size) 1)))))) + (wrap64 (65536 * (wrap64 (bt (a0.extract (a1 : Int).toNat a0.size) 2)))))) + (wrap64 (16777216 * (wrap64 (bt (a0.extract (a1 : Int).toNat a0.size) 3)))))))) then (if (wrap64 (12 + (wrap64 ((wrap64 ((wrap64 ((wrap64 (bt (a0.extract (a1 : Int).toNat a0.size) 0)) + (wrap64 (256 * (wrap64 (bt (a0.extract (a1 : Int).toNat a0.size) 1)))))) + (wrap64 (65536 * (wrap64 (bt (a0.extract (a1 : Int).toNat a0.size) 2)))))) + (wrap64 (16777216 * (wrap64 (bt (a0.extract (a1 : Int).toNat a0.size) 3)))))))) ≤ ((a0.extract (a1 : Int).toNat a0.size).size : Int) then (if t147.toList = ((a0.extract (a1 : Int).toNat a0.size).extract ((wrap64 (8 + (wrap64 ((wrap64 ((wrap64 ((wrap64 (bt (a0.extract (a1 : Int).toNat a0.size) 0)) + (wrap64 (256 * (wrap64 (bt (a0.extract (a1 : Int).toNat a0.size) 1)))))) + (wrap64 (65536 * (wrap64 (bt (a0.extract (a1 : Int).toNat a0.size) 2)))))) + (wrap64 (16777216 * (wrap64 (bt (a0.extract (a1 : Int).toNat a0.size) 3)))))))) : Int).toNat ((wrap64 (12 + (wrap64 ((wrap64 ((wrap64 ((wrap64 (bt (a0.extract (a1 : Int).toNat a0.size) 0)) + (wrap64 (256 * (wrap64 (bt (a0.extract (a1 : Int).toNat a0.size) 1)))))) + (wrap64 (65536 * (wrap64 (bt (a0.extract (a1 : Int).toNat a0.size) 2)))))) + (wrap64 (16777216 * (wrap64 (bt (a0.extract (a1 : Int).toNat a0.size) 3)))))))) : Int).toNat).toList then (some ((a0.extract (a1 : Int).toNat a0.size).extract 8 ((wrap64 (8 + (wrap64 ((wrap64 ((wrap64 ((wrap64 (bt (a0.extract (a1 : Int).toNat a0.size) 0)) + (wrap64 (256 * (wrap64 (bt (a0.extract (a1 : Int).toNat a0.size) 1)))))) + (wrap64 (65536 * (wrap64 (bt (a0.extract (a1 : Int).toNat a0.size) 2)))))) + (wrap64 (16777216 * (wrap64 (bt (a0.extract (a1 : Int).toNat a0.size) 3)))))))) : Int).toNat, wrap64 ((wrap64 (a1 + 12)) + (wrap64 ((wrap64 ((wrap64 ((wrap64 (bt (a0.extract (a1 : Int).toNat a0.size) 0)) + (wrap64 (256 * (wrap64 (bt (a0.extract (a1 : Int).toNat a0.size) 1)))))) + (wrap64 (65536 * (wrap64 (bt (a0.extract (a1 : Int).toNat a0.size) 2)))))) + (wrap64 (16777216 * (wrap64 (bt (a0.extract (a1 : Int).toNat a0.size) 3))))))), 0)) else (some ((⟨#[]⟩ : ByteArray), 0, 9))) else (none)) else (none)) else (none)) = some (r1, r2, r3) := H
                                        have A35 := Aside0.mk A350
                                        clear A350
                                        obtain ⟨ji36, hji36⟩ : ∃ j_ : Int, (wrap64 (8 + (wrap64 ((wrap64 ((wrap64 ((wrap64 (bt (a0.extract (a1 : Int).toNat a0.size) 0)) + (wrap64 (256 * (wrap64 (bt (a0.extract (a1 : Int).toNat a0.size) 1)))))) + (wrap64 (65536 * (wrap64 (bt (a0.extract (a1 : Int).toNat a0.size) 2)))))) + (wrap64 (16777216 * (wrap64 (bt (a0.extract (a1 : Int).toNat a0.size) 3)))))))) = j_ := ⟨_, rfl⟩
                                        replace H : (if 0 ≤ (ji36) then (if (ji36) ≤ (wrap64 (12 + (wrap64 ((wrap64 ((wrap64 ((wrap64 (bt (a0.extract (a1 : Int).toNat a0.size) 0)) + (wrap64 (256 * (wrap64 (bt (a0.extract (a1 : Int).toNat a0.size) 1)))))) + (wrap64 (65536 * (wrap64 (bt (a0.extract (a1 : Int).toNat a0.size) 2)))))) + (wrap64 (16777216 * (wrap64 (bt (a0.extract (a1 : Int).toNat a0.size) 3)))))))) then (if (wrap64 (12 + (wrap64 ((wrap64 ((wrap64 ((wrap64 (bt (a0.extract (a1 : Int).toNat a0.size) 0)) + (wrap64 (256 * (wrap64 (bt (a0.extract (a1 : Int).toNat a0.size) 1)))))) + (wrap64 (65536 * (wrap64 (bt (a0.extract (a1 : Int).toNat a0.size) 2)))))) + (wrap64 (16777216 * (wrap64 (bt (a0.extract (a1 : Int).toNat a0.size) 3)))))))) ≤ ((a0.extract (a1 : Int).toNat a0.size).size : Int) then (if t147.toList = ((a0.extract (a1 : Int).toNat a0.size).extract ((ji36) : Int).toNat ((wrap64 (12 + (wrap64 ((wrap64 ((wrap64 ((wrap64 (bt (a0.extract (a1 : Int).toNat a0.size) 0)) + (wrap64 (256 * (wrap64 (bt (a0.extract (a1 : Int).toNat a0.size) 1)))))) + (wrap64 (65536 * (wrap64 (bt (a0.extract (a1 : Int).toNat a0.size) 2)))))) + (wrap64 (16777216 * (wrap64 (bt (a0.extract (a1 : Int).toNat a0.size) 3)))))))) : Int).toNat).toList then (some ((a0.extract (a1 : Int).toNat a0.size).extract 8 ((ji36) : Int).toNat, wrap64 ((wrap64 (a1 + 12)) + (wrap64 ((wrap64 ((wrap64 ((wrap64 (bt (a0.extract (a1 : Int).toNat a0.size) 0)) + (wrap64 (256 * (wrap64 (bt (a0.extract (a1 : Int).toNat a0.size) 1)))))) + (wrap64 (65536 * (wrap64 (bt (a0.extract (a1 : Int).toNat a0.size) 2)))))) + (wrap64 (16777216 * (wrap64 (bt (a0.extract (a1 : Int).toNat a0.size) 3))))))), 0)) else (some ((⟨#[]⟩ : ByteArray), 0, 9))) else (none)) else (none)) else (none)) = some (r1, r2, r3) := by first | (rw [hji36] at H; exact H) | (simp only [hji36] at H ⊢; exact H)
                                        (try rw [hji36] at c32x0)
                                        (try rw [hji36] at c32x1)
                                        (try rw [hji36] at c32b0)
                                        (try rw [hji36] at c32b1)
                                        (try rw [hji36] at c32)
                                        (try rw [hji36] at c33x0)
                                        (try rw [hji36] at c33x1)
                                        (try rw [hji36] at c33b0)
                                        (try rw [hji36] at c33b1)
                                        (try rw [hji36] at c33)
                                        (try rw [hji36] at A11)
                                        (try rw [hji36] at A12)
                                        (try rw [hji36] at A34)
                                        (try rw [hji36] at A35)
                                        have hji36w : (IntKind.i64.wrap (8 + (wrap64 ((wrap64 ((wrap64 ((wrap64 (bt (a0.extract (a1 : Int).toNat a0.size) 0)) + (wrap64 (256 * (wrap64 (bt (a0.extract (a1 : Int).toNat a0.size) 1)))))) + (wrap64 (65536 * (wrap64 (bt (a0.extract (a1 : Int).toNat a0.size) 2)))))) + (wrap64 (16777216 * (wrap64 (bt (a0.extract (a1 : Int).toNat a0.size) 3)))))))) = ji36 := (i64_w _).trans hji36
                                        by_cases c37 : 0 ≤ (ji36)
                                        · rw [if_pos c37] at H
                                          have c37b0 := eq_true c37
                                          have c37b1 : decide (0 ≤ (ji36)) = true := decide_eq_true c37
                                          clear c37
                                          by_cases c38 : (ji36) ≤ (wrap64 (12 + (wrap64 ((wrap64 ((wrap64 ((wrap64 (bt (a0.extract (a1 : Int).toNat a0.size) 0)) + (wrap64 (256 * (wrap64 (bt (a0.extract (a1 : Int).toNat a0.size) 1)))))) + (wrap64 (65536 * (wrap64 (bt (a0.extract (a1 : Int).toNat a0.size) 2)))))) + (wrap64 (16777216 * (wrap64 (bt (a0.extract (a1 : Int).toNat a0.size) 3))))))))
                                          · rw [if_pos c38] at H
                                            have c38b0 := eq_true c38
                                            have c38b1 : decide ((ji36) ≤ (wrap64 (12 + (wrap64 ((wrap64 ((wrap64 ((wrap64 (bt (a0.extract (a1 : Int).toNat a0.size) 0)) + (wrap64 (256 * (wrap64 (bt (a0.extract (a1 : Int).toNat a0.size) 1)))))) + (wrap64 (65536 * (wrap64 (bt (a0.extract (a1 : Int).toNat a0.size) 2)))))) + (wrap64 (16777216 * (wrap64 (bt (a0.extract (a1 : Int).toNat a0.size) 3))))))))) = true := decide_eq_true c38
                                            try (have c38x0 := c38b0; simp only [ByteArray.size_extract, Nat.min_self] at c38x0)
                                            try (have c38x1 := c38b1; simp only [ByteArray.size_extract, Nat.min_self] at c38x1)
                                            by_cases c39 : (wrap64 (12 + (wrap64 ((wrap64 ((wrap64 ((wrap64 (bt (a0.extract (a1 : Int).toNat a0.size) 0)) + (wrap64 (256 * (wrap64 (bt (a0.extract (a1 : Int).toNat a0.size) 1)))))) + (wrap64 (65536 * (wrap64 (bt (a0.extract (a1 : Int).toNat a0.size) 2)))))) + (wrap64 (16777216 * (wrap64 (bt (a0.extract (a1 : Int).toNat a0.size) 3)))))))) ≤ ((a0.extract (a1 : Int).toNat a0.size).size : Int)
                                            · rw [if_pos c39] at H
                                              have c39b0 := eq_true c39
                                              have c39b1 : decide ((wrap64 (12 + (wrap64 ((wrap64 ((wrap64 ((wrap64 (bt (a0.extract (a1 : Int).toNat a0.size) 0)) + (wrap64 (256 * (wrap64 (bt (a0.extract (a1 : Int).toNat a0.size) 1)))))) + (wrap64 (65536 * (wrap64 (bt (a0.extract (a1 : Int).toNat a0.size) 2)))))) + (wrap64 (16777216 * (wrap64 (bt (a0.extract (a1 : Int).toNat a0.size) 3)))))))) ≤ ((a0.extract (a1 : Int).toNat a0.size).size : Int)) = true := decide_eq_true c39
                                              try (have c39x0 := c39b0; simp only [ByteArray.size_extract, Nat.min_self] at c39x0)
                                              try (have c39x1 := c39b1; simp only [ByteArray.size_extract, Nat.min_self] at c39x1)
                                              by_cases c40 : t147.toList = ((a0.extract (a1 : Int).toNat a0.size).extract ((ji36) : Int).toNat ((wrap64 (12 + (wrap64 ((wrap64 ((wrap64 ((wrap64 (bt (a0.extract (a1 : Int).toNat a0.size) 0)) + (wrap64 (256 * (wrap64 (bt (a0.extract (a1 : Int).toNat a0.size) 1)))))) + (wrap64 (65536 * (wrap64 (bt (a0.extract (a1 : Int).toNat a0.size) 2)))))) + (wrap64 (16777216 * (wrap64 (bt (a0.extract (a1 : Int).toNat a0.size) 3)))))))) : Int).toNat).toList
                                              · rw [if_pos c40] at H
                                                have c40b0 : (t147.toList == ((a0.extract (a1 : Int).toNat a0.size).extract ((ji36) : Int).toNat ((wrap64 (12 + (wrap64 ((wrap64 ((wrap64 ((wrap64 (bt (a0.extract (a1 : Int).toNat a0.size) 0)) + (wrap64 (256 * (wrap64 (bt (a0.extract (a1 : Int).toNat a0.size) 1)))))) + (wrap64 (65536 * (wrap64 (bt (a0.extract (a1 : Int).toNat a0.size) 2)))))) + (wrap64 (16777216 * (wrap64 (bt (a0.extract (a1 : Int).toNat a0.size) 3)))))))) : Int).toNat).toList) = true := beq_iff_eq.mpr c40
                                                try (have c40x0 := c40b0; simp only [ByteArray.size_extract, Nat.min_self] at c40x0)
                                                have c40b1 : (t147.toList != ((a0.extract (a1 : Int).toNat a0.size).extract ((ji36) : Int).toNat ((wrap64 (12 + (wrap64 ((wrap64 ((wrap64 ((wrap64 (bt (a0.extract (a1 : Int).toNat a0.size) 0)) + (wrap64 (256 * (wrap64 (bt (a0.extract (a1 : Int).toNat a0.size) 1)))))) + (wrap64 (65536 * (wrap64 (bt (a0.extract (a1 : Int).toNat a0.size) 2)))))) + (wrap64 (16777216 * (wrap64 (bt (a0.extract (a1 : Int).toNat a0.size) 3)))))))) : Int).toNat).toList) = false := bne_eq_false_iff_eq.mpr c40
                                                try (have c40x1 := c40b1; simp only [ByteArray.size_extract, Nat.min_self] at c40x1)
                                                clear c40
                                                simp only [Option.some.injEq, Prod.mk.injEq] at H
                                                obtain ⟨rfl, rfl, rfl⟩ := H
                                                try go_wp2
                                                have n0_ := Aside0.mk (below_drew1 HB.out)
                                                clear HB
                                                have HB := n0_
                                                clear n0_
                                                refine start_ (n := 7) (S := fun w' => True) (ds := []) #[false, false, false, false, false, false, false] (by kernel_rfl) rfl rfl trivial (fun hHeld => ?_)
                                                generalize wc.drew = w41 at HB hHeld ⊢
                                                refine pure_ (i := 0) (N := some 23) (v := ?_) (a' := ?_) #[true, false, false, false, false, false, false] rfl rfl (by kernel_rfl) (fun _ _ _ h => h) (Or.inl ⟨by rfl, ?_⟩) ?_ ?_
                                                rotate_left
                                                · intro w'
                                                  go_simp
                                                  with_reducible rfl
                                                rotate_left
                                                · simp only [Act.put, List.setIfInBounds_toArray, List.set_cons_zero, List.set_cons_succ, i64_w, i32_w]
                                                  rfl
                                                refine pure_ (i := 1) (N := some 24) (v := ?_) (a' := ?_) #[true, true, false, false, false, false, false] rfl rfl (by kernel_rfl) (fun _ _ _ h => h) (Or.inl ⟨by rfl, ?_⟩) ?_ ?_
                                                rotate_left
                                                · intro w'
                                                  go_simp
                                                  with_reducible rfl
                                                rotate_left
                                                · simp only [Act.put, List.setIfInBounds_toArray, List.set_cons_zero, List.set_cons_succ, i64_w, i32_w]
                                                  rfl
                                                refine pure_ (i := 4) (N := some 27) (v := ?_) (a' := ?_) #[true, true, false, false, true, false, false] rfl rfl (by kernel_rfl) (fun _ _ _ h => h) (Or.inl ⟨by rfl, ?_⟩) ?_ ?_
                                                rotate_left
                                                · intro w'
                                                  go_simp
                                                  with_reducible rfl
                                                rotate_left
                                                · simp only [Act.put, List.setIfInBounds_toArray, List.set_cons_zero, List.set_cons_succ, i64_w, i32_w]
                                                  rfl
                                                refine pure_ (i := 5) (N := some 28) (v := ?_) (a' := ?_) #[true, true, false, false, true, true, false] rfl rfl (by kernel_rfl) (fun _ _ _ h => h) (Or.inl ⟨by rfl, ?_⟩) ?_ ?_
                                                rotate_left
                                                · intro w'
                                                  go_simp
                                                  with_reducible rfl
                                                rotate_left
                                                · simp only [Act.put, List.setIfInBounds_toArray, List.set_cons_zero, List.set_cons_succ, i64_w, i32_w]
                                                  rfl
                                                refine one_ (i := 2) (N := some 25) #[true, true, true, false, true, true, false] rfl rfl (by kernel_rfl) (by decide) (fun K hK => ?_)
                                                refine goes_ Try.func12 (by kernel_rfl) rfl #[.string ((a0.extract (a1 : Int).toNat a0.size).extract 0 4)] (by rfl) rfl rfl (by (try simp only [List.map_toArray, List.map_cons, List.map_nil]); first | done | rfl | (simp only [List.length_drop, List.length_take]; rfl)) ?_
                                                with_reducible refine (meterref01_Crc.calls kj2 ((a0.extract (a1 : Int).toNat a0.size).extract 0 4) t144 _ A11.out).mono ?_
                                                rintro e w' ⟨rfl, ⟨nd, rfl⟩⟩
                                                refine ⟨_, rfl, ?_⟩
                                                refine hK.out _ _ trivial (fun hHeld => ?_)
                                                clear hK K
                                                refine norm_ (a' := ?_) ?_ ?_
                                                rotate_left
                                                · show Act.put _ (some 25) _ = _
                                                  simp only [Act.put, List.setIfInBounds_toArray, List.set_cons_zero, List.set_cons_succ, i64_w, i32_w]
                                                  rfl
                                                refine one_ (i := 3) (N := some 26) #[true, true, true, true, true, true, false] rfl rfl (by kernel_rfl) (by decide) (fun K hK => ?_)
                                                refine goes_ Try.func20 (by kernel_rfl) rfl #[.int .u32 t144] (by rfl) rfl rfl (by (try simp only [List.map_toArray, List.map_cons, List.map_nil]); first | done | rfl | (simp only [List.length_drop, List.length_take]; rfl)) ?_
                                                with_reducible refine (meterref03_four.calls t144 t145 _ A12.out).mono ?_
                                                rintro e w42 ⟨rfl, hb⟩
                                                refine ⟨_, rfl, ?_⟩
                                                have n0_ := Aside0.mk (below_step (by repeat (first | (with_reducible first | exact HB.out | apply below_alloc | apply pw_below_drewN | apply below_drew1) | exact HB.out)) hb)
                                                clear HB
                                                have HB := n0_
                                                clear n0_
                                                (try clear hb)
                                                (try clear hb2)
                                                (try clear hk)
                                                (try clear hi)
                                                refine hK.out _ _ trivial (fun hHeld => ?_)
                                                clear hK K
                                                refine norm_ (a' := ?_) ?_ ?_
                                                rotate_left
                                                · show Act.put _ (some 26) _ = _
                                                  simp only [Act.put, List.setIfInBounds_toArray, List.set_cons_zero, List.set_cons_succ, i64_w, i32_w]
                                                  rfl
                                                refine pure_ (i := 6) (N := some 29) (v := ?_) (a' := ?_) #[true, true, true, true, true, true, true] rfl rfl (by kernel_rfl) (fun _ _ _ h => h) (Or.inl ⟨by rfl, ?_⟩) ?_ ?_
                                                rotate_left
                                                · intro w'
                                                  go_simp
                                                  with_reducible rfl
                                                rotate_left
                                                · simp only [Act.put, List.setIfInBounds_toArray, List.set_cons_zero, List.set_cons_succ, i64_w, i32_w]
                                                  rfl
                                                refine done_ (by kernel_rfl) ?_
                                                try go_wp2
                                                have n0_ := Aside0.mk (below_drew1 HB.out)
                                                clear HB
                                                have HB := n0_
                                                clear n0_
                                                have p17 : 0 ≤ (0 : Int) := (by omega)
                                                have q17 : 0 < (a0.extract (a1 : Int).toNat a0.size).size := (by have : (0 : Int) < ((a0.extract (a1 : Int).toNat a0.size).size : Int) := of_decide_eq_true (by first | (with_reducible assumption) | assumption); omega)
                                                have hx17 : ∀ h : 0 < (a0.extract (a1 : Int).toNat a0.size).size, (((a0.extract (a1 : Int).toNat a0.size)[0]'h).toNat : Int) = bt (a0.extract (a1 : Int).toNat a0.size) 0 := bt_at (a0.extract (a1 : Int).toNat a0.size) 0
                                                clear p17
                                                have qi17 : (0 < ((a0.extract (a1 : Int).toNat a0.size).size : Int)) = True := eq_true (of_decide_eq_true (by first | (with_reducible assumption) | assumption))
                                                replace q17 := eq_true q17
                                                try (have qx17 := q17; simp only [ByteArray.size_extract, Nat.min_self] at qx17)
                                                try (have qix17 := qi17; simp only [ByteArray.size_extract, Nat.min_self] at qix17)
                                                have p19 : 0 ≤ (1 : Int) := (by omega)
                                                have q19 : 1 < (a0.extract (a1 : Int).toNat a0.size).size := (by have : (1 : Int) < ((a0.extract (a1 : Int).toNat a0.size).size : Int) := of_decide_eq_true (by first | (with_reducible assumption) | assumption); omega)
                                                have hx19 : ∀ h : 1 < (a0.extract (a1 : Int).toNat a0.size).size, (((a0.extract (a1 : Int).toNat a0.size)[1]'h).toNat : Int) = bt (a0.extract (a1 : Int).toNat a0.size) 1 := bt_at (a0.extract (a1 : Int).toNat a0.size) 1
                                                clear p19
                                                have qi19 : (1 < ((a0.extract (a1 : Int).toNat a0.size).size : Int)) = True := eq_true (of_decide_eq_true (by first | (with_reducible assumption) | assumption))
                                                replace q19 := eq_true q19
                                                try (have qx19 := q19; simp only [ByteArray.size_extract, Nat.min_self] at qx19)
                                                try (have qix19 := qi19; simp only [ByteArray.size_extract, Nat.min_self] at qix19)
                                                have p21 : 0 ≤ (2 : Int) := (by omega)
                                                have q21 : 2 < (a0.extract (a1 : Int).toNat a0.size).size := (by have : (2 : Int) < ((a0.extract (a1 : Int).toNat a0.size).size : Int) := of_decide_eq_true (by first | (with_reducible assumption) | assumption); omega)
                                                have hx21 : ∀ h : 2 < (a0.extract (a1 : Int).toNat a0.size).size, (((a0.extract (a1 : Int).toNat a0.size)[2]'h).toNat : Int) = bt (a0.extract (a1 : Int).toNat a0.size) 2 := bt_at (a0.extract (a1 : Int).toNat a0.size) 2
                                                clear p21
                                                have qi21 : (2 < ((a0.extract (a1 : Int).toNat a0.size).size : Int)) = True := eq_true (of_decide_eq_true (by first | (with_reducible assumption) | assumption))
                                                replace q21 := eq_true q21
                                                try (have qx21 := q21; simp only [ByteArray.size_extract, Nat.min_self] at qx21)
                                                try (have qix21 := qi21; simp only [ByteArray.size_extract, Nat.min_self] at qix21)
                                                have p23 : 0 ≤ (3 : Int) := (by omega)
                                                have q23 : 3 < (a0.extract (a1 : Int).toNat a0.size).size := (by have : (3 : Int) < ((a0.extract (a1 : Int).toNat a0.size).size : Int) := of_decide_eq_true (by first | (with_reducible assumption) | assumption); omega)
                                                have hx23 : ∀ h : 3 < (a0.extract (a1 : Int).toNat a0.size).size, (((a0.extract (a1 : Int).toNat a0.size)[3]'h).toNat : Int) = bt (a0.extract (a1 : Int).toNat a0.size) 3 := bt_at (a0.extract (a1 : Int).toNat a0.size) 3
                                                clear p23
                                                have qi23 : (3 < ((a0.extract (a1 : Int).toNat a0.size).size : Int)) = True := eq_true (of_decide_eq_true (by first | (with_reducible assumption) | assumption))
                                                replace q23 := eq_true q23
                                                try (have qx23 := q23; simp only [ByteArray.size_extract, Nat.min_self] at qx23)
                                                try (have qix23 := qi23; simp only [ByteArray.size_extract, Nat.min_self] at qix23)
                                                refine start_ (n := 19) (S := fun w' => True) (ds := []) #[false, false, false, false, false, false, false, false, false, false, false, false, false, false, false, false, false, false, false] (by kernel_rfl) rfl rfl trivial (fun hHeld => ?_); refine with_tabW meterref03_Next.tab8 meterref03_Next.bits8 (fun HT_ HW_ => ?_)
                                                generalize w42.drew = w43 at HB hHeld ⊢
                                                refine pure_ (i := 0) (N := some 30) (v := ?_) (a' := ?_) #[true, false, false, false, false, false, false, false, false, false, false, false, false, false, false, false, false, false, false] rfl rfl (any_of HT_.out (by kernel_rfl)) (fun _ _ _ h => h) (Or.inl ⟨by rfl, ?_⟩) ?_ ?_
                                                rotate_left
                                                · intro w'
                                                  go_simp
                                                  with_reducible rfl
                                                rotate_left
                                                · simp only [Act.put, List.setIfInBounds_toArray, List.set_cons_zero, List.set_cons_succ, i64_w, i32_w]
                                                  rfl
                                                refine pure_ (i := 3) (N := some 33) (v := ?_) (a' := ?_) #[true, false, false, true, false, false, false, false, false, false, false, false, false, false, false, false, false, false, false] rfl rfl (any_of HT_.out (by kernel_rfl)) (fun _ _ _ h => h) (Or.inl ⟨by rfl, ?_⟩) ?_ ?_
                                                rotate_left
                                                · intro w'
                                                  go_simp
                                                  with_reducible rfl
                                                rotate_left
                                                · simp only [Act.put, List.setIfInBounds_toArray, List.set_cons_zero, List.set_cons_succ, i64_w, i32_w]
                                                  rfl
                                                refine pure_ (i := 8) (N := some 38) (v := ?_) (a' := ?_) #[true, false, false, true, false, false, false, false, true, false, false, false, false, false, false, false, false, false, false] rfl rfl (any_of HT_.out (by kernel_rfl)) (fun _ _ _ h => h) (Or.inl ⟨by rfl, ?_⟩) ?_ ?_
                                                rotate_left
                                                · intro w'
                                                  go_simp
                                                  with_reducible rfl
                                                rotate_left
                                                · simp only [Act.put, List.setIfInBounds_toArray, List.set_cons_zero, List.set_cons_succ, i64_w, i32_w]
                                                  rfl
                                                refine pure_ (i := 13) (N := some 43) (v := ?_) (a' := ?_) #[true, false, false, true, false, false, false, false, true, false, false, false, false, true, false, false, false, false, false] rfl rfl (any_of HT_.out (by kernel_rfl)) (fun _ _ _ h => h) (Or.inl ⟨by rfl, ?_⟩) ?_ ?_
                                                rotate_left
                                                · intro w'
                                                  go_simp
                                                  with_reducible rfl
                                                rotate_left
                                                · simp only [Act.put, List.setIfInBounds_toArray, List.set_cons_zero, List.set_cons_succ, i64_w, i32_w]
                                                  rfl
                                                refine take_ (i := 1) (N := some 31) (v := ?_) (a' := ?_) #[true, true, false, true, false, false, false, false, true, false, false, false, false, true, false, false, false, false, false] rfl rfl (take_ofW HT_.out HW_.out (by kernel_rfl)) (fun _ _ _ h => h) (Or.inl ⟨by rfl, ?_⟩) hHeld ?_ ?_
                                                rotate_left
                                                · intro w' _
                                                  go_simp
                                                  with_reducible rfl
                                                rotate_left
                                                · simp only [Act.put, List.setIfInBounds_toArray, List.set_cons_zero, List.set_cons_succ, i64_w, i32_w]
                                                  rfl
                                                refine pure_ (i := 2) (N := some 32) (v := ?_) (a' := ?_) #[true, true, true, true, false, false, false, false, true, false, false, false, false, true, false, false, false, false, false] rfl rfl (any_of HT_.out (by kernel_rfl)) (fun _ _ _ h => h) (Or.inl ⟨by rfl, ?_⟩) ?_ ?_
                                                rotate_left
                                                · intro w'
                                                  go_simp
                                                  with_reducible rfl
                                                rotate_left
                                                · simp only [Act.put, List.setIfInBounds_toArray, List.set_cons_zero, List.set_cons_succ, i64_w, i32_w]
                                                  rfl
                                                refine take_ (i := 4) (N := some 34) (v := ?_) (a' := ?_) #[true, true, true, true, true, false, false, false, true, false, false, false, false, true, false, false, false, false, false] rfl rfl (take_ofW HT_.out HW_.out (by kernel_rfl)) (fun _ _ _ h => h) (Or.inl ⟨by rfl, ?_⟩) hHeld ?_ ?_
                                                rotate_left
                                                · intro w' _
                                                  go_simp
                                                  with_reducible rfl
                                                rotate_left
                                                · simp only [Act.put, List.setIfInBounds_toArray, List.set_cons_zero, List.set_cons_succ, i64_w, i32_w]
                                                  rfl
                                                refine pure_ (i := 5) (N := some 35) (v := ?_) (a' := ?_) #[true, true, true, true, true, true, false, false, true, false, false, false, false, true, false, false, false, false, false] rfl rfl (any_of HT_.out (by kernel_rfl)) (fun _ _ _ h => h) (Or.inl ⟨by rfl, ?_⟩) ?_ ?_
                                                rotate_left
                                                · intro w'
                                                  go_simp
                                                  with_reducible rfl
                                                rotate_left
                                                · simp only [Act.put, List.setIfInBounds_toArray, List.set_cons_zero, List.set_cons_succ, i64_w, i32_w]
                                                  rfl
                                                refine pure_ (i := 6) (N := some 36) (v := ?_) (a' := ?_) #[true, true, true, true, true, true, true, false, true, false, false, false, false, true, false, false, false, false, false] rfl rfl (any_of HT_.out (by kernel_rfl)) (fun _ _ _ h => h) (Or.inl ⟨by rfl, ?_⟩) ?_ ?_
                                                rotate_left
                                                · intro w'
                                                  go_simp
                                                  with_reducible rfl
                                                rotate_left
                                                · simp only [Act.put, List.setIfInBounds_toArray, List.set_cons_zero, List.set_cons_succ, i64_w, i32_w]
                                                  rfl
                                                refine pure_ (i := 7) (N := some 37) (v := ?_) (a' := ?_) #[true, true, true, true, true, true, true, true, true, false, false, false, false, true, false, false, false, false, false] rfl rfl (any_of HT_.out (by kernel_rfl)) (fun _ _ _ h => h) (Or.inl ⟨by rfl, ?_⟩) ?_ ?_
                                                rotate_left
                                                · intro w'
                                                  go_simp
                                                  with_reducible rfl
                                                rotate_left
                                                · simp only [Act.put, List.setIfInBounds_toArray, List.set_cons_zero, List.set_cons_succ, i64_w, i32_w]
                                                  rfl
                                                refine take_ (i := 9) (N := some 39) (v := ?_) (a' := ?_) #[true, true, true, true, true, true, true, true, true, true, false, false, false, true, false, false, false, false, false] rfl rfl (take_ofW HT_.out HW_.out (by kernel_rfl)) (fun _ _ _ h => h) (Or.inl ⟨by rfl, ?_⟩) hHeld ?_ ?_
                                                rotate_left
                                                · intro w' _
                                                  go_simp
                                                  with_reducible rfl
                                                rotate_left
                                                · simp only [Act.put, List.setIfInBounds_toArray, List.set_cons_zero, List.set_cons_succ, i64_w, i32_w]
                                                  rfl
                                                refine pure_ (i := 10) (N := some 40) (v := ?_) (a' := ?_) #[true, true, true, true, true, true, true, true, true, true, true, false, false, true, false, false, false, false, false] rfl rfl (any_of HT_.out (by kernel_rfl)) (fun _ _ _ h => h) (Or.inl ⟨by rfl, ?_⟩) ?_ ?_
                                                rotate_left
                                                · intro w'
                                                  go_simp
                                                  with_reducible rfl
                                                rotate_left
                                                · simp only [Act.put, List.setIfInBounds_toArray, List.set_cons_zero, List.set_cons_succ, i64_w, i32_w]
                                                  rfl
                                                refine pure_ (i := 11) (N := some 41) (v := ?_) (a' := ?_) #[true, true, true, true, true, true, true, true, true, true, true, true, false, true, false, false, false, false, false] rfl rfl (any_of HT_.out (by kernel_rfl)) (fun _ _ _ h => h) (Or.inl ⟨by rfl, ?_⟩) ?_ ?_
                                                rotate_left
                                                · intro w'
                                                  go_simp
                                                  with_reducible rfl
                                                rotate_left
                                                · simp only [Act.put, List.setIfInBounds_toArray, List.set_cons_zero, List.set_cons_succ, i64_w, i32_w]
                                                  rfl
                                                refine pure_ (i := 12) (N := some 42) (v := ?_) (a' := ?_) #[true, true, true, true, true, true, true, true, true, true, true, true, true, true, false, false, false, false, false] rfl rfl (any_of HT_.out (by kernel_rfl)) (fun _ _ _ h => h) (Or.inl ⟨by rfl, ?_⟩) ?_ ?_
                                                rotate_left
                                                · intro w'
                                                  go_simp
                                                  with_reducible rfl
                                                rotate_left
                                                · simp only [Act.put, List.setIfInBounds_toArray, List.set_cons_zero, List.set_cons_succ, i64_w, i32_w]
                                                  rfl
                                                refine take_ (i := 14) (N := some 44) (v := ?_) (a' := ?_) #[true, true, true, true, true, true, true, true, true, true, true, true, true, true, true, false, false, false, false] rfl rfl (take_ofW HT_.out HW_.out (by kernel_rfl)) (fun _ _ _ h => h) (Or.inl ⟨by rfl, ?_⟩) hHeld ?_ ?_
                                                rotate_left
                                                · intro w' _
                                                  go_simp
                                                  with_reducible rfl
                                                rotate_left
                                                · simp only [Act.put, List.setIfInBounds_toArray, List.set_cons_zero, List.set_cons_succ, i64_w, i32_w]
                                                  rfl
                                                refine pure_ (i := 15) (N := some 45) (v := ?_) (a' := ?_) #[true, true, true, true, true, true, true, true, true, true, true, true, true, true, true, true, false, false, false] rfl rfl (any_of HT_.out (by kernel_rfl)) (fun _ _ _ h => h) (Or.inl ⟨by rfl, ?_⟩) ?_ ?_
                                                rotate_left
                                                · intro w'
                                                  go_simp
                                                  with_reducible rfl
                                                rotate_left
                                                · simp only [Act.put, List.setIfInBounds_toArray, List.set_cons_zero, List.set_cons_succ, i64_w, i32_w]
                                                  rfl
                                                refine pure_ (i := 16) (N := some 46) (v := ?_) (a' := ?_) #[true, true, true, true, true, true, true, true, true, true, true, true, true, true, true, true, true, false, false] rfl rfl (any_of HT_.out (by kernel_rfl)) (fun _ _ _ h => h) (Or.inl ⟨by rfl, ?_⟩) ?_ ?_
                                                rotate_left
                                                · intro w'
                                                  go_simp
                                                  with_reducible rfl
                                                rotate_left
                                                · simp only [Act.put, List.setIfInBounds_toArray, List.set_cons_zero, List.set_cons_succ, i64_w, i32_w]
                                                  rfl
                                                refine pure_ (i := 17) (N := some 47) (v := ?_) (a' := ?_) #[true, true, true, true, true, true, true, true, true, true, true, true, true, true, true, true, true, true, false] rfl rfl (any_of HT_.out (by kernel_rfl)) (fun _ _ _ h => h) (Or.inl ⟨by rfl, ?_⟩) ?_ ?_
                                                rotate_left
                                                · intro w'
                                                  go_simp
                                                  with_reducible rfl
                                                rotate_left
                                                · simp only [Act.put, List.setIfInBounds_toArray, List.set_cons_zero, List.set_cons_succ, i64_w, i32_w]
                                                  rfl
                                                refine pure_ (i := 18) (N := some 7) (v := ?_) (a' := ?_) #[true, true, true, true, true, true, true, true, true, true, true, true, true, true, true, true, true, true, true] rfl rfl (any_of HT_.out (by kernel_rfl)) (fun _ _ _ h => h) (Or.inl ⟨by rfl, ?_⟩) ?_ ?_
                                                rotate_left
                                                · intro w'
                                                  go_simp
                                                  with_reducible rfl
                                                rotate_left
                                                · simp only [Act.put, List.setIfInBounds_toArray, List.set_cons_zero, List.set_cons_succ, i64_w, i32_w]
                                                  rfl
                                                refine done_ (done_of HT_.out (by kernel_rfl)) ?_
                                                try go_wp2
                                                have n0_ := Aside0.mk (below_drew1 HB.out)
                                                clear HB
                                                have HB := n0_
                                                clear n0_
                                                refine start_ (n := 10) (S := fun w' => True) (ds := []) #[false, false, false, false, false, false, false, false, false, false] (by kernel_rfl) rfl rfl trivial (fun hHeld => ?_); refine with_tabW meterref03_Next.tab14 meterref03_Next.bits14 (fun HT_ HW_ => ?_)
                                                generalize w43.drew = w44 at HB hHeld ⊢
                                                refine pure_ (i := 0) (N := some 59) (v := ?_) (a' := ?_) #[true, false, false, false, false, false, false, false, false, false] rfl rfl (any_of HT_.out (by kernel_rfl)) (fun _ _ _ h => h) (Or.inl ⟨by rfl, ?_⟩) ?_ ?_
                                                rotate_left
                                                · intro w'
                                                  go_simp
                                                  with_reducible rfl
                                                rotate_left
                                                · simp only [Act.put, List.setIfInBounds_toArray, List.set_cons_zero, List.set_cons_succ, i64_w, i32_w]
                                                  rfl
                                                refine pure_ (i := 3) (N := some 62) (v := ?_) (a' := ?_) #[true, false, false, true, false, false, false, false, false, false] rfl rfl (any_of HT_.out (by kernel_rfl)) (fun _ _ _ h => h) (Or.inl ⟨by rfl, ?_⟩) ?_ ?_
                                                rotate_left
                                                · intro w'
                                                  go_simp
                                                  with_reducible rfl
                                                rotate_left
                                                · simp only [Act.put, List.setIfInBounds_toArray, List.set_cons_zero, List.set_cons_succ, i64_w, i32_w]
                                                  rfl
                                                refine pure_ (i := 4) (N := some 63) (v := ?_) (a' := ?_) #[true, false, false, true, true, false, false, false, false, false] rfl rfl (any_of HT_.out (by kernel_rfl)) (fun _ _ _ h => h) (Or.inl ⟨by rfl, ?_⟩) ?_ ?_
                                                rotate_left
                                                · intro w'
                                                  go_simp
                                                  with_reducible rfl
                                                rotate_left
                                                · simp only [Act.put, List.setIfInBounds_toArray, List.set_cons_zero, List.set_cons_succ, i64_w, i32_w]
                                                  rfl
                                                refine pure_ (i := 5) (N := some 64) (v := ?_) (a' := ?_) #[true, false, false, true, true, true, false, false, false, false] rfl rfl (any_of HT_.out (by kernel_rfl)) (fun _ _ _ h => h) (Or.inl ⟨by rfl, ?_⟩) ?_ ?_
                                                rotate_left
                                                · intro w'
                                                  go_simp
                                                  with_reducible rfl
                                                rotate_left
                                                · simp only [Act.put, List.setIfInBounds_toArray, List.set_cons_zero, List.set_cons_succ, i64_w, i32_w]
                                                  rfl
                                                refine pure_ (i := 6) (N := some 65) (v := ?_) (a' := ?_) #[true, false, false, true, true, true, true, false, false, false] rfl rfl (any_of HT_.out (by kernel_rfl)) (fun _ _ _ h => h) (Or.inl ⟨by rfl, ?_⟩) ?_ ?_
                                                rotate_left
                                                · intro w'
                                                  go_simp
                                                  with_reducible rfl
                                                rotate_left
                                                · simp only [Act.put, List.setIfInBounds_toArray, List.set_cons_zero, List.set_cons_succ, i64_w, i32_w]
                                                  rfl
                                                refine pure_ (i := 7) (N := some 66) (v := ?_) (a' := ?_) #[true, false, false, true, true, true, true, true, false, false] rfl rfl (any_of HT_.out (by kernel_rfl)) (fun _ _ _ h => h) (Or.inl ⟨by rfl, ?_⟩) ?_ ?_
                                                rotate_left
                                                · intro w'
                                                  go_simp
                                                  with_reducible rfl
                                                rotate_left
                                                · simp only [Act.put, List.setIfInBounds_toArray, List.set_cons_zero, List.set_cons_succ, i64_w, i32_w]
                                                  rfl
                                                refine pure_ (i := 8) (N := some 67) (v := ?_) (a' := ?_) #[true, false, false, true, true, true, true, true, true, false] rfl rfl (any_of HT_.out (by kernel_rfl)) (fun _ _ _ h => h) (Or.inl ⟨by rfl, ?_⟩) ?_ ?_
                                                rotate_left
                                                · intro w'
                                                  go_simp
                                                  with_reducible rfl
                                                rotate_left
                                                · simp only [Act.put, List.setIfInBounds_toArray, List.set_cons_zero, List.set_cons_succ, i64_w, i32_w]
                                                  rfl
                                                refine one_ (i := 1) (N := some 60) #[true, true, false, true, true, true, true, true, true, false] rfl rfl (one_of HT_.out (by kernel_rfl)) (by decide) (fun K hK => ?_)
                                                refine goes_ Try.func12 (by kernel_rfl) rfl #[.string ((a0.extract (a1 : Int).toNat a0.size).extract 8 ((ji36) : Int).toNat)] (by rfl) rfl rfl (by (try simp only [List.map_toArray, List.map_cons, List.map_nil]); first | done | (simp only [hji36]; rfl) | rfl | (simp only [List.length_drop, List.length_take]; rfl)) ?_
                                                with_reducible refine (meterref01_Crc.calls kj2 ((a0.extract (a1 : Int).toNat a0.size).extract 8 ((ji36) : Int).toNat) t146 _ A34.out).mono ?_
                                                rintro e w' ⟨rfl, ⟨nd, rfl⟩⟩
                                                refine ⟨_, rfl, ?_⟩
                                                refine hK.out _ _ trivial (fun hHeld => ?_)
                                                clear hK K
                                                refine norm_ (a' := ?_) ?_ ?_
                                                rotate_left
                                                · show Act.put _ (some 60) _ = _
                                                  simp only [Act.put, List.setIfInBounds_toArray, List.set_cons_zero, List.set_cons_succ, i64_w, i32_w]
                                                  rfl
                                                refine one_ (i := 2) (N := some 61) #[true, true, true, true, true, true, true, true, true, false] rfl rfl (one_of HT_.out (by kernel_rfl)) (by decide) (fun K hK => ?_)
                                                refine goes_ Try.func20 (by kernel_rfl) rfl #[.int .u32 t146] (by rfl) rfl rfl (by (try simp only [List.map_toArray, List.map_cons, List.map_nil]); first | done | rfl | (simp only [List.length_drop, List.length_take]; rfl)) ?_
                                                with_reducible refine (meterref03_four.calls t146 t147 _ A35.out).mono ?_
                                                rintro e w45 ⟨rfl, hb⟩
                                                refine ⟨_, rfl, ?_⟩
                                                have n0_ := Aside0.mk (below_step (by repeat (first | (with_reducible first | exact HB.out | apply below_alloc | apply pw_below_drewN | apply below_drew1) | exact HB.out)) hb)
                                                clear HB
                                                have HB := n0_
                                                clear n0_
                                                (try clear hb)
                                                (try clear hb2)
                                                (try clear hk)
                                                (try clear hi)
                                                refine hK.out _ _ trivial (fun hHeld => ?_)
                                                clear hK K
                                                refine norm_ (a' := ?_) ?_ ?_
                                                rotate_left
                                                · show Act.put _ (some 61) _ = _
                                                  simp only [Act.put, List.setIfInBounds_toArray, List.set_cons_zero, List.set_cons_succ, i64_w, i32_w]
                                                  rfl
                                                refine pure_ (i := 9) (N := some 68) (v := ?_) (a' := ?_) #[true, true, true, true, true, true, true, true, true, true] rfl rfl (any_of HT_.out (by kernel_rfl)) (fun _ _ _ h => h) (Or.inl ⟨by rfl, ?_⟩) ?_ ?_
                                                rotate_left
                                                · intro w'
                                                  go_simp
                                                  with_reducible rfl
                                                rotate_left
                                                · simp only [Act.put, List.setIfInBounds_toArray, List.set_cons_zero, List.set_cons_succ, i64_w, i32_w]
                                                  rfl
                                                refine done_ (done_of HT_.out (by kernel_rfl)) ?_
                                                try go_wp2
                                                go_ret3
                                                exact ⟨by first | rfl | (simp [errW_none, errW_some] <;> rfl) | (simp only [← hji36]; first | rfl | (simp [errW_none, errW_some] <;> rfl)) | (simp [*, errW_none, errW_some] <;> rfl), by repeat (first | (with_reducible first | exact HB.out | apply below_alloc | apply pw_below_drewN | apply below_drew1) | exact HB.out)⟩
                                              · rw [if_neg c40] at H
                                                have c40b0 : (t147.toList == ((a0.extract (a1 : Int).toNat a0.size).extract ((ji36) : Int).toNat ((wrap64 (12 + (wrap64 ((wrap64 ((wrap64 ((wrap64 (bt (a0.extract (a1 : Int).toNat a0.size) 0)) + (wrap64 (256 * (wrap64 (bt (a0.extract (a1 : Int).toNat a0.size) 1)))))) + (wrap64 (65536 * (wrap64 (bt (a0.extract (a1 : Int).toNat a0.size) 2)))))) + (wrap64 (16777216 * (wrap64 (bt (a0.extract (a1 : Int).toNat a0.size) 3)))))))) : Int).toNat).toList) = false := beq_eq_false_iff_ne.mpr c40
                                                try (have c40x0 := c40b0; simp only [ByteArray.size_extract, Nat.min_self] at c40x0)
                                                have c40b1 : (t147.toList != ((a0.extract (a1 : Int).toNat a0.size).extract ((ji36) : Int).toNat ((wrap64 (12 + (wrap64 ((wrap64 ((wrap64 ((wrap64 (bt (a0.extract (a1 : Int).toNat a0.size) 0)) + (wrap64 (256 * (wrap64 (bt (a0.extract (a1 : Int).toNat a0.size) 1)))))) + (wrap64 (65536 * (wrap64 (bt (a0.extract (a1 : Int).toNat a0.size) 2)))))) + (wrap64 (16777216 * (wrap64 (bt (a0.extract (a1 : Int).toNat a0.size) 3)))))))) : Int).toNat).toList) = true := bne_iff_ne.mpr c40
                                                try (have c40x1 := c40b1; simp only [ByteArray.size_extract, Nat.min_self] at c40x1)
                                                simp only [Option.some.injEq, Prod.mk.injEq] at H
                                                obtain ⟨rfl, rfl, rfl⟩ := H
                                                try go_wp2
                                                have n0_ := Aside0.mk (below_drew1 HB.out)
                                                clear HB
                                                have HB := n0_
                                                clear n0_
                                                refine start_ (n := 7) (S := fun w' => True) (ds := []) #[false, false, false, false, false, false, false] (by kernel_rfl) rfl rfl trivial (fun hHeld => ?_)
                                                generalize wc.drew = w46 at HB hHeld ⊢
                                                refine pure_ (i := 0) (N := some 23) (v := ?_) (a' := ?_) #[true, false, false, false, false, false, false] rfl rfl (by kernel_rfl) (fun _ _ _ h => h) (Or.inl ⟨by rfl, ?_⟩) ?_ ?_
                                                rotate_left
                                                · intro w'
                                                  go_simp
                                                  with_reducible rfl
                                                rotate_left
                                                · simp only [Act.put, List.setIfInBounds_toArray, List.set_cons_zero, List.set_cons_succ, i64_w, i32_w]
                                                  rfl
                                                refine pure_ (i := 1) (N := some 24) (v := ?_) (a' := ?_) #[true, true, false, false, false, false, false] rfl rfl (by kernel_rfl) (fun _ _ _ h => h) (Or.inl ⟨by rfl, ?_⟩) ?_ ?_
                                                rotate_left
                                                · intro w'
                                                  go_simp
                                                  with_reducible rfl
                                                rotate_left
                                                · simp only [Act.put, List.setIfInBounds_toArray, List.set_cons_zero, List.set_cons_succ, i64_w, i32_w]
                                                  rfl
                                                refine pure_ (i := 4) (N := some 27) (v := ?_) (a' := ?_) #[true, true, false, false, true, false, false] rfl rfl (by kernel_rfl) (fun _ _ _ h => h) (Or.inl ⟨by rfl, ?_⟩) ?_ ?_
                                                rotate_left
                                                · intro w'
                                                  go_simp
                                                  with_reducible rfl
                                                rotate_left
                                                · simp only [Act.put, List.setIfInBounds_toArray, List.set_cons_zero, List.set_cons_succ, i64_w, i32_w]
                                                  rfl
                                                refine pure_ (i := 5) (N := some 28) (v := ?_) (a' := ?_) #[true, true, false, false, true, true, false] rfl rfl (by kernel_rfl) (fun _ _ _ h => h) (Or.inl ⟨by rfl, ?_⟩) ?_ ?_
                                                rotate_left
                                                · intro w'
                                                  go_simp
                                                  with_reducible rfl
                                                rotate_left
                                                · simp only [Act.put, List.setIfInBounds_toArray, List.set_cons_zero, List.set_cons_succ, i64_w, i32_w]
                                                  rfl
                                                refine one_ (i := 2) (N := some 25) #[true, true, true, false, true, true, false] rfl rfl (by kernel_rfl) (by decide) (fun K hK => ?_)
                                                refine goes_ Try.func12 (by kernel_rfl) rfl #[.string ((a0.extract (a1 : Int).toNat a0.size).extract 0 4)] (by rfl) rfl rfl (by (try simp only [List.map_toArray, List.map_cons, List.map_nil]); first | done | rfl | (simp only [List.length_drop, List.length_take]; rfl)) ?_
                                                with_reducible refine (meterref01_Crc.calls kj2 ((a0.extract (a1 : Int).toNat a0.size).extract 0 4) t144 _ A11.out).mono ?_
                                                rintro e w' ⟨rfl, ⟨nd, rfl⟩⟩
                                                refine ⟨_, rfl, ?_⟩
                                                refine hK.out _ _ trivial (fun hHeld => ?_)
                                                clear hK K
                                                refine norm_ (a' := ?_) ?_ ?_
                                                rotate_left
                                                · show Act.put _ (some 25) _ = _
                                                  simp only [Act.put, List.setIfInBounds_toArray, List.set_cons_zero, List.set_cons_succ, i64_w, i32_w]
                                                  rfl
                                                refine one_ (i := 3) (N := some 26) #[true, true, true, true, true, true, false] rfl rfl (by kernel_rfl) (by decide) (fun K hK => ?_)
                                                refine goes_ Try.func20 (by kernel_rfl) rfl #[.int .u32 t144] (by rfl) rfl rfl (by (try simp only [List.map_toArray, List.map_cons, List.map_nil]); first | done | rfl | (simp only [List.length_drop, List.length_take]; rfl)) ?_
                                                with_reducible refine (meterref03_four.calls t144 t145 _ A12.out).mono ?_
                                                rintro e w47 ⟨rfl, hb⟩
                                                refine ⟨_, rfl, ?_⟩
                                                have n0_ := Aside0.mk (below_step (by repeat (first | (with_reducible first | exact HB.out | apply below_alloc | apply pw_below_drewN | apply below_drew1) | exact HB.out)) hb)
                                                clear HB
                                                have HB := n0_
                                                clear n0_
                                                (try clear hb)
                                                (try clear hb2)
                                                (try clear hk)
                                                (try clear hi)
                                                refine hK.out _ _ trivial (fun hHeld => ?_)
                                                clear hK K
                                                refine norm_ (a' := ?_) ?_ ?_
                                                rotate_left
                                                · show Act.put _ (some 26) _ = _
                                                  simp only [Act.put, List.setIfInBounds_toArray, List.set_cons_zero, List.set_cons_succ, i64_w, i32_w]
                                                  rfl
                                                refine pure_ (i := 6) (N := some 29) (v := ?_) (a' := ?_) #[true, true, true, true, true, true, true] rfl rfl (by kernel_rfl) (fun _ _ _ h => h) (Or.inl ⟨by rfl, ?_⟩) ?_ ?_
                                                rotate_left
                                                · intro w'
                                                  go_simp
                                                  with_reducible rfl
                                                rotate_left
                                                · simp only [Act.put, List.setIfInBounds_toArray, List.set_cons_zero, List.set_cons_succ, i64_w, i32_w]
                                                  rfl
                                                refine done_ (by kernel_rfl) ?_
                                                try go_wp2
                                                have n0_ := Aside0.mk (below_drew1 HB.out)
                                                clear HB
                                                have HB := n0_
                                                clear n0_
                                                have p17 : 0 ≤ (0 : Int) := (by omega)
                                                have q17 : 0 < (a0.extract (a1 : Int).toNat a0.size).size := (by have : (0 : Int) < ((a0.extract (a1 : Int).toNat a0.size).size : Int) := of_decide_eq_true (by first | (with_reducible assumption) | assumption); omega)
                                                have hx17 : ∀ h : 0 < (a0.extract (a1 : Int).toNat a0.size).size, (((a0.extract (a1 : Int).toNat a0.size)[0]'h).toNat : Int) = bt (a0.extract (a1 : Int).toNat a0.size) 0 := bt_at (a0.extract (a1 : Int).toNat a0.size) 0
                                                clear p17
                                                have qi17 : (0 < ((a0.extract (a1 : Int).toNat a0.size).size : Int)) = True := eq_true (of_decide_eq_true (by first | (with_reducible assumption) | assumption))
                                                replace q17 := eq_true q17
                                                try (have qx17 := q17; simp only [ByteArray.size_extract, Nat.min_self] at qx17)
                                                try (have qix17 := qi17; simp only [ByteArray.size_extract, Nat.min_self] at qix17)
                                                have p19 : 0 ≤ (1 : Int) := (by omega)
                                                have q19 : 1 < (a0.extract (a1 : Int).toNat a0.size).size := (by have : (1 : Int) < ((a0.extract (a1 : Int).toNat a0.size).size : Int) := of_decide_eq_true (by first | (with_reducible assumption) | assumption); omega)
                                                have hx19 : ∀ h : 1 < (a0.extract (a1 : Int).toNat a0.size).size, (((a0.extract (a1 : Int).toNat a0.size)[1]'h).toNat : Int) = bt (a0.extract (a1 : Int).toNat a0.size) 1 := bt_at (a0.extract (a1 : Int).toNat a0.size) 1
                                                clear p19
                                                have qi19 : (1 < ((a0.extract (a1 : Int).toNat a0.size).size : Int)) = True := eq_true (of_decide_eq_true (by first | (with_reducible assumption) | assumption))
                                                replace q19 := eq_true q19
                                                try (have qx19 := q19; simp only [ByteArray.size_extract, Nat.min_self] at qx19)
                                                try (have qix19 := qi19; simp only [ByteArray.size_extract, Nat.min_self] at qix19)
                                                have p21 : 0 ≤ (2 : Int) := (by omega)
                                                have q21 : 2 < (a0.extract (a1 : Int).toNat a0.size).size := (by have : (2 : Int) < ((a0.extract (a1 : Int).toNat a0.size).size : Int) := of_decide_eq_true (by first | (with_reducible assumption) | assumption); omega)
                                                have hx21 : ∀ h : 2 < (a0.extract (a1 : Int).toNat a0.size).size, (((a0.extract (a1 : Int).toNat a0.size)[2]'h).toNat : Int) = bt (a0.extract (a1 : Int).toNat a0.size) 2 := bt_at (a0.extract (a1 : Int).toNat a0.size) 2
                                                clear p21
                                                have qi21 : (2 < ((a0.extract (a1 : Int).toNat a0.size).size : Int)) = True := eq_true (of_decide_eq_true (by first | (with_reducible assumption) | assumption))
                                                replace q21 := eq_true q21
                                                try (have qx21 := q21; simp only [ByteArray.size_extract, Nat.min_self] at qx21)
                                                try (have qix21 := qi21; simp only [ByteArray.size_extract, Nat.min_self] at qix21)
                                                have p23 : 0 ≤ (3 : Int) := (by omega)
                                                have q23 : 3 < (a0.extract (a1 : Int).toNat a0.size).size := (by have : (3 : Int) < ((a0.extract (a1 : Int).toNat a0.size).size : Int) := of_decide_eq_true (by first | (with_reducible assumption) | assumption); omega)
                                                have hx23 : ∀ h : 3 < (a0.extract (a1 : Int).toNat a0.size).size, (((a0.extract (a1 : Int).toNat a0.size)[3]'h).toNat : Int) = bt (a0.extract (a1 : Int).toNat a0.size) 3 := bt_at (a0.extract (a1 : Int).toNat a0.size) 3
                                                clear p23
                                                have qi23 : (3 < ((a0.extract (a1 : Int).toNat a0.size).size : Int)) = True := eq_true (of_decide_eq_true (by first | (with_reducible assumption) | assumption))
                                                replace q23 := eq_true q23
                                                try (have qx23 := q23; simp only [ByteArray.size_extract, Nat.min_self] at qx23)
                                                try (have qix23 := qi23; simp only [ByteArray.size_extract, Nat.min_self] at qix23)
                                                refine start_ (n := 19) (S := fun w' => True) (ds := []) #[false, false, false, false, false, false, false, false, false, false, false, false, false, false, false, false, false, false, false] (by kernel_rfl) rfl rfl trivial (fun hHeld => ?_); refine with_tabW meterref03_Next.tab8 meterref03_Next.bits8 (fun HT_ HW_ => ?_)
                                                generalize w47.drew = w48 at HB hHeld ⊢
                                                refine pure_ (i := 0) (N := some 30) (v := ?_) (a' := ?_) #[true, false, false, false, false, false, false, false, false, false, false, false, false, false, false, false, false, false, false] rfl rfl (any_of HT_.out (by kernel_rfl)) (fun _ _ _ h => h) (Or.inl ⟨by rfl, ?_⟩) ?_ ?_
                                                rotate_left
                                                · intro w'
                                                  go_simp
                                                  with_reducible rfl
                                                rotate_left
                                                · simp only [Act.put, List.setIfInBounds_toArray, List.set_cons_zero, List.set_cons_succ, i64_w, i32_w]
                                                  rfl
                                                refine pure_ (i := 3) (N := some 33) (v := ?_) (a' := ?_) #[true, false, false, true, false, false, false, false, false, false, false, false, false, false, false, false, false, false, false] rfl rfl (any_of HT_.out (by kernel_rfl)) (fun _ _ _ h => h) (Or.inl ⟨by rfl, ?_⟩) ?_ ?_
                                                rotate_left
                                                · intro w'
                                                  go_simp
                                                  with_reducible rfl
                                                rotate_left
                                                · simp only [Act.put, List.setIfInBounds_toArray, List.set_cons_zero, List.set_cons_succ, i64_w, i32_w]
                                                  rfl
                                                refine pure_ (i := 8) (N := some 38) (v := ?_) (a' := ?_) #[true, false, false, true, false, false, false, false, true, false, false, false, false, false, false, false, false, false, false] rfl rfl (any_of HT_.out (by kernel_rfl)) (fun _ _ _ h => h) (Or.inl ⟨by rfl, ?_⟩) ?_ ?_
                                                rotate_left
                                                · intro w'
                                                  go_simp
                                                  with_reducible rfl
                                                rotate_left
                                                · simp only [Act.put, List.setIfInBounds_toArray, List.set_cons_zero, List.set_cons_succ, i64_w, i32_w]
                                                  rfl
                                                refine pure_ (i := 13) (N := some 43) (v := ?_) (a' := ?_) #[true, false, false, true, false, false, false, false, true, false, false, false, false, true, false, false, false, false, false] rfl rfl (any_of HT_.out (by kernel_rfl)) (fun _ _ _ h => h) (Or.inl ⟨by rfl, ?_⟩) ?_ ?_
                                                rotate_left
                                                · intro w'
                                                  go_simp
                                                  with_reducible rfl
                                                rotate_left
                                                · simp only [Act.put, List.setIfInBounds_toArray, List.set_cons_zero, List.set_cons_succ, i64_w, i32_w]
                                                  rfl
                                                refine take_ (i := 1) (N := some 31) (v := ?_) (a' := ?_) #[true, true, false, true, false, false, false, false, true, false, false, false, false, true, false, false, false, false, false] rfl rfl (take_ofW HT_.out HW_.out (by kernel_rfl)) (fun _ _ _ h => h) (Or.inl ⟨by rfl, ?_⟩) hHeld ?_ ?_
                                                rotate_left
                                                · intro w' _
                                                  go_simp
                                                  with_reducible rfl
                                                rotate_left
                                                · simp only [Act.put, List.setIfInBounds_toArray, List.set_cons_zero, List.set_cons_succ, i64_w, i32_w]
                                                  rfl
                                                refine pure_ (i := 2) (N := some 32) (v := ?_) (a' := ?_) #[true, true, true, true, false, false, false, false, true, false, false, false, false, true, false, false, false, false, false] rfl rfl (any_of HT_.out (by kernel_rfl)) (fun _ _ _ h => h) (Or.inl ⟨by rfl, ?_⟩) ?_ ?_
                                                rotate_left
                                                · intro w'
                                                  go_simp
                                                  with_reducible rfl
                                                rotate_left
                                                · simp only [Act.put, List.setIfInBounds_toArray, List.set_cons_zero, List.set_cons_succ, i64_w, i32_w]
                                                  rfl
                                                refine take_ (i := 4) (N := some 34) (v := ?_) (a' := ?_) #[true, true, true, true, true, false, false, false, true, false, false, false, false, true, false, false, false, false, false] rfl rfl (take_ofW HT_.out HW_.out (by kernel_rfl)) (fun _ _ _ h => h) (Or.inl ⟨by rfl, ?_⟩) hHeld ?_ ?_
                                                rotate_left
                                                · intro w' _
                                                  go_simp
                                                  with_reducible rfl
                                                rotate_left
                                                · simp only [Act.put, List.setIfInBounds_toArray, List.set_cons_zero, List.set_cons_succ, i64_w, i32_w]
                                                  rfl
                                                refine pure_ (i := 5) (N := some 35) (v := ?_) (a' := ?_) #[true, true, true, true, true, true, false, false, true, false, false, false, false, true, false, false, false, false, false] rfl rfl (any_of HT_.out (by kernel_rfl)) (fun _ _ _ h => h) (Or.inl ⟨by rfl, ?_⟩) ?_ ?_
                                                rotate_left
                                                · intro w'
                                                  go_simp
                                                  with_reducible rfl
                                                rotate_left
                                                · simp only [Act.put, List.setIfInBounds_toArray, List.set_cons_zero, List.set_cons_succ, i64_w, i32_w]
                                                  rfl
                                                refine pure_ (i := 6) (N := some 36) (v := ?_) (a' := ?_) #[true, true, true, true, true, true, true, false, true, false, false, false, false, true, false, false, false, false, false] rfl rfl (any_of HT_.out (by kernel_rfl)) (fun _ _ _ h => h) (Or.inl ⟨by rfl, ?_⟩) ?_ ?_
                                                rotate_left
                                                · intro w'
                                                  go_simp
                                                  with_reducible rfl
                                                rotate_left
                                                · simp only [Act.put, List.setIfInBounds_toArray, List.set_cons_zero, List.set_cons_succ, i64_w, i32_w]
                                                  rfl
                                                refine pure_ (i := 7) (N := some 37) (v := ?_) (a' := ?_) #[true, true, true, true, true, true, true, true, true, false, false, false, false, true, false, false, false, false, false] rfl rfl (any_of HT_.out (by kernel_rfl)) (fun _ _ _ h => h) (Or.inl ⟨by rfl, ?_⟩) ?_ ?_
                                                rotate_left
                                                · intro w'
                                                  go_simp
                                                  with_reducible rfl
                                                rotate_left
                                                · simp only [Act.put, List.setIfInBounds_toArray, List.set_cons_zero, List.set_cons_succ, i64_w, i32_w]
                                                  rfl
                                                refine take_ (i := 9) (N := some 39) (v := ?_) (a' := ?_) #[true, true, true, true, true, true, true, true, true, true, false, false, false, true, false, false, false, false, false] rfl rfl (take_ofW HT_.out HW_.out (by kernel_rfl)) (fun _ _ _ h => h) (Or.inl ⟨by rfl, ?_⟩) hHeld ?_ ?_
                                                rotate_left
                                                · intro w' _
                                                  go_simp
                                                  with_reducible rfl
                                                rotate_left
                                                · simp only [Act.put, List.setIfInBounds_toArray, List.set_cons_zero, List.set_cons_succ, i64_w, i32_w]
                                                  rfl
                                                refine pure_ (i := 10) (N := some 40) (v := ?_) (a' := ?_) #[true, true, true, true, true, true, true, true, true, true, true, false, false, true, false, false, false, false, false] rfl rfl (any_of HT_.out (by kernel_rfl)) (fun _ _ _ h => h) (Or.inl ⟨by rfl, ?_⟩) ?_ ?_
                                                rotate_left
                                                · intro w'
                                                  go_simp
                                                  with_reducible rfl
                                                rotate_left
                                                · simp only [Act.put, List.setIfInBounds_toArray, List.set_cons_zero, List.set_cons_succ, i64_w, i32_w]
                                                  rfl
                                                refine pure_ (i := 11) (N := some 41) (v := ?_) (a' := ?_) #[true, true, true, true, true, true, true, true, true, true, true, true, false, true, false, false, false, false, false] rfl rfl (any_of HT_.out (by kernel_rfl)) (fun _ _ _ h => h) (Or.inl ⟨by rfl, ?_⟩) ?_ ?_
                                                rotate_left
                                                · intro w'
                                                  go_simp
                                                  with_reducible rfl
                                                rotate_left
                                                · simp only [Act.put, List.setIfInBounds_toArray, List.set_cons_zero, List.set_cons_succ, i64_w, i32_w]
                                                  rfl
                                                refine pure_ (i := 12) (N := some 42) (v := ?_) (a' := ?_) #[true, true, true, true, true, true, true, true, true, true, true, true, true, true, false, false, false, false, false] rfl rfl (any_of HT_.out (by kernel_rfl)) (fun _ _ _ h => h) (Or.inl ⟨by rfl, ?_⟩) ?_ ?_
                                                rotate_left
                                                · intro w'
                                                  go_simp
                                                  with_reducible rfl
                                                rotate_left
                                                · simp only [Act.put, List.setIfInBounds_toArray, List.set_cons_zero, List.set_cons_succ, i64_w, i32_w]
                                                  rfl
                                                refine take_ (i := 14) (N := some 44) (v := ?_) (a' := ?_) #[true, true, true, true, true, true, true, true, true, true, true, true, true, true, true, false, false, false, false] rfl rfl (take_ofW HT_.out HW_.out (by kernel_rfl)) (fun _ _ _ h => h) (Or.inl ⟨by rfl, ?_⟩) hHeld ?_ ?_
                                                rotate_left
                                                · intro w' _
                                                  go_simp
                                                  with_reducible rfl
                                                rotate_left
                                                · simp only [Act.put, List.setIfInBounds_toArray, List.set_cons_zero, List.set_cons_succ, i64_w, i32_w]
                                                  rfl
                                                refine pure_ (i := 15) (N := some 45) (v := ?_) (a' := ?_) #[true, true, true, true, true, true, true, true, true, true, true, true, true, true, true, true, false, false, false] rfl rfl (any_of HT_.out (by kernel_rfl)) (fun _ _ _ h => h) (Or.inl ⟨by rfl, ?_⟩) ?_ ?_
                                                rotate_left
                                                · intro w'
                                                  go_simp
                                                  with_reducible rfl
                                                rotate_left
                                                · simp only [Act.put, List.setIfInBounds_toArray, List.set_cons_zero, List.set_cons_succ, i64_w, i32_w]
                                                  rfl
                                                refine pure_ (i := 16) (N := some 46) (v := ?_) (a' := ?_) #[true, true, true, true, true, true, true, true, true, true, true, true, true, true, true, true, true, false, false] rfl rfl (any_of HT_.out (by kernel_rfl)) (fun _ _ _ h => h) (Or.inl ⟨by rfl, ?_⟩) ?_ ?_
                                                rotate_left
                                                · intro w'
                                                  go_simp
                                                  with_reducible rfl
                                                rotate_left
                                                · simp only [Act.put, List.setIfInBounds_toArray, List.set_cons_zero, List.set_cons_succ, i64_w, i32_w]
                                                  rfl
                                                refine pure_ (i := 17) (N := some 47) (v := ?_) (a' := ?_) #[true, true, true, true, true, true, true, true, true, true, true, true, true, true, true, true, true, true, false] rfl rfl (any_of HT_.out (by kernel_rfl)) (fun _ _ _ h => h) (Or.inl ⟨by rfl, ?_⟩) ?_ ?_
                                                rotate_left
                                                · intro w'
                                                  go_simp
                                                  with_reducible rfl
                                                rotate_left
                                                · simp only [Act.put, List.setIfInBounds_toArray, List.set_cons_zero, List.set_cons_succ, i64_w, i32_w]
                                                  rfl
                                                refine pure_ (i := 18) (N := some 7) (v := ?_) (a' := ?_) #[true, true, true, true, true, true, true, true, true, true, true, true, true, true, true, true, true, true, true] rfl rfl (any_of HT_.out (by kernel_rfl)) (fun _ _ _ h => h) (Or.inl ⟨by rfl, ?_⟩) ?_ ?_
                                                rotate_left
                                                · intro w'
                                                  go_simp
                                                  with_reducible rfl
                                                rotate_left
                                                · simp only [Act.put, List.setIfInBounds_toArray, List.set_cons_zero, List.set_cons_succ, i64_w, i32_w]
                                                  rfl
                                                refine done_ (done_of HT_.out (by kernel_rfl)) ?_
                                                try go_wp2
                                                have n0_ := Aside0.mk (below_drew1 HB.out)
                                                clear HB
                                                have HB := n0_
                                                clear n0_
                                                refine start_ (n := 10) (S := fun w' => True) (ds := []) #[false, false, false, false, false, false, false, false, false, false] (by kernel_rfl) rfl rfl trivial (fun hHeld => ?_); refine with_tabW meterref03_Next.tab14 meterref03_Next.bits14 (fun HT_ HW_ => ?_)
                                                generalize w48.drew = w49 at HB hHeld ⊢
                                                refine pure_ (i := 0) (N := some 59) (v := ?_) (a' := ?_) #[true, false, false, false, false, false, false, false, false, false] rfl rfl (any_of HT_.out (by kernel_rfl)) (fun _ _ _ h => h) (Or.inl ⟨by rfl, ?_⟩) ?_ ?_
                                                rotate_left
                                                · intro w'
                                                  go_simp
                                                  with_reducible rfl
                                                rotate_left
                                                · simp only [Act.put, List.setIfInBounds_toArray, List.set_cons_zero, List.set_cons_succ, i64_w, i32_w]
                                                  rfl
                                                refine pure_ (i := 3) (N := some 62) (v := ?_) (a' := ?_) #[true, false, false, true, false, false, false, false, false, false] rfl rfl (any_of HT_.out (by kernel_rfl)) (fun _ _ _ h => h) (Or.inl ⟨by rfl, ?_⟩) ?_ ?_
                                                rotate_left
                                                · intro w'
                                                  go_simp
                                                  with_reducible rfl
                                                rotate_left
                                                · simp only [Act.put, List.setIfInBounds_toArray, List.set_cons_zero, List.set_cons_succ, i64_w, i32_w]
                                                  rfl
                                                refine pure_ (i := 4) (N := some 63) (v := ?_) (a' := ?_) #[true, false, false, true, true, false, false, false, false, false] rfl rfl (any_of HT_.out (by kernel_rfl)) (fun _ _ _ h => h) (Or.inl ⟨by rfl, ?_⟩) ?_ ?_
                                                rotate_left
                                                · intro w'
                                                  go_simp
                                                  with_reducible rfl
                                                rotate_left
                                                · simp only [Act.put, List.setIfInBounds_toArray, List.set_cons_zero, List.set_cons_succ, i64_w, i32_w]
                                                  rfl
                                                refine pure_ (i := 5) (N := some 64) (v := ?_) (a' := ?_) #[true, false, false, true, true, true, false, false, false, false] rfl rfl (any_of HT_.out (by kernel_rfl)) (fun _ _ _ h => h) (Or.inl ⟨by rfl, ?_⟩) ?_ ?_
                                                rotate_left
                                                · intro w'
                                                  go_simp
                                                  with_reducible rfl
                                                rotate_left
                                                · simp only [Act.put, List.setIfInBounds_toArray, List.set_cons_zero, List.set_cons_succ, i64_w, i32_w]
                                                  rfl
                                                refine pure_ (i := 6) (N := some 65) (v := ?_) (a' := ?_) #[true, false, false, true, true, true, true, false, false, false] rfl rfl (any_of HT_.out (by kernel_rfl)) (fun _ _ _ h => h) (Or.inl ⟨by rfl, ?_⟩) ?_ ?_
                                                rotate_left
                                                · intro w'
                                                  go_simp
                                                  with_reducible rfl
                                                rotate_left
                                                · simp only [Act.put, List.setIfInBounds_toArray, List.set_cons_zero, List.set_cons_succ, i64_w, i32_w]
                                                  rfl
                                                refine pure_ (i := 7) (N := some 66) (v := ?_) (a' := ?_) #[true, false, false, true, true, true, true, true, false, false] rfl rfl (any_of HT_.out (by kernel_rfl)) (fun _ _ _ h => h) (Or.inl ⟨by rfl, ?_⟩) ?_ ?_
                                                rotate_left
                                                · intro w'
                                                  go_simp
                                                  with_reducible rfl
                                                rotate_left
                                                · simp only [Act.put, List.setIfInBounds_toArray, List.set_cons_zero, List.set_cons_succ, i64_w, i32_w]
                                                  rfl
                                                refine pure_ (i := 8) (N := some 67) (v := ?_) (a' := ?_) #[true, false, false, true, true, true, true, true, true, false] rfl rfl (any_of HT_.out (by kernel_rfl)) (fun _ _ _ h => h) (Or.inl ⟨by rfl, ?_⟩) ?_ ?_
                                                rotate_left
                                                · intro w'
                                                  go_simp
                                                  with_reducible rfl
                                                rotate_left
                                                · simp only [Act.put, List.setIfInBounds_toArray, List.set_cons_zero, List.set_cons_succ, i64_w, i32_w]
                                                  rfl
                                                refine one_ (i := 1) (N := some 60) #[true, true, false, true, true, true, true, true, true, false] rfl rfl (one_of HT_.out (by kernel_rfl)) (by decide) (fun K hK => ?_)
                                                refine goes_ Try.func12 (by kernel_rfl) rfl #[.string ((a0.extract (a1 : Int).toNat a0.size).extract 8 ((ji36) : Int).toNat)] (by rfl) rfl rfl (by (try simp only [List.map_toArray, List.map_cons, List.map_nil]); first | done | (simp only [hji36]; rfl) | rfl | (simp only [List.length_drop, List.length_take]; rfl)) ?_
                                                with_reducible refine (meterref01_Crc.calls kj2 ((a0.extract (a1 : Int).toNat a0.size).extract 8 ((ji36) : Int).toNat) t146 _ A34.out).mono ?_
                                                rintro e w' ⟨rfl, ⟨nd, rfl⟩⟩
                                                refine ⟨_, rfl, ?_⟩
                                                refine hK.out _ _ trivial (fun hHeld => ?_)
                                                clear hK K
                                                refine norm_ (a' := ?_) ?_ ?_
                                                rotate_left
                                                · show Act.put _ (some 60) _ = _
                                                  simp only [Act.put, List.setIfInBounds_toArray, List.set_cons_zero, List.set_cons_succ, i64_w, i32_w]
                                                  rfl
                                                refine one_ (i := 2) (N := some 61) #[true, true, true, true, true, true, true, true, true, false] rfl rfl (one_of HT_.out (by kernel_rfl)) (by decide) (fun K hK => ?_)
                                                refine goes_ Try.func20 (by kernel_rfl) rfl #[.int .u32 t146] (by rfl) rfl rfl (by (try simp only [List.map_toArray, List.map_cons, List.map_nil]); first | done | rfl | (simp only [List.length_drop, List.length_take]; rfl)) ?_
                                                with_reducible refine (meterref03_four.calls t146 t147 _ A35.out).mono ?_
                                                rintro e w50 ⟨rfl, hb⟩
                                                refine ⟨_, rfl, ?_⟩
                                                have n0_ := Aside0.mk (below_step (by repeat (first | (with_reducible first | exact HB.out | apply below_alloc | apply pw_below_drewN | apply below_drew1) | exact HB.out)) hb)
                                                clear HB
                                                have HB := n0_
                                                clear n0_
                                                (try clear hb)
                                                (try clear hb2)
                                                (try clear hk)
                                                (try clear hi)
                                                refine hK.out _ _ trivial (fun hHeld => ?_)
                                                clear hK K
                                                refine norm_ (a' := ?_) ?_ ?_
                                                rotate_left
                                                · show Act.put _ (some 61) _ = _
                                                  simp only [Act.put, List.setIfInBounds_toArray, List.set_cons_zero, List.set_cons_succ, i64_w, i32_w]
                                                  rfl
                                                refine pure_ (i := 9) (N := some 68) (v := ?_) (a' := ?_) #[true, true, true, true, true, true, true, true, true, true] rfl rfl (any_of HT_.out (by kernel_rfl)) (fun _ _ _ h => h) (Or.inl ⟨by rfl, ?_⟩) ?_ ?_
                                                rotate_left
                                                · intro w'
                                                  go_simp
                                                  with_reducible rfl
                                                rotate_left
                                                · simp only [Act.put, List.setIfInBounds_toArray, List.set_cons_zero, List.set_cons_succ, i64_w, i32_w]
                                                  rfl
                                                refine done_ (done_of HT_.out (by kernel_rfl)) ?_
                                                try go_wp2
                                                go_ret3
                                                exact ⟨by first | rfl | (simp [errW_none, errW_some] <;> rfl) | (simp only [← hji36]; first | rfl | (simp [errW_none, errW_some] <;> rfl)) | (simp [*, errW_none, errW_some] <;> rfl), by repeat (first | (with_reducible first | exact HB.out | apply below_alloc | apply pw_below_drewN | apply below_drew1) | exact HB.out)⟩
                                            · rw [if_neg c39] at H
                                              exact absurd H (by simp)
                                          · rw [if_neg c38] at H
                                            exact absurd H (by simp)
                                        · rw [if_neg c37] at H
                                          exact absurd H (by simp)
                                      · rw [if_neg c33] at H
                                        exact absurd H (by simp)
                                    · rw [if_neg c32] at H
                                      exact absurd H (by simp)
                              · rw [if_neg c22] at H
                                exact absurd H (by simp)
                            · rw [if_neg c20] at H
                              exact absurd H (by simp)
                          · rw [if_neg c18] at H
                            exact absurd H (by simp)
                        · rw [if_neg c16] at H
                          exact absurd H (by simp)
                      · rw [if_neg c15] at H
                        have c15b0 : (t145.toList == ((a0.extract (a1 : Int).toNat a0.size).extract 4 8).toList) = false := beq_eq_false_iff_ne.mpr c15
                        try (have c15x0 := c15b0; simp only [ByteArray.size_extract, Nat.min_self] at c15x0)
                        have c15b1 : (t145.toList != ((a0.extract (a1 : Int).toNat a0.size).extract 4 8).toList) = true := bne_iff_ne.mpr c15
                        try (have c15x1 := c15b1; simp only [ByteArray.size_extract, Nat.min_self] at c15x1)
                        simp only [Option.some.injEq, Prod.mk.injEq] at H
                        obtain ⟨rfl, rfl, rfl⟩ := H
                        try go_wp2
                        have n0_ := Aside0.mk (below_drew1 HB.out)
                        clear HB
                        have HB := n0_
                        clear n0_
                        refine start_ (n := 7) (S := fun w' => True) (ds := []) #[false, false, false, false, false, false, false] (by kernel_rfl) rfl rfl trivial (fun hHeld => ?_)
                        generalize wc.drew = w51 at HB hHeld ⊢
                        refine pure_ (i := 0) (N := some 23) (v := ?_) (a' := ?_) #[true, false, false, false, false, false, false] rfl rfl (by kernel_rfl) (fun _ _ _ h => h) (Or.inl ⟨by rfl, ?_⟩) ?_ ?_
                        rotate_left
                        · intro w'
                          go_simp
                          with_reducible rfl
                        rotate_left
                        · simp only [Act.put, List.setIfInBounds_toArray, List.set_cons_zero, List.set_cons_succ, i64_w, i32_w]
                          rfl
                        refine pure_ (i := 1) (N := some 24) (v := ?_) (a' := ?_) #[true, true, false, false, false, false, false] rfl rfl (by kernel_rfl) (fun _ _ _ h => h) (Or.inl ⟨by rfl, ?_⟩) ?_ ?_
                        rotate_left
                        · intro w'
                          go_simp
                          with_reducible rfl
                        rotate_left
                        · simp only [Act.put, List.setIfInBounds_toArray, List.set_cons_zero, List.set_cons_succ, i64_w, i32_w]
                          rfl
                        refine pure_ (i := 4) (N := some 27) (v := ?_) (a' := ?_) #[true, true, false, false, true, false, false] rfl rfl (by kernel_rfl) (fun _ _ _ h => h) (Or.inl ⟨by rfl, ?_⟩) ?_ ?_
                        rotate_left
                        · intro w'
                          go_simp
                          with_reducible rfl
                        rotate_left
                        · simp only [Act.put, List.setIfInBounds_toArray, List.set_cons_zero, List.set_cons_succ, i64_w, i32_w]
                          rfl
                        refine pure_ (i := 5) (N := some 28) (v := ?_) (a' := ?_) #[true, true, false, false, true, true, false] rfl rfl (by kernel_rfl) (fun _ _ _ h => h) (Or.inl ⟨by rfl, ?_⟩) ?_ ?_
                        rotate_left
                        · intro w'
                          go_simp
                          with_reducible rfl
                        rotate_left
                        · simp only [Act.put, List.setIfInBounds_toArray, List.set_cons_zero, List.set_cons_succ, i64_w, i32_w]
                          rfl
                        refine one_ (i := 2) (N := some 25) #[true, true, true, false, true, true, false] rfl rfl (by kernel_rfl) (by decide) (fun K hK => ?_)
                        refine goes_ Try.func12 (by kernel_rfl) rfl #[.string ((a0.extract (a1 : Int).toNat a0.size).extract 0 4)] (by rfl) rfl rfl (by (try simp only [List.map_toArray, List.map_cons, List.map_nil]); first | done | rfl | (simp only [List.length_drop, List.length_take]; rfl)) ?_
                        with_reducible refine (meterref01_Crc.calls kj2 ((a0.extract (a1 : Int).toNat a0.size).extract 0 4) t144 _ A11.out).mono ?_
                        rintro e w' ⟨rfl, ⟨nd, rfl⟩⟩
                        refine ⟨_, rfl, ?_⟩
                        refine hK.out _ _ trivial (fun hHeld => ?_)
                        clear hK K
                        refine norm_ (a' := ?_) ?_ ?_
                        rotate_left
                        · show Act.put _ (some 25) _ = _
                          simp only [Act.put, List.setIfInBounds_toArray, List.set_cons_zero, List.set_cons_succ, i64_w, i32_w]
                          rfl
                        refine one_ (i := 3) (N := some 26) #[true, true, true, true, true, true, false] rfl rfl (by kernel_rfl) (by decide) (fun K hK => ?_)
                        refine goes_ Try.func20 (by kernel_rfl) rfl #[.int .u32 t144] (by rfl) rfl rfl (by (try simp only [List.map_toArray, List.map_cons, List.map_nil]); first | done | rfl | (simp only [List.length_drop, List.length_take]; rfl)) ?_
                        with_reducible refine (meterref03_four.calls t144 t145 _ A12.out).mono ?_
                        rintro e w52 ⟨rfl, hb⟩
                        refine ⟨_, rfl, ?_⟩
                        have n0_ := Aside0.mk (below_step (by repeat (first | (with_reducible first | exact HB.out | apply below_alloc | apply pw_below_drewN | apply below_drew1) | exact HB.out)) hb)
                        clear HB
                        have HB := n0_
                        clear n0_
                        (try clear hb)
                        (try clear hb2)
                        (try clear hk)
                        (try clear hi)
                        refine hK.out _ _ trivial (fun hHeld => ?_)
                        clear hK K
                        refine norm_ (a' := ?_) ?_ ?_
                        rotate_left
                        · show Act.put _ (some 26) _ = _
                          simp only [Act.put, List.setIfInBounds_toArray, List.set_cons_zero, List.set_cons_succ, i64_w, i32_w]
                          rfl
                        refine pure_ (i := 6) (N := some 29) (v := ?_) (a' := ?_) #[true, true, true, true, true, true, true] rfl rfl (by kernel_rfl) (fun _ _ _ h => h) (Or.inl ⟨by rfl, ?_⟩) ?_ ?_
                        rotate_left
                        · intro w'
                          go_simp
                          with_reducible rfl
                        rotate_left
                        · simp only [Act.put, List.setIfInBounds_toArray, List.set_cons_zero, List.set_cons_succ, i64_w, i32_w]
                          rfl
                        refine done_ (by kernel_rfl) ?_
                        try go_wp2
                        go_ret3
                        exact ⟨by first | rfl | (simp [errW_none, errW_some] <;> rfl) | (simp [*, errW_none, errW_some] <;> rfl), by repeat (first | (with_reducible first | exact HB.out | apply below_alloc | apply pw_below_drewN | apply below_drew1) | exact HB.out)⟩
                    · rw [if_neg c14] at H
                      exact absurd H (by simp)
                  · rw [if_neg c13] at H
                    exact absurd H (by simp)
                · rw [if_neg c10] at H
                  exact absurd H (by simp)
              · rw [if_neg c9] at H
                exact absurd H (by simp)
          · rw [if_neg c7] at H
            exact absurd H (by simp)
        · rw [if_neg c6] at H
          exact absurd H (by simp)

end Go.Proofs.Ytpfipeopacjkjaa.PFrameReads
