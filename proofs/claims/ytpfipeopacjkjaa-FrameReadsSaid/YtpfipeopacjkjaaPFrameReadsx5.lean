-- Written by a program of this session's (wip/gprint.py): the kit's print, with functions given by hand.
import Derived.Test.YtpfipeopacjkjaaPFrameReadsx0
import Derived.Test.YtpfipeopacjkjaaPFrameReadsx1
import Derived.Test.YtpfipeopacjkjaaPFrameReadsx2
import Derived.Test.YtpfipeopacjkjaaPFrameReadsx3
import Derived.Test.YtpfipeopacjkjaaPFrameReadsx4
namespace Go.Proofs.Ytpfipeopacjkjaa.PFrameReads
open Go.RowKit Go.Proofs.YtpfipeopacjkjaaW.PrintWords Go.Proofs.YtpfipeopacjkjaaW.PrintLast Go.Proofs.YtpfipeopacjkjaaW.PrintMore
attribute [local go_sem] max2_int min2_int max_two min_two max_three min_three max_four min_four   -- for this text's walks alone
set_option linter.unusedVariables false
set_option linter.unusedSimpArgs false

/-! ### meterlaw03_FrameReads: function 4 -/
def meterlaw03_FrameReads.j0 : Nat → ByteArray → ByteArray → Int → Bool → Option (Bool)
  | 0, _, _, _, _ => none
  | k + 1, x0, x1, x2, x31 => if x31 = true then (some true) else ((frame_Put.f k x0).bind fun bt149 => ((meterref03_Put.f k x0).bind fun bt151 => ((frame_Next.f k x1 x2).bind fun bt153 => ((meterref03_Next.f k x1 x2).bind fun bt156 => ((frame_Whole.f k x1).bind fun bt159 => ((meterref03_Next.f k x1 0).bind fun bt161 => (if bt161.2.2 = 0 then (if bt161.2.1 = (x1.size : Int) then (if bt149.1.toList = bt151.1.toList then (if bt149.2 = bt151.2 then (if bt153.1.toList = bt156.1.toList then (if bt153.2.1 = bt156.2.1 then (if bt153.2.2 = bt156.2.2 then (if bt159.1.toList = bt161.1.toList then (some (bt159.2 == bt161.2.2)) else (some false)) else (some false)) else (some false)) else (some false)) else (some false)) else (some false)) else (if bt149.1.toList = bt151.1.toList then (if bt149.2 = bt151.2 then (if bt153.1.toList = bt156.1.toList then (if bt153.2.1 = bt156.2.1 then (if bt153.2.2 = bt156.2.2 then (if bt159.1.toList = ([] : List UInt8) then (some (bt159.2 == 8)) else (some false)) else (some false)) else (some false)) else (some false)) else (some false)) else (some false))) else (if bt149.1.toList = bt151.1.toList then (if bt149.2 = bt151.2 then (if bt153.1.toList = bt156.1.toList then (if bt153.2.1 = bt156.2.1 then (if bt153.2.2 = bt156.2.2 then (if bt159.1.toList = bt161.1.toList then (some (bt159.2 == bt161.2.2)) else (some false)) else (some false)) else (some false)) else (some false)) else (some false)) else (some false)))))))))
def meterlaw03_FrameReads.f (k : Nat) (a0 : ByteArray) (a1 : ByteArray) (a2 : Int) : Option (Bool) := (meterlaw03_awake.f k).bind fun t148 => (if t148 = true then (if (a0.size : Int) > 70000 then (meterlaw03_FrameReads.j0 k a0 a1 a2 true) else (meterlaw03_FrameReads.j0 k a0 a1 a2 (decide ((a1.size : Int) > 70000)))) else (some false))
theorem meterlaw03_FrameReads.mono_l : ∀ k, (∀ y0 y1 y2 y3, LeO (meterlaw03_FrameReads.j0 k y0 y1 y2 y3) (meterlaw03_FrameReads.j0 (k + 1) y0 y1 y2 y3))
  | 0 => fun _ _ _ _ r h => by simp [meterlaw03_FrameReads.j0] at h
  | k + 1 => by
    have ih0 := meterlaw03_FrameReads.mono_l k
    · intro y0 y1 y2 y3
      unfold meterlaw03_FrameReads.j0
      repeat' first
      | (with_reducible exact ih0 _ _ _ _)
      | (with_reducible exact frame_Next.mono _ _ _)
      | (with_reducible exact frame_Put.mono _ _)
      | (with_reducible exact frame_Whole.mono _ _)
      | (with_reducible exact meterlaw03_awake.mono _)
      | (with_reducible exact meterref03_Next.mono _ _ _)
      | (with_reducible exact meterref03_Put.mono _ _)
      | (with_reducible exact LeO.refl _)
      | (with_reducible exact LeO.none _)
      | (with_reducible refine LeO.ite ?_ ?_)
      | (with_reducible refine LeO.bind ?_ (fun _ => ?_))
      | exact ih0 _ _ _ _
      | exact frame_Next.mono _ _ _
      | exact frame_Put.mono _ _
      | exact frame_Whole.mono _ _
      | exact meterlaw03_awake.mono _
      | exact meterref03_Next.mono _ _ _
      | exact meterref03_Put.mono _ _
      | exact LeO.none _
      | refine LeO.ite ?_ ?_
      | refine LeO.bind ?_ (fun _ => ?_)
theorem meterlaw03_FrameReads.mono : ∀ a0 a1 a2 k, LeO (meterlaw03_FrameReads.f k a0 a1 a2) (meterlaw03_FrameReads.f (k + 1) a0 a1 a2) := by
  intro a0 a1 a2 k
  have ih0 := meterlaw03_FrameReads.mono_l k
  unfold meterlaw03_FrameReads.f
  repeat' first
      | (with_reducible exact ih0 _ _ _ _)
      | (with_reducible exact frame_Next.mono _ _ _)
      | (with_reducible exact frame_Put.mono _ _)
      | (with_reducible exact frame_Whole.mono _ _)
      | (with_reducible exact meterlaw03_awake.mono _)
      | (with_reducible exact meterref03_Next.mono _ _ _)
      | (with_reducible exact meterref03_Put.mono _ _)
      | (with_reducible exact LeO.refl _)
      | (with_reducible exact LeO.none _)
      | (with_reducible refine LeO.ite ?_ ?_)
      | (with_reducible refine LeO.bind ?_ (fun _ => ?_))
      | exact ih0 _ _ _ _
      | exact frame_Next.mono _ _ _
      | exact frame_Put.mono _ _
      | exact frame_Whole.mono _ _
      | exact meterlaw03_awake.mono _
      | exact meterref03_Next.mono _ _ _
      | exact meterref03_Put.mono _ _
      | exact LeO.none _
      | refine LeO.ite ?_ ?_
      | refine LeO.bind ?_ (fun _ => ?_)
set_option maxHeartbeats 8000000 in
set_option maxRecDepth 100000 in
theorem meterlaw03_FrameReads.calls (k : Nat) (a0 : ByteArray) (a1 : ByteArray) (a2 : Int) (r : Bool) (w : World) (h : meterlaw03_FrameReads.f k a0 a1 a2 = some r) (hrt_ : r = true) :
    Calls Try.prog 4 #[.string a0, .string a1, .int .i64 a2] w fun e w' => e = .returned (.bool r) ∧ Below w.heap.size w w' := by
  have HB := Aside0.mk (Below.refl w.heap.size w)
  have HRT := Aside0.mk hrt_
  clear hrt_
  have H : ((meterlaw03_awake.f k).bind fun t148 => (if t148 = true then (if (a0.size : Int) > 70000 then (meterlaw03_FrameReads.j0 k a0 a1 a2 true) else (meterlaw03_FrameReads.j0 k a0 a1 a2 (decide ((a1.size : Int) > 70000)))) else (some false))) = some r := h
  clear h
  replace H := Option.bind_eq_some_iff.mp H
  obtain ⟨t148, A40, H⟩ := H
  replace H : (if t148 = true then (if (a0.size : Int) > 70000 then (meterlaw03_FrameReads.j0 k a0 a1 a2 true) else (meterlaw03_FrameReads.j0 k a0 a1 a2 (decide ((a1.size : Int) > 70000)))) else (some false)) = some r := H
  have A4 := Aside0.mk A40
  clear A40
  by_cases c5 : t148 = true
  · subst c5
    have H1 : (if (a0.size : Int) > 70000 then (meterlaw03_FrameReads.j0 k a0 a1 a2 true) else (meterlaw03_FrameReads.j0 k a0 a1 a2 (decide ((a1.size : Int) > 70000)))) = some r := by rw [if_pos rfl] at H; exact H
    clear H
    have H := H1
    clear H1
    have HC6 := Aside0.mk H
    clear H
    go_enter Try.func4, Try.ntmps4
    go_upto_region 3 with (first | ((with_reducible refine gate_callee (f := 13) rfl ?_); refine goesL_ (some 22) rfl rfl Try.func13 (by kernel_rfl) rfl #[] rfl (by (try simp only [List.map_toArray, List.map_cons, List.map_nil]); first | done | rfl | (simp only [List.length_drop, List.length_take]; rfl)) ?_; (with_reducible refine (meterlaw03_awake.calls k  true _ A4.out).mono ?_); rintro e w7 ⟨rfl, hb⟩; refine ⟨_, rfl, ?_⟩; have n0_ := Aside0.mk (below_step (by repeat (first | (with_reducible first | exact HB.out | apply below_alloc | apply pw_below_drewN | apply below_drew1) | exact HB.out)) hb); clear HB; have HB := n0_; clear n0_; (try clear hb); (try clear hb2); (try clear hk); (try clear hi)))
    (try simp only [Act.put, List.setIfInBounds_toArray, List.set_cons_zero, List.set_cons_succ])
    go_cut [31] (fun v31 wc => ∃ (kq : Nat) (x31_5 : Bool), v31 = .bool x31_5 ∧ Aside0 (meterlaw03_FrameReads.j0 kq a0 a1 a2 x31_5 = some r) ∧ Aside0 (kq ≤ k) ∧ Aside0 (Below w.heap.size w wc))
    case first =>
      have H := HC6.out
      clear HC6
      by_cases c8 : (a0.size : Int) > 70000
      · rw [if_pos c8] at H
        have c8b0 : decide (70000 < (a0.size : Int)) = true := decide_eq_true c8
        have c8b1 : decide (70000 < a0.size) = true := decide_eq_true (by omega)
        clear c8
        (first | rw [c8b0] | (simp only [i64_w, i32_w]; rw [c8b0]) | skip)
        have H' := Aside0.mk H
        clear H
        go_wp2
        go_meet
        case rel => exact ⟨_, (true), (by first | rfl | (simp; done) | (simp [*]; done) | (congr 1; simp only [eq_iff_iff, iff_true, ByteArray.size_append] at *; unfold wrap64; omega) | (congr 2; simp only [eq_iff_iff, iff_true, ByteArray.size_append] at *; unfold wrap64; omega)), H', ⟨by first | omega | exact Nat.le_refl _⟩, ⟨by repeat (first | (with_reducible first | exact HB.out | apply below_alloc | apply pw_below_drewN | apply below_drew1) | exact HB.out)⟩⟩
      · rw [if_neg c8] at H
        have c8b0 : decide (70000 < (a0.size : Int)) = false := decide_eq_false c8
        have c8b1 : decide (70000 < a0.size) = false := decide_eq_false (by omega)
        clear c8
        (first | rw [c8b0] | (simp only [i64_w, i32_w]; rw [c8b0]) | skip)
        have H' := Aside0.mk H
        clear H
        go_wp2
        go_meet
        case rel => exact ⟨_, (decide ((a1.size : Int) > 70000)), (by first | rfl | (simp; done) | (simp [*]; done) | (congr 1; simp only [eq_iff_iff, iff_true, ByteArray.size_append] at *; unfold wrap64; omega) | (congr 2; simp only [eq_iff_iff, iff_true, ByteArray.size_append] at *; unfold wrap64; omega)), H', ⟨by first | omega | exact Nat.le_refl _⟩, ⟨by repeat (first | (with_reducible first | exact HB.out | apply below_alloc | apply pw_below_drewN | apply below_drew1) | exact HB.out)⟩⟩
    case rest =>
      clear HC6
      try clear c1
      try clear p2
      try clear c4
      try clear c5
      try clear p6
      try clear c8
      try clear c8b0
      try clear c8b1
      obtain ⟨kq, x31_5, rfl, HA, HJ5, HB⟩ := hcut
      cases kq with
      | zero => exact absurd HA.out (by simp [meterlaw03_FrameReads.j0])
      | succ kj5 =>
        have H := HA.out
        clear HA
        simp only [meterlaw03_FrameReads.j0] at H
        by_cases c9 : x31_5 = true
        · subst c9
          have H1 : (some true) = some r := by rw [if_pos rfl] at H; exact H
          clear H
          have H := H1
          clear H1
          obtain rfl := Option.some.inj H
          go_wp2
          go_ret
          exact ⟨by first | rfl | (simp [errW_none, errW_some] <;> rfl) | (simp [*, errW_none, errW_some] <;> rfl), by repeat (first | (with_reducible first | exact HB.out | apply below_alloc | apply pw_below_drewN | apply below_drew1) | exact HB.out)⟩
        · replace c9 := Bool.eq_false_iff.mpr c9
          subst c9
          have H1 : ((frame_Put.f kj5 a0).bind fun bt149 => ((meterref03_Put.f kj5 a0).bind fun bt151 => ((frame_Next.f kj5 a1 a2).bind fun bt153 => ((meterref03_Next.f kj5 a1 a2).bind fun bt156 => ((frame_Whole.f kj5 a1).bind fun bt159 => ((meterref03_Next.f kj5 a1 0).bind fun bt161 => (if bt161.2.2 = 0 then (if bt161.2.1 = (a1.size : Int) then (if bt149.1.toList = bt151.1.toList then (if bt149.2 = bt151.2 then (if bt153.1.toList = bt156.1.toList then (if bt153.2.1 = bt156.2.1 then (if bt153.2.2 = bt156.2.2 then (if bt159.1.toList = bt161.1.toList then (some (bt159.2 == bt161.2.2)) else (some false)) else (some false)) else (some false)) else (some false)) else (some false)) else (some false)) else (if bt149.1.toList = bt151.1.toList then (if bt149.2 = bt151.2 then (if bt153.1.toList = bt156.1.toList then (if bt153.2.1 = bt156.2.1 then (if bt153.2.2 = bt156.2.2 then (if bt159.1.toList = ([] : List UInt8) then (some (bt159.2 == 8)) else (some false)) else (some false)) else (some false)) else (some false)) else (some false)) else (some false))) else (if bt149.1.toList = bt151.1.toList then (if bt149.2 = bt151.2 then (if bt153.1.toList = bt156.1.toList then (if bt153.2.1 = bt156.2.1 then (if bt153.2.2 = bt156.2.2 then (if bt159.1.toList = bt161.1.toList then (some (bt159.2 == bt161.2.2)) else (some false)) else (some false)) else (some false)) else (some false)) else (some false)) else (some false))))))))) = some r := by rw [if_neg (show ¬ (false = true) by decide)] at H; exact H
          clear H
          have H := H1
          clear H1
          replace H := Option.bind_eq_some_iff.mp H
          obtain ⟨⟨t149, t150⟩, A100, H⟩ := H
          replace H : ((meterref03_Put.f kj5 a0).bind fun bt151 => ((frame_Next.f kj5 a1 a2).bind fun bt153 => ((meterref03_Next.f kj5 a1 a2).bind fun bt156 => ((frame_Whole.f kj5 a1).bind fun bt159 => ((meterref03_Next.f kj5 a1 0).bind fun bt161 => (if bt161.2.2 = 0 then (if bt161.2.1 = (a1.size : Int) then (if t149.toList = bt151.1.toList then (if t150 = bt151.2 then (if bt153.1.toList = bt156.1.toList then (if bt153.2.1 = bt156.2.1 then (if bt153.2.2 = bt156.2.2 then (if bt159.1.toList = bt161.1.toList then (some (bt159.2 == bt161.2.2)) else (some false)) else (some false)) else (some false)) else (some false)) else (some false)) else (some false)) else (if t149.toList = bt151.1.toList then (if t150 = bt151.2 then (if bt153.1.toList = bt156.1.toList then (if bt153.2.1 = bt156.2.1 then (if bt153.2.2 = bt156.2.2 then (if bt159.1.toList = ([] : List UInt8) then (some (bt159.2 == 8)) else (some false)) else (some false)) else (some false)) else (some false)) else (some false)) else (some false))) else (if t149.toList = bt151.1.toList then (if t150 = bt151.2 then (if bt153.1.toList = bt156.1.toList then (if bt153.2.1 = bt156.2.1 then (if bt153.2.2 = bt156.2.2 then (if bt159.1.toList = bt161.1.toList then (some (bt159.2 == bt161.2.2)) else (some false)) else (some false)) else (some false)) else (some false)) else (some false)) else (some false)))))))) = some r := H
          have A10 := Aside0.mk A100
          clear A100
          replace H := Option.bind_eq_some_iff.mp H
          obtain ⟨⟨t151, t152⟩, A110, H⟩ := H
          replace H : ((frame_Next.f kj5 a1 a2).bind fun bt153 => ((meterref03_Next.f kj5 a1 a2).bind fun bt156 => ((frame_Whole.f kj5 a1).bind fun bt159 => ((meterref03_Next.f kj5 a1 0).bind fun bt161 => (if bt161.2.2 = 0 then (if bt161.2.1 = (a1.size : Int) then (if t149.toList = t151.toList then (if t150 = t152 then (if bt153.1.toList = bt156.1.toList then (if bt153.2.1 = bt156.2.1 then (if bt153.2.2 = bt156.2.2 then (if bt159.1.toList = bt161.1.toList then (some (bt159.2 == bt161.2.2)) else (some false)) else (some false)) else (some false)) else (some false)) else (some false)) else (some false)) else (if t149.toList = t151.toList then (if t150 = t152 then (if bt153.1.toList = bt156.1.toList then (if bt153.2.1 = bt156.2.1 then (if bt153.2.2 = bt156.2.2 then (if bt159.1.toList = ([] : List UInt8) then (some (bt159.2 == 8)) else (some false)) else (some false)) else (some false)) else (some false)) else (some false)) else (some false))) else (if t149.toList = t151.toList then (if t150 = t152 then (if bt153.1.toList = bt156.1.toList then (if bt153.2.1 = bt156.2.1 then (if bt153.2.2 = bt156.2.2 then (if bt159.1.toList = bt161.1.toList then (some (bt159.2 == bt161.2.2)) else (some false)) else (some false)) else (some false)) else (some false)) else (some false)) else (some false))))))) = some r := H
          have A11 := Aside0.mk A110
          clear A110
          replace H := Option.bind_eq_some_iff.mp H
          obtain ⟨⟨t153, t154, t155⟩, A120, H⟩ := H
          replace H : ((meterref03_Next.f kj5 a1 a2).bind fun bt156 => ((frame_Whole.f kj5 a1).bind fun bt159 => ((meterref03_Next.f kj5 a1 0).bind fun bt161 => (if bt161.2.2 = 0 then (if bt161.2.1 = (a1.size : Int) then (if t149.toList = t151.toList then (if t150 = t152 then (if t153.toList = bt156.1.toList then (if t154 = bt156.2.1 then (if t155 = bt156.2.2 then (if bt159.1.toList = bt161.1.toList then (some (bt159.2 == bt161.2.2)) else (some false)) else (some false)) else (some false)) else (some false)) else (some false)) else (some false)) else (if t149.toList = t151.toList then (if t150 = t152 then (if t153.toList = bt156.1.toList then (if t154 = bt156.2.1 then (if t155 = bt156.2.2 then (if bt159.1.toList = ([] : List UInt8) then (some (bt159.2 == 8)) else (some false)) else (some false)) else (some false)) else (some false)) else (some false)) else (some false))) else (if t149.toList = t151.toList then (if t150 = t152 then (if t153.toList = bt156.1.toList then (if t154 = bt156.2.1 then (if t155 = bt156.2.2 then (if bt159.1.toList = bt161.1.toList then (some (bt159.2 == bt161.2.2)) else (some false)) else (some false)) else (some false)) else (some false)) else (some false)) else (some false)))))) = some r := H
          have A12 := Aside0.mk A120
          clear A120
          replace H := Option.bind_eq_some_iff.mp H
          obtain ⟨⟨t156, t157, t158⟩, A130, H⟩ := H
          replace H : ((frame_Whole.f kj5 a1).bind fun bt159 => ((meterref03_Next.f kj5 a1 0).bind fun bt161 => (if bt161.2.2 = 0 then (if bt161.2.1 = (a1.size : Int) then (if t149.toList = t151.toList then (if t150 = t152 then (if t153.toList = t156.toList then (if t154 = t157 then (if t155 = t158 then (if bt159.1.toList = bt161.1.toList then (some (bt159.2 == bt161.2.2)) else (some false)) else (some false)) else (some false)) else (some false)) else (some false)) else (some false)) else (if t149.toList = t151.toList then (if t150 = t152 then (if t153.toList = t156.toList then (if t154 = t157 then (if t155 = t158 then (if bt159.1.toList = ([] : List UInt8) then (some (bt159.2 == 8)) else (some false)) else (some false)) else (some false)) else (some false)) else (some false)) else (some false))) else (if t149.toList = t151.toList then (if t150 = t152 then (if t153.toList = t156.toList then (if t154 = t157 then (if t155 = t158 then (if bt159.1.toList = bt161.1.toList then (some (bt159.2 == bt161.2.2)) else (some false)) else (some false)) else (some false)) else (some false)) else (some false)) else (some false))))) = some r := H
          have A13 := Aside0.mk A130
          clear A130
          replace H := Option.bind_eq_some_iff.mp H
          obtain ⟨⟨t159, t160⟩, A140, H⟩ := H
          replace H : ((meterref03_Next.f kj5 a1 0).bind fun bt161 => (if bt161.2.2 = 0 then (if bt161.2.1 = (a1.size : Int) then (if t149.toList = t151.toList then (if t150 = t152 then (if t153.toList = t156.toList then (if t154 = t157 then (if t155 = t158 then (if t159.toList = bt161.1.toList then (some (t160 == bt161.2.2)) else (some false)) else (some false)) else (some false)) else (some false)) else (some false)) else (some false)) else (if t149.toList = t151.toList then (if t150 = t152 then (if t153.toList = t156.toList then (if t154 = t157 then (if t155 = t158 then (if t159.toList = ([] : List UInt8) then (some (t160 == 8)) else (some false)) else (some false)) else (some false)) else (some false)) else (some false)) else (some false))) else (if t149.toList = t151.toList then (if t150 = t152 then (if t153.toList = t156.toList then (if t154 = t157 then (if t155 = t158 then (if t159.toList = bt161.1.toList then (some (t160 == bt161.2.2)) else (some false)) else (some false)) else (some false)) else (some false)) else (some false)) else (some false)))) = some r := H
          have A14 := Aside0.mk A140
          clear A140
          replace H := Option.bind_eq_some_iff.mp H
          obtain ⟨⟨t161, t162, t163⟩, A150, H⟩ := H
          replace H : (if t163 = 0 then (if t162 = (a1.size : Int) then (if t149.toList = t151.toList then (if t150 = t152 then (if t153.toList = t156.toList then (if t154 = t157 then (if t155 = t158 then (if t159.toList = t161.toList then (some (t160 == t163)) else (some false)) else (some false)) else (some false)) else (some false)) else (some false)) else (some false)) else (if t149.toList = t151.toList then (if t150 = t152 then (if t153.toList = t156.toList then (if t154 = t157 then (if t155 = t158 then (if t159.toList = ([] : List UInt8) then (some (t160 == 8)) else (some false)) else (some false)) else (some false)) else (some false)) else (some false)) else (some false))) else (if t149.toList = t151.toList then (if t150 = t152 then (if t153.toList = t156.toList then (if t154 = t157 then (if t155 = t158 then (if t159.toList = t161.toList then (some (t160 == t163)) else (some false)) else (some false)) else (some false)) else (some false)) else (some false)) else (some false))) = some r := H
          have A15 := Aside0.mk A150
          clear A150
          by_cases c16 : t163 = 0
          · rw [if_pos c16] at H
            have c16b0 : (t163 == 0) = true := beq_iff_eq.mpr c16
            have c16b1 : (t163 != 0) = false := bne_eq_false_iff_eq.mpr c16
            clear c16
            by_cases c17 : t162 = (a1.size : Int)
            · rw [if_pos c17] at H
              have c17b0 : (t162 == (a1.size : Int)) = true := beq_iff_eq.mpr c17
              have c17b1 : (t162 != (a1.size : Int)) = false := bne_eq_false_iff_eq.mpr c17
              clear c17
              by_cases c18 : t149.toList = t151.toList
              · rw [if_pos c18] at H
                have c18b0 : (t149.toList == t151.toList) = true := beq_iff_eq.mpr c18
                have c18b1 : (t149.toList != t151.toList) = false := bne_eq_false_iff_eq.mpr c18
                clear c18
                by_cases c19 : t150 = t152
                · rw [if_pos c19] at H
                  have c19b0 : (t150 == t152) = true := beq_iff_eq.mpr c19
                  have c19b1 : (t150 != t152) = false := bne_eq_false_iff_eq.mpr c19
                  clear c19
                  by_cases c20 : t153.toList = t156.toList
                  · rw [if_pos c20] at H
                    have c20b0 : (t153.toList == t156.toList) = true := beq_iff_eq.mpr c20
                    have c20b1 : (t153.toList != t156.toList) = false := bne_eq_false_iff_eq.mpr c20
                    clear c20
                    by_cases c21 : t154 = t157
                    · rw [if_pos c21] at H
                      have c21b0 : (t154 == t157) = true := beq_iff_eq.mpr c21
                      have c21b1 : (t154 != t157) = false := bne_eq_false_iff_eq.mpr c21
                      clear c21
                      by_cases c22 : t155 = t158
                      · rw [if_pos c22] at H
                        have c22b0 : (t155 == t158) = true := beq_iff_eq.mpr c22
                        have c22b1 : (t155 != t158) = false := bne_eq_false_iff_eq.mpr c22
                        clear c22
                        by_cases c23 : t159.toList = t161.toList
                        · rw [if_pos c23] at H
                          have c23b0 : (t159.toList == t161.toList) = true := beq_iff_eq.mpr c23
                          have c23b1 : (t159.toList != t161.toList) = false := bne_eq_false_iff_eq.mpr c23
                          clear c23
                          obtain rfl := Option.some.inj H
                          go_wp2_with (first | ((with_reducible refine gate_callee (f := 9) rfl ?_); refine goesL_ (some 34) rfl rfl Try.func9 (by kernel_rfl) rfl #[.string a0] rfl (by (try simp only [List.map_toArray, List.map_cons, List.map_nil]); first | done | rfl | (simp only [List.length_drop, List.length_take]; rfl)) ?_; (with_reducible refine (frame_Put.calls kj5 a0 t149 t150 _ A10.out).mono ?_); rintro e w24 ⟨rfl, hb⟩; refine ⟨_, rfl, ?_⟩; have n0_ := Aside0.mk (below_step (by repeat (first | (with_reducible first | exact HB.out | apply below_alloc | apply pw_below_drewN | apply below_drew1) | exact HB.out)) hb); clear HB; have HB := n0_; clear n0_; (try clear hb); (try clear hb2); (try clear hk); (try clear hi)) | ((with_reducible refine gate_callee (f := 14) rfl ?_); refine goesL_ (some 39) rfl rfl Try.func14 (by kernel_rfl) rfl #[.string a0] rfl (by (try simp only [List.map_toArray, List.map_cons, List.map_nil]); first | done | rfl | (simp only [List.length_drop, List.length_take]; rfl)) ?_; (with_reducible refine (meterref03_Put.calls kj5 a0 t151 t152 _ A11.out).mono ?_); rintro e w25 ⟨rfl, hb⟩; refine ⟨_, rfl, ?_⟩; have n0_ := Aside0.mk (below_step (by repeat (first | (with_reducible first | exact HB.out | apply below_alloc | apply pw_below_drewN | apply below_drew1) | exact HB.out)) hb); clear HB; have HB := n0_; clear n0_; (try clear hb); (try clear hb2); (try clear hk); (try clear hi)) | ((with_reducible refine gate_callee (f := 11) rfl ?_); refine goesL_ (some 45) rfl rfl Try.func11 (by kernel_rfl) rfl #[.string a1, .int .i64 a2] rfl (by (try simp only [List.map_toArray, List.map_cons, List.map_nil]); first | done | rfl | (simp only [List.length_drop, List.length_take]; rfl)) ?_; (with_reducible refine (frame_Next.calls kj5 a1 a2 t153 t154 t155 _ A12.out).mono ?_); rintro e w26 ⟨rfl, hb⟩; refine ⟨_, rfl, ?_⟩; have n0_ := Aside0.mk (below_step (by repeat (first | (with_reducible first | exact HB.out | apply below_alloc | apply pw_below_drewN | apply below_drew1) | exact HB.out)) hb); clear HB; have HB := n0_; clear n0_; (try clear hb); (try clear hb2); (try clear hk); (try clear hi)) | ((with_reducible refine gate_callee (f := 15) rfl ?_); refine goesL_ (some 52) rfl rfl Try.func15 (by kernel_rfl) rfl #[.string a1, .int .i64 a2] rfl (by (try simp only [List.map_toArray, List.map_cons, List.map_nil]); first | done | rfl | (simp only [List.length_drop, List.length_take]; rfl)) ?_; (with_reducible refine (meterref03_Next.calls kj5 a1 a2 t156 t157 t158 _ A13.out).mono ?_); rintro e w27 ⟨rfl, hb⟩; refine ⟨_, rfl, ?_⟩; have n0_ := Aside0.mk (below_step (by repeat (first | (with_reducible first | exact HB.out | apply below_alloc | apply pw_below_drewN | apply below_drew1) | exact HB.out)) hb); clear HB; have HB := n0_; clear n0_; (try clear hb); (try clear hb2); (try clear hk); (try clear hi)) | ((with_reducible refine gate_callee (f := 10) rfl ?_); refine goesL_ (some 58) rfl rfl Try.func10 (by kernel_rfl) rfl #[.string a1] rfl (by (try simp only [List.map_toArray, List.map_cons, List.map_nil]); first | done | rfl | (simp only [List.length_drop, List.length_take]; rfl)) ?_; (with_reducible refine (frame_Whole.calls kj5 a1 t159 t160 _ A14.out).mono ?_); rintro e w28 ⟨rfl, hb⟩; refine ⟨_, rfl, ?_⟩; have n0_ := Aside0.mk (below_step (by repeat (first | (with_reducible first | exact HB.out | apply below_alloc | apply pw_below_drewN | apply below_drew1) | exact HB.out)) hb); clear HB; have HB := n0_; clear n0_; (try clear hb); (try clear hb2); (try clear hk); (try clear hi)) | ((with_reducible refine gate_callee (f := 15) rfl ?_); refine goesL_ (some 63) rfl rfl Try.func15 (by kernel_rfl) rfl #[.string a1, .int .i64 0] rfl (by (try simp only [List.map_toArray, List.map_cons, List.map_nil]); first | done | rfl | (simp only [List.length_drop, List.length_take]; rfl)) ?_; (with_reducible refine (meterref03_Next.calls kj5 a1 0 t161 t162 t163 _ A15.out).mono ?_); rintro e w29 ⟨rfl, hb⟩; refine ⟨_, rfl, ?_⟩; have n0_ := Aside0.mk (below_step (by repeat (first | (with_reducible first | exact HB.out | apply below_alloc | apply pw_below_drewN | apply below_drew1) | exact HB.out)) hb); clear HB; have HB := n0_; clear n0_; (try clear hb); (try clear hb2); (try clear hk); (try clear hi)))
                          go_ret
                          exact ⟨by first | rfl | (simp [errW_none, errW_some] <;> rfl) | (simp [*, errW_none, errW_some] <;> rfl), by repeat (first | (with_reducible first | exact HB.out | apply below_alloc | apply pw_below_drewN | apply below_drew1) | exact HB.out)⟩
                        · rw [if_neg c23] at H
                          have c23b0 : (t159.toList == t161.toList) = false := beq_eq_false_iff_ne.mpr c23
                          have c23b1 : (t159.toList != t161.toList) = true := bne_iff_ne.mpr c23
                          exact absurd (H.trans (congrArg some HRT.out)) (by simp)
                      · rw [if_neg c22] at H
                        have c22b0 : (t155 == t158) = false := beq_eq_false_iff_ne.mpr c22
                        have c22b1 : (t155 != t158) = true := bne_iff_ne.mpr c22
                        exact absurd (H.trans (congrArg some HRT.out)) (by simp)
                    · rw [if_neg c21] at H
                      have c21b0 : (t154 == t157) = false := beq_eq_false_iff_ne.mpr c21
                      have c21b1 : (t154 != t157) = true := bne_iff_ne.mpr c21
                      exact absurd (H.trans (congrArg some HRT.out)) (by simp)
                  · rw [if_neg c20] at H
                    have c20b0 : (t153.toList == t156.toList) = false := beq_eq_false_iff_ne.mpr c20
                    have c20b1 : (t153.toList != t156.toList) = true := bne_iff_ne.mpr c20
                    exact absurd (H.trans (congrArg some HRT.out)) (by simp)
                · rw [if_neg c19] at H
                  have c19b0 : (t150 == t152) = false := beq_eq_false_iff_ne.mpr c19
                  have c19b1 : (t150 != t152) = true := bne_iff_ne.mpr c19
                  exact absurd (H.trans (congrArg some HRT.out)) (by simp)
              · rw [if_neg c18] at H
                have c18b0 : (t149.toList == t151.toList) = false := beq_eq_false_iff_ne.mpr c18
                have c18b1 : (t149.toList != t151.toList) = true := bne_iff_ne.mpr c18
                exact absurd (H.trans (congrArg some HRT.out)) (by simp)
            · rw [if_neg c17] at H
              have c17b0 : (t162 == (a1.size : Int)) = false := beq_eq_false_iff_ne.mpr c17
              have c17b1 : (t162 != (a1.size : Int)) = true := bne_iff_ne.mpr c17
              by_cases c30 : t149.toList = t151.toList
              · rw [if_pos c30] at H
                have c30b0 : (t149.toList == t151.toList) = true := beq_iff_eq.mpr c30
                have c30b1 : (t149.toList != t151.toList) = false := bne_eq_false_iff_eq.mpr c30
                clear c30
                by_cases c31 : t150 = t152
                · rw [if_pos c31] at H
                  have c31b0 : (t150 == t152) = true := beq_iff_eq.mpr c31
                  have c31b1 : (t150 != t152) = false := bne_eq_false_iff_eq.mpr c31
                  clear c31
                  by_cases c32 : t153.toList = t156.toList
                  · rw [if_pos c32] at H
                    have c32b0 : (t153.toList == t156.toList) = true := beq_iff_eq.mpr c32
                    have c32b1 : (t153.toList != t156.toList) = false := bne_eq_false_iff_eq.mpr c32
                    clear c32
                    by_cases c33 : t154 = t157
                    · rw [if_pos c33] at H
                      have c33b0 : (t154 == t157) = true := beq_iff_eq.mpr c33
                      have c33b1 : (t154 != t157) = false := bne_eq_false_iff_eq.mpr c33
                      clear c33
                      by_cases c34 : t155 = t158
                      · rw [if_pos c34] at H
                        have c34b0 : (t155 == t158) = true := beq_iff_eq.mpr c34
                        have c34b1 : (t155 != t158) = false := bne_eq_false_iff_eq.mpr c34
                        clear c34
                        by_cases c35 : t159.toList = ([] : List UInt8)
                        · rw [if_pos c35] at H
                          have c35b0 : (t159.toList == ([] : List UInt8)) = true := beq_iff_eq.mpr c35
                          have c35b1 : (t159.toList != ([] : List UInt8)) = false := bne_eq_false_iff_eq.mpr c35
                          clear c35
                          obtain rfl := Option.some.inj H
                          go_wp2_with (first | ((with_reducible refine gate_callee (f := 9) rfl ?_); refine goesL_ (some 34) rfl rfl Try.func9 (by kernel_rfl) rfl #[.string a0] rfl (by (try simp only [List.map_toArray, List.map_cons, List.map_nil]); first | done | rfl | (simp only [List.length_drop, List.length_take]; rfl)) ?_; (with_reducible refine (frame_Put.calls kj5 a0 t149 t150 _ A10.out).mono ?_); rintro e w36 ⟨rfl, hb⟩; refine ⟨_, rfl, ?_⟩; have n0_ := Aside0.mk (below_step (by repeat (first | (with_reducible first | exact HB.out | apply below_alloc | apply pw_below_drewN | apply below_drew1) | exact HB.out)) hb); clear HB; have HB := n0_; clear n0_; (try clear hb); (try clear hb2); (try clear hk); (try clear hi)) | ((with_reducible refine gate_callee (f := 14) rfl ?_); refine goesL_ (some 39) rfl rfl Try.func14 (by kernel_rfl) rfl #[.string a0] rfl (by (try simp only [List.map_toArray, List.map_cons, List.map_nil]); first | done | rfl | (simp only [List.length_drop, List.length_take]; rfl)) ?_; (with_reducible refine (meterref03_Put.calls kj5 a0 t151 t152 _ A11.out).mono ?_); rintro e w37 ⟨rfl, hb⟩; refine ⟨_, rfl, ?_⟩; have n0_ := Aside0.mk (below_step (by repeat (first | (with_reducible first | exact HB.out | apply below_alloc | apply pw_below_drewN | apply below_drew1) | exact HB.out)) hb); clear HB; have HB := n0_; clear n0_; (try clear hb); (try clear hb2); (try clear hk); (try clear hi)) | ((with_reducible refine gate_callee (f := 11) rfl ?_); refine goesL_ (some 45) rfl rfl Try.func11 (by kernel_rfl) rfl #[.string a1, .int .i64 a2] rfl (by (try simp only [List.map_toArray, List.map_cons, List.map_nil]); first | done | rfl | (simp only [List.length_drop, List.length_take]; rfl)) ?_; (with_reducible refine (frame_Next.calls kj5 a1 a2 t153 t154 t155 _ A12.out).mono ?_); rintro e w38 ⟨rfl, hb⟩; refine ⟨_, rfl, ?_⟩; have n0_ := Aside0.mk (below_step (by repeat (first | (with_reducible first | exact HB.out | apply below_alloc | apply pw_below_drewN | apply below_drew1) | exact HB.out)) hb); clear HB; have HB := n0_; clear n0_; (try clear hb); (try clear hb2); (try clear hk); (try clear hi)) | ((with_reducible refine gate_callee (f := 15) rfl ?_); refine goesL_ (some 52) rfl rfl Try.func15 (by kernel_rfl) rfl #[.string a1, .int .i64 a2] rfl (by (try simp only [List.map_toArray, List.map_cons, List.map_nil]); first | done | rfl | (simp only [List.length_drop, List.length_take]; rfl)) ?_; (with_reducible refine (meterref03_Next.calls kj5 a1 a2 t156 t157 t158 _ A13.out).mono ?_); rintro e w39 ⟨rfl, hb⟩; refine ⟨_, rfl, ?_⟩; have n0_ := Aside0.mk (below_step (by repeat (first | (with_reducible first | exact HB.out | apply below_alloc | apply pw_below_drewN | apply below_drew1) | exact HB.out)) hb); clear HB; have HB := n0_; clear n0_; (try clear hb); (try clear hb2); (try clear hk); (try clear hi)) | ((with_reducible refine gate_callee (f := 10) rfl ?_); refine goesL_ (some 58) rfl rfl Try.func10 (by kernel_rfl) rfl #[.string a1] rfl (by (try simp only [List.map_toArray, List.map_cons, List.map_nil]); first | done | rfl | (simp only [List.length_drop, List.length_take]; rfl)) ?_; (with_reducible refine (frame_Whole.calls kj5 a1 t159 t160 _ A14.out).mono ?_); rintro e w40 ⟨rfl, hb⟩; refine ⟨_, rfl, ?_⟩; have n0_ := Aside0.mk (below_step (by repeat (first | (with_reducible first | exact HB.out | apply below_alloc | apply pw_below_drewN | apply below_drew1) | exact HB.out)) hb); clear HB; have HB := n0_; clear n0_; (try clear hb); (try clear hb2); (try clear hk); (try clear hi)) | ((with_reducible refine gate_callee (f := 15) rfl ?_); refine goesL_ (some 63) rfl rfl Try.func15 (by kernel_rfl) rfl #[.string a1, .int .i64 0] rfl (by (try simp only [List.map_toArray, List.map_cons, List.map_nil]); first | done | rfl | (simp only [List.length_drop, List.length_take]; rfl)) ?_; (with_reducible refine (meterref03_Next.calls kj5 a1 0 t161 t162 t163 _ A15.out).mono ?_); rintro e w41 ⟨rfl, hb⟩; refine ⟨_, rfl, ?_⟩; have n0_ := Aside0.mk (below_step (by repeat (first | (with_reducible first | exact HB.out | apply below_alloc | apply pw_below_drewN | apply below_drew1) | exact HB.out)) hb); clear HB; have HB := n0_; clear n0_; (try clear hb); (try clear hb2); (try clear hk); (try clear hi)))
                          go_ret
                          exact ⟨by first | rfl | (simp [errW_none, errW_some] <;> rfl) | (simp [*, errW_none, errW_some] <;> rfl), by repeat (first | (with_reducible first | exact HB.out | apply below_alloc | apply pw_below_drewN | apply below_drew1) | exact HB.out)⟩
                        · rw [if_neg c35] at H
                          have c35b0 : (t159.toList == ([] : List UInt8)) = false := beq_eq_false_iff_ne.mpr c35
                          have c35b1 : (t159.toList != ([] : List UInt8)) = true := bne_iff_ne.mpr c35
                          exact absurd (H.trans (congrArg some HRT.out)) (by simp)
                      · rw [if_neg c34] at H
                        have c34b0 : (t155 == t158) = false := beq_eq_false_iff_ne.mpr c34
                        have c34b1 : (t155 != t158) = true := bne_iff_ne.mpr c34
                        exact absurd (H.trans (congrArg some HRT.out)) (by simp)
                    · rw [if_neg c33] at H
                      have c33b0 : (t154 == t157) = false := beq_eq_false_iff_ne.mpr c33
                      have c33b1 : (t154 != t157) = true := bne_iff_ne.mpr c33
                      exact absurd (H.trans (congrArg some HRT.out)) (by simp)
                  · rw [if_neg c32] at H
                    have c32b0 : (t153.toList == t156.toList) = false := beq_eq_false_iff_ne.mpr c32
                    have c32b1 : (t153.toList != t156.toList) = true := bne_iff_ne.mpr c32
                    exact absurd (H.trans (congrArg some HRT.out)) (by simp)
                · rw [if_neg c31] at H
                  have c31b0 : (t150 == t152) = false := beq_eq_false_iff_ne.mpr c31
                  have c31b1 : (t150 != t152) = true := bne_iff_ne.mpr c31
                  exact absurd (H.trans (congrArg some HRT.out)) (by simp)
              · rw [if_neg c30] at H
                have c30b0 : (t149.toList == t151.toList) = false := beq_eq_false_iff_ne.mpr c30
                have c30b1 : (t149.toList != t151.toList) = true := bne_iff_ne.mpr c30
                exact absurd (H.trans (congrArg some HRT.out)) (by simp)
          · rw [if_neg c16] at H
            have c16b0 : (t163 == 0) = false := beq_eq_false_iff_ne.mpr c16
            have c16b1 : (t163 != 0) = true := bne_iff_ne.mpr c16
            by_cases c42 : t149.toList = t151.toList
            · rw [if_pos c42] at H
              have c42b0 : (t149.toList == t151.toList) = true := beq_iff_eq.mpr c42
              have c42b1 : (t149.toList != t151.toList) = false := bne_eq_false_iff_eq.mpr c42
              clear c42
              by_cases c43 : t150 = t152
              · rw [if_pos c43] at H
                have c43b0 : (t150 == t152) = true := beq_iff_eq.mpr c43
                have c43b1 : (t150 != t152) = false := bne_eq_false_iff_eq.mpr c43
                clear c43
                by_cases c44 : t153.toList = t156.toList
                · rw [if_pos c44] at H
                  have c44b0 : (t153.toList == t156.toList) = true := beq_iff_eq.mpr c44
                  have c44b1 : (t153.toList != t156.toList) = false := bne_eq_false_iff_eq.mpr c44
                  clear c44
                  by_cases c45 : t154 = t157
                  · rw [if_pos c45] at H
                    have c45b0 : (t154 == t157) = true := beq_iff_eq.mpr c45
                    have c45b1 : (t154 != t157) = false := bne_eq_false_iff_eq.mpr c45
                    clear c45
                    by_cases c46 : t155 = t158
                    · rw [if_pos c46] at H
                      have c46b0 : (t155 == t158) = true := beq_iff_eq.mpr c46
                      have c46b1 : (t155 != t158) = false := bne_eq_false_iff_eq.mpr c46
                      clear c46
                      by_cases c47 : t159.toList = t161.toList
                      · rw [if_pos c47] at H
                        have c47b0 : (t159.toList == t161.toList) = true := beq_iff_eq.mpr c47
                        have c47b1 : (t159.toList != t161.toList) = false := bne_eq_false_iff_eq.mpr c47
                        clear c47
                        obtain rfl := Option.some.inj H
                        go_wp2_with (first | ((with_reducible refine gate_callee (f := 9) rfl ?_); refine goesL_ (some 34) rfl rfl Try.func9 (by kernel_rfl) rfl #[.string a0] rfl (by (try simp only [List.map_toArray, List.map_cons, List.map_nil]); first | done | rfl | (simp only [List.length_drop, List.length_take]; rfl)) ?_; (with_reducible refine (frame_Put.calls kj5 a0 t149 t150 _ A10.out).mono ?_); rintro e w48 ⟨rfl, hb⟩; refine ⟨_, rfl, ?_⟩; have n0_ := Aside0.mk (below_step (by repeat (first | (with_reducible first | exact HB.out | apply below_alloc | apply pw_below_drewN | apply below_drew1) | exact HB.out)) hb); clear HB; have HB := n0_; clear n0_; (try clear hb); (try clear hb2); (try clear hk); (try clear hi)) | ((with_reducible refine gate_callee (f := 14) rfl ?_); refine goesL_ (some 39) rfl rfl Try.func14 (by kernel_rfl) rfl #[.string a0] rfl (by (try simp only [List.map_toArray, List.map_cons, List.map_nil]); first | done | rfl | (simp only [List.length_drop, List.length_take]; rfl)) ?_; (with_reducible refine (meterref03_Put.calls kj5 a0 t151 t152 _ A11.out).mono ?_); rintro e w49 ⟨rfl, hb⟩; refine ⟨_, rfl, ?_⟩; have n0_ := Aside0.mk (below_step (by repeat (first | (with_reducible first | exact HB.out | apply below_alloc | apply pw_below_drewN | apply below_drew1) | exact HB.out)) hb); clear HB; have HB := n0_; clear n0_; (try clear hb); (try clear hb2); (try clear hk); (try clear hi)) | ((with_reducible refine gate_callee (f := 11) rfl ?_); refine goesL_ (some 45) rfl rfl Try.func11 (by kernel_rfl) rfl #[.string a1, .int .i64 a2] rfl (by (try simp only [List.map_toArray, List.map_cons, List.map_nil]); first | done | rfl | (simp only [List.length_drop, List.length_take]; rfl)) ?_; (with_reducible refine (frame_Next.calls kj5 a1 a2 t153 t154 t155 _ A12.out).mono ?_); rintro e w50 ⟨rfl, hb⟩; refine ⟨_, rfl, ?_⟩; have n0_ := Aside0.mk (below_step (by repeat (first | (with_reducible first | exact HB.out | apply below_alloc | apply pw_below_drewN | apply below_drew1) | exact HB.out)) hb); clear HB; have HB := n0_; clear n0_; (try clear hb); (try clear hb2); (try clear hk); (try clear hi)) | ((with_reducible refine gate_callee (f := 15) rfl ?_); refine goesL_ (some 52) rfl rfl Try.func15 (by kernel_rfl) rfl #[.string a1, .int .i64 a2] rfl (by (try simp only [List.map_toArray, List.map_cons, List.map_nil]); first | done | rfl | (simp only [List.length_drop, List.length_take]; rfl)) ?_; (with_reducible refine (meterref03_Next.calls kj5 a1 a2 t156 t157 t158 _ A13.out).mono ?_); rintro e w51 ⟨rfl, hb⟩; refine ⟨_, rfl, ?_⟩; have n0_ := Aside0.mk (below_step (by repeat (first | (with_reducible first | exact HB.out | apply below_alloc | apply pw_below_drewN | apply below_drew1) | exact HB.out)) hb); clear HB; have HB := n0_; clear n0_; (try clear hb); (try clear hb2); (try clear hk); (try clear hi)) | ((with_reducible refine gate_callee (f := 10) rfl ?_); refine goesL_ (some 58) rfl rfl Try.func10 (by kernel_rfl) rfl #[.string a1] rfl (by (try simp only [List.map_toArray, List.map_cons, List.map_nil]); first | done | rfl | (simp only [List.length_drop, List.length_take]; rfl)) ?_; (with_reducible refine (frame_Whole.calls kj5 a1 t159 t160 _ A14.out).mono ?_); rintro e w52 ⟨rfl, hb⟩; refine ⟨_, rfl, ?_⟩; have n0_ := Aside0.mk (below_step (by repeat (first | (with_reducible first | exact HB.out | apply below_alloc | apply pw_below_drewN | apply below_drew1) | exact HB.out)) hb); clear HB; have HB := n0_; clear n0_; (try clear hb); (try clear hb2); (try clear hk); (try clear hi)) | ((with_reducible refine gate_callee (f := 15) rfl ?_); refine goesL_ (some 63) rfl rfl Try.func15 (by kernel_rfl) rfl #[.string a1, .int .i64 0] rfl (by (try simp only [List.map_toArray, List.map_cons, List.map_nil]); first | done | rfl | (simp only [List.length_drop, List.length_take]; rfl)) ?_; (with_reducible refine (meterref03_Next.calls kj5 a1 0 t161 t162 t163 _ A15.out).mono ?_); rintro e w53 ⟨rfl, hb⟩; refine ⟨_, rfl, ?_⟩; have n0_ := Aside0.mk (below_step (by repeat (first | (with_reducible first | exact HB.out | apply below_alloc | apply pw_below_drewN | apply below_drew1) | exact HB.out)) hb); clear HB; have HB := n0_; clear n0_; (try clear hb); (try clear hb2); (try clear hk); (try clear hi)))
                        go_ret
                        exact ⟨by first | rfl | (simp [errW_none, errW_some] <;> rfl) | (simp [*, errW_none, errW_some] <;> rfl), by repeat (first | (with_reducible first | exact HB.out | apply below_alloc | apply pw_below_drewN | apply below_drew1) | exact HB.out)⟩
                      · rw [if_neg c47] at H
                        have c47b0 : (t159.toList == t161.toList) = false := beq_eq_false_iff_ne.mpr c47
                        have c47b1 : (t159.toList != t161.toList) = true := bne_iff_ne.mpr c47
                        exact absurd (H.trans (congrArg some HRT.out)) (by simp)
                    · rw [if_neg c46] at H
                      have c46b0 : (t155 == t158) = false := beq_eq_false_iff_ne.mpr c46
                      have c46b1 : (t155 != t158) = true := bne_iff_ne.mpr c46
                      exact absurd (H.trans (congrArg some HRT.out)) (by simp)
                  · rw [if_neg c45] at H
                    have c45b0 : (t154 == t157) = false := beq_eq_false_iff_ne.mpr c45
                    have c45b1 : (t154 != t157) = true := bne_iff_ne.mpr c45
                    exact absurd (H.trans (congrArg some HRT.out)) (by simp)
                · rw [if_neg c44] at H
                  have c44b0 : (t153.toList == t156.toList) = false := beq_eq_false_iff_ne.mpr c44
                  have c44b1 : (t153.toList != t156.toList) = true := bne_iff_ne.mpr c44
                  exact absurd (H.trans (congrArg some HRT.out)) (by simp)
              · rw [if_neg c43] at H
                have c43b0 : (t150 == t152) = false := beq_eq_false_iff_ne.mpr c43
                have c43b1 : (t150 != t152) = true := bne_iff_ne.mpr c43
                exact absurd (H.trans (congrArg some HRT.out)) (by simp)
            · rw [if_neg c42] at H
              have c42b0 : (t149.toList == t151.toList) = false := beq_eq_false_iff_ne.mpr c42
              have c42b1 : (t149.toList != t151.toList) = true := bne_iff_ne.mpr c42
              exact absurd (H.trans (congrArg some HRT.out)) (by simp)
  · replace c5 := Bool.eq_false_iff.mpr c5
    subst c5
    have H1 : (some false) = some r := by rw [if_neg (show ¬ (false = true) by decide)] at H; exact H
    clear H
    have H := H1
    clear H1
    exact absurd (H.trans (congrArg some HRT.out)) (by simp)

/-- THE ONE PURE STATEMENT of meterlaw03_FrameReads: yours. -/
def meterlaw03_FrameReads.Pure : Prop := ∀ (a0 : ByteArray) (a1 : ByteArray) (a2 : Int), a0.size ≤ 140737488351232 → a1.size ≤ 140737488351232 → (Lit.int .i64 a2).wf = true → ∃ k, meterlaw03_FrameReads.f k a0 a1 a2 = some true
theorem meterlaw03_FrameReads.walk (P : meterlaw03_FrameReads.Pure) (a0 : ByteArray) (a1 : ByteArray) (a2 : Int) (w : World) (w0 : a0.size ≤ 140737488351232) (w1 : a1.size ≤ 140737488351232) (w2 : (Lit.int .i64 a2).wf = true) :
    Calls Try.prog 4 #[.string a0, .string a1, .int .i64 a2] w fun e w' => e = .returned (.bool true) ∧ Below w.heap.size w w' := by
  obtain ⟨k, h⟩ := P a0 a1 a2 w0 w1 w2
  refine (meterlaw03_FrameReads.calls k a0 a1 a2 true w h rfl).mono ?_
  rintro e w' ⟨rfl, hd⟩
  exact ⟨rfl, hd⟩

end Go.Proofs.Ytpfipeopacjkjaa.PFrameReads
