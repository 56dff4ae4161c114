-- Written by a program of this session's (wip/gprint.py): the kit's print, with functions given by hand.
import Derived.Test.YtpfipeopacjkjaaPFrameBackx0
import Derived.Test.YtpfipeopacjkjaaPFrameBackx1
import Derived.Test.YtpfipeopacjkjaaPFrameBackx2
namespace Go.Proofs.Ytpfipeopacjkjaa.PFrameBack
open Go.RowKit Go.Proofs.YtpfipeopacjkjaaW.PrintWords Go.Proofs.YtpfipeopacjkjaaW.PrintLast Go.Proofs.YtpfipeopacjkjaaW.PrintMore
attribute [local go_sem] max2_int min2_int max_two min_two max_three min_three max_four min_four   -- for this text's walks alone
set_option linter.unusedVariables false
set_option linter.unusedSimpArgs false

/-! ### frame_Whole: function 10 -/
def frame_Whole.f (k : Nat) (a0 : ByteArray) : Option (ByteArray × Int) := (frame_Next.f k a0 0).bind fun bt128 => (if bt128.2.2 = 0 then (if bt128.2.1 = (a0.size : Int) then (some (bt128.1, bt128.2.2)) else (some ((⟨#[]⟩ : ByteArray), 8))) else (some (bt128.1, bt128.2.2)))
theorem frame_Whole.mono : ∀ a0 k, LeO (frame_Whole.f k a0) (frame_Whole.f (k + 1) a0) := by
  intro a0 k
  unfold frame_Whole.f
  repeat' first
      | (with_reducible exact frame_Next.mono _ _ _)
      | (with_reducible exact LeO.refl _)
      | (with_reducible exact LeO.none _)
      | (with_reducible refine LeO.ite ?_ ?_)
      | (with_reducible refine LeO.bind ?_ (fun _ => ?_))
      | exact frame_Next.mono _ _ _
      | exact LeO.none _
      | refine LeO.ite ?_ ?_
      | refine LeO.bind ?_ (fun _ => ?_)
set_option maxHeartbeats 8000000 in
set_option maxRecDepth 100000 in
theorem frame_Whole.calls (k : Nat) (a0 : ByteArray) (r1 : ByteArray) (r2 : Int) (w : World) (h : frame_Whole.f k a0 = some (r1, r2)) :
    Calls Try.prog 10 #[.string a0] w fun e w' => e = .returned (.tuple #[.string r1, .int .i64 r2]) ∧ Below w.heap.size w w' := by
  have HB := Aside0.mk (Below.refl w.heap.size w)
  have H : ((frame_Next.f k a0 0).bind fun bt128 => (if bt128.2.2 = 0 then (if bt128.2.1 = (a0.size : Int) then (some (bt128.1, bt128.2.2)) else (some ((⟨#[]⟩ : ByteArray), 8))) else (some (bt128.1, bt128.2.2)))) = some (r1, r2) := h
  clear h
  replace H := Option.bind_eq_some_iff.mp H
  obtain ⟨⟨t128, t129, t130⟩, A20, H⟩ := H
  replace H : (if t130 = 0 then (if t129 = (a0.size : Int) then (some (t128, t130)) else (some ((⟨#[]⟩ : ByteArray), 8))) else (some (t128, t130))) = some (r1, r2) := H
  have A2 := Aside0.mk A20
  clear A20
  by_cases c3 : t130 = 0
  · rw [if_pos c3] at H
    have c3b0 : (t130 == 0) = true := beq_iff_eq.mpr c3
    have c3b1 : (t130 != 0) = false := bne_eq_false_iff_eq.mpr c3
    clear c3
    by_cases c4 : t129 = (a0.size : Int)
    · rw [if_pos c4] at H
      have c4b0 : (t129 == (a0.size : Int)) = true := beq_iff_eq.mpr c4
      have c4b1 : (t129 != (a0.size : Int)) = false := bne_eq_false_iff_eq.mpr c4
      clear c4
      simp only [Option.some.injEq, Prod.mk.injEq] at H
      obtain ⟨rfl, rfl⟩ := H
      go_enter Try.func10, Try.ntmps10
      go_wp2_with (first | ((with_reducible refine gate_callee (f := 11) rfl ?_); refine goesL_ (some 9) rfl rfl Try.func11 (by kernel_rfl) rfl #[.string a0, .int .i64 0] rfl (by (try simp only [List.map_toArray, List.map_cons, List.map_nil]); first | done | rfl | (simp only [List.length_drop, List.length_take]; rfl)) ?_; (with_reducible refine (frame_Next.calls k a0 0 t128 t129 t130 _ A2.out).mono ?_); rintro e w5 ⟨rfl, hb⟩; refine ⟨_, rfl, ?_⟩; have n0_ := Aside0.mk (below_step (by repeat (first | (with_reducible first | exact HB.out | apply below_alloc | apply pw_below_drewN | apply below_drew1) | exact HB.out)) hb); clear HB; have HB := n0_; clear n0_; (try clear hb); (try clear hb2); (try clear hk); (try clear hi)))
      go_ret2
      exact ⟨by first | rfl | (simp [errW_none, errW_some] <;> rfl) | (simp [*, errW_none, errW_some] <;> rfl), by repeat (first | (with_reducible first | exact HB.out | apply below_alloc | apply pw_below_drewN | apply below_drew1) | exact HB.out)⟩
    · rw [if_neg c4] at H
      have c4b0 : (t129 == (a0.size : Int)) = false := beq_eq_false_iff_ne.mpr c4
      have c4b1 : (t129 != (a0.size : Int)) = true := bne_iff_ne.mpr c4
      simp only [Option.some.injEq, Prod.mk.injEq] at H
      obtain ⟨rfl, rfl⟩ := H
      go_enter Try.func10, Try.ntmps10
      go_wp2_with (first | ((with_reducible refine gate_callee (f := 11) rfl ?_); refine goesL_ (some 9) rfl rfl Try.func11 (by kernel_rfl) rfl #[.string a0, .int .i64 0] rfl (by (try simp only [List.map_toArray, List.map_cons, List.map_nil]); first | done | rfl | (simp only [List.length_drop, List.length_take]; rfl)) ?_; (with_reducible refine (frame_Next.calls k a0 0 t128 t129 t130 _ A2.out).mono ?_); rintro e w6 ⟨rfl, hb⟩; refine ⟨_, rfl, ?_⟩; have n0_ := Aside0.mk (below_step (by repeat (first | (with_reducible first | exact HB.out | apply below_alloc | apply pw_below_drewN | apply below_drew1) | exact HB.out)) hb); clear HB; have HB := n0_; clear n0_; (try clear hb); (try clear hb2); (try clear hk); (try clear hi)))
      go_ret2
      exact ⟨by first | rfl | (simp [errW_none, errW_some] <;> rfl) | (simp [*, errW_none, errW_some] <;> rfl), by repeat (first | (with_reducible first | exact HB.out | apply below_alloc | apply pw_below_drewN | apply below_drew1) | exact HB.out)⟩
  · rw [if_neg c3] at H
    have c3b0 : (t130 == 0) = false := beq_eq_false_iff_ne.mpr c3
    have c3b1 : (t130 != 0) = true := bne_iff_ne.mpr c3
    simp only [Option.some.injEq, Prod.mk.injEq] at H
    obtain ⟨rfl, rfl⟩ := H
    go_enter Try.func10, Try.ntmps10
    go_wp2_with (first | ((with_reducible refine gate_callee (f := 11) rfl ?_); refine goesL_ (some 9) rfl rfl Try.func11 (by kernel_rfl) rfl #[.string a0, .int .i64 0] rfl (by (try simp only [List.map_toArray, List.map_cons, List.map_nil]); first | done | rfl | (simp only [List.length_drop, List.length_take]; rfl)) ?_; (with_reducible refine (frame_Next.calls k a0 0 t128 t129 t130 _ A2.out).mono ?_); rintro e w7 ⟨rfl, hb⟩; refine ⟨_, rfl, ?_⟩; have n0_ := Aside0.mk (below_step (by repeat (first | (with_reducible first | exact HB.out | apply below_alloc | apply pw_below_drewN | apply below_drew1) | exact HB.out)) hb); clear HB; have HB := n0_; clear n0_; (try clear hb); (try clear hb2); (try clear hk); (try clear hi)))
    go_ret2
    exact ⟨by first | rfl | (simp [errW_none, errW_some] <;> rfl) | (simp [*, errW_none, errW_some] <;> rfl), by repeat (first | (with_reducible first | exact HB.out | apply below_alloc | apply pw_below_drewN | apply below_drew1) | exact HB.out)⟩

/-! ### meterlaw03_awake: function 13 -/
def meterlaw03_awake.f (k : Nat)  : Option (Bool) := (frame_Put.f k (⟨#[97, 98]⟩ : ByteArray)).bind fun bt131 => ((frame_Whole.f k bt131.1).bind fun bt133 => (if bt131.2 = 0 then (if bt133.2 = 0 then (if bt133.1.toList = ([97, 98] : List UInt8) then (some ((bt131.1.size : Int) == 14)) else (some false)) else (some false)) else (some false)))
theorem meterlaw03_awake.mono : ∀ k, LeO (meterlaw03_awake.f k ) (meterlaw03_awake.f (k + 1) ) := by
  intro  k
  unfold meterlaw03_awake.f
  repeat' first
      | (with_reducible exact frame_Put.mono _ _)
      | (with_reducible exact frame_Whole.mono _ _)
      | (with_reducible exact LeO.refl _)
      | (with_reducible exact LeO.none _)
      | (with_reducible refine LeO.ite ?_ ?_)
      | (with_reducible refine LeO.bind ?_ (fun _ => ?_))
      | exact frame_Put.mono _ _
      | exact frame_Whole.mono _ _
      | exact LeO.none _
      | refine LeO.ite ?_ ?_
      | refine LeO.bind ?_ (fun _ => ?_)
set_option maxHeartbeats 8000000 in
set_option maxRecDepth 100000 in
theorem meterlaw03_awake.calls (k : Nat)  (r : Bool) (w : World) (h : meterlaw03_awake.f k  = some r) :
    Calls Try.prog 13 #[] w fun e w' => e = .returned (.bool r) ∧ Below w.heap.size w w' := by
  have HB := Aside0.mk (Below.refl w.heap.size w)
  have H : ((frame_Put.f k (⟨#[97, 98]⟩ : ByteArray)).bind fun bt131 => ((frame_Whole.f k bt131.1).bind fun bt133 => (if bt131.2 = 0 then (if bt133.2 = 0 then (if bt133.1.toList = ([97, 98] : List UInt8) then (some ((bt131.1.size : Int) == 14)) else (some false)) else (some false)) else (some false)))) = some r := h
  clear h
  replace H := Option.bind_eq_some_iff.mp H
  obtain ⟨⟨t131, t132⟩, A10, H⟩ := H
  replace H : ((frame_Whole.f k t131).bind fun bt133 => (if t132 = 0 then (if bt133.2 = 0 then (if bt133.1.toList = ([97, 98] : List UInt8) then (some ((t131.size : Int) == 14)) else (some false)) else (some false)) else (some false))) = some r := H
  have A1 := Aside0.mk A10
  clear A10
  replace H := Option.bind_eq_some_iff.mp H
  obtain ⟨⟨t133, t134⟩, A20, H⟩ := H
  replace H : (if t132 = 0 then (if t134 = 0 then (if t133.toList = ([97, 98] : List UInt8) then (some ((t131.size : Int) == 14)) else (some false)) else (some false)) else (some false)) = some r := H
  have A2 := Aside0.mk A20
  clear A20
  by_cases c3 : t132 = 0
  · rw [if_pos c3] at H
    have c3b0 : (t132 == 0) = true := beq_iff_eq.mpr c3
    have c3b1 : (t132 != 0) = false := bne_eq_false_iff_eq.mpr c3
    clear c3
    by_cases c4 : t134 = 0
    · rw [if_pos c4] at H
      have c4b0 : (t134 == 0) = true := beq_iff_eq.mpr c4
      have c4b1 : (t134 != 0) = false := bne_eq_false_iff_eq.mpr c4
      clear c4
      by_cases c5 : t133.toList = ([97, 98] : List UInt8)
      · rw [if_pos c5] at H
        have c5b0 : (t133.toList == ([97, 98] : List UInt8)) = true := beq_iff_eq.mpr c5
        have c5b1 : (t133.toList != ([97, 98] : List UInt8)) = false := bne_eq_false_iff_eq.mpr c5
        clear c5
        obtain rfl := Option.some.inj H
        go_enter Try.func13, Try.ntmps13
        go_wp2_with (first | ((with_reducible refine gate_callee (f := 9) rfl ?_); refine goesL_ (some 6) rfl rfl Try.func9 (by kernel_rfl) rfl #[.string (⟨#[97, 98]⟩ : ByteArray)] rfl (by (try simp only [List.map_toArray, List.map_cons, List.map_nil]); first | done | rfl | (simp only [List.length_drop, List.length_take]; rfl)) ?_; (with_reducible refine (frame_Put.calls k (⟨#[97, 98]⟩ : ByteArray) t131 t132 _ A1.out).mono ?_); rintro e w6 ⟨rfl, hb⟩; refine ⟨_, rfl, ?_⟩; have n0_ := Aside0.mk (below_step (by repeat (first | (with_reducible first | exact HB.out | apply below_alloc | apply pw_below_drewN | apply below_drew1) | exact HB.out)) hb); clear HB; have HB := n0_; clear n0_; (try clear hb); (try clear hb2); (try clear hk); (try clear hi)) | ((with_reducible refine gate_callee (f := 10) rfl ?_); refine goesL_ (some 11) rfl rfl Try.func10 (by kernel_rfl) rfl #[.string t131] rfl (by (try simp only [List.map_toArray, List.map_cons, List.map_nil]); first | done | rfl | (simp only [List.length_drop, List.length_take]; rfl)) ?_; (with_reducible refine (frame_Whole.calls k t131 t133 t134 _ A2.out).mono ?_); rintro e w7 ⟨rfl, hb⟩; refine ⟨_, rfl, ?_⟩; have n0_ := Aside0.mk (below_step (by repeat (first | (with_reducible first | exact HB.out | apply below_alloc | apply pw_below_drewN | apply below_drew1) | exact HB.out)) hb); clear HB; have HB := n0_; clear n0_; (try clear hb); (try clear hb2); (try clear hk); (try clear hi)))
        go_ret
        exact ⟨by first | rfl | (simp [errW_none, errW_some] <;> rfl) | (simp [*, errW_none, errW_some] <;> rfl), by repeat (first | (with_reducible first | exact HB.out | apply below_alloc | apply pw_below_drewN | apply below_drew1) | exact HB.out)⟩
      · rw [if_neg c5] at H
        have c5b0 : (t133.toList == ([97, 98] : List UInt8)) = false := beq_eq_false_iff_ne.mpr c5
        have c5b1 : (t133.toList != ([97, 98] : List UInt8)) = true := bne_iff_ne.mpr c5
        obtain rfl := Option.some.inj H
        go_enter Try.func13, Try.ntmps13
        go_wp2_with (first | ((with_reducible refine gate_callee (f := 9) rfl ?_); refine goesL_ (some 6) rfl rfl Try.func9 (by kernel_rfl) rfl #[.string (⟨#[97, 98]⟩ : ByteArray)] rfl (by (try simp only [List.map_toArray, List.map_cons, List.map_nil]); first | done | rfl | (simp only [List.length_drop, List.length_take]; rfl)) ?_; (with_reducible refine (frame_Put.calls k (⟨#[97, 98]⟩ : ByteArray) t131 t132 _ A1.out).mono ?_); rintro e w8 ⟨rfl, hb⟩; refine ⟨_, rfl, ?_⟩; have n0_ := Aside0.mk (below_step (by repeat (first | (with_reducible first | exact HB.out | apply below_alloc | apply pw_below_drewN | apply below_drew1) | exact HB.out)) hb); clear HB; have HB := n0_; clear n0_; (try clear hb); (try clear hb2); (try clear hk); (try clear hi)) | ((with_reducible refine gate_callee (f := 10) rfl ?_); refine goesL_ (some 11) rfl rfl Try.func10 (by kernel_rfl) rfl #[.string t131] rfl (by (try simp only [List.map_toArray, List.map_cons, List.map_nil]); first | done | rfl | (simp only [List.length_drop, List.length_take]; rfl)) ?_; (with_reducible refine (frame_Whole.calls k t131 t133 t134 _ A2.out).mono ?_); rintro e w9 ⟨rfl, hb⟩; refine ⟨_, rfl, ?_⟩; have n0_ := Aside0.mk (below_step (by repeat (first | (with_reducible first | exact HB.out | apply below_alloc | apply pw_below_drewN | apply below_drew1) | exact HB.out)) hb); clear HB; have HB := n0_; clear n0_; (try clear hb); (try clear hb2); (try clear hk); (try clear hi)))
        go_ret
        exact ⟨by first | rfl | (simp [errW_none, errW_some] <;> rfl) | (simp [*, errW_none, errW_some] <;> rfl), by repeat (first | (with_reducible first | exact HB.out | apply below_alloc | apply pw_below_drewN | apply below_drew1) | exact HB.out)⟩
    · rw [if_neg c4] at H
      have c4b0 : (t134 == 0) = false := beq_eq_false_iff_ne.mpr c4
      have c4b1 : (t134 != 0) = true := bne_iff_ne.mpr c4
      obtain rfl := Option.some.inj H
      go_enter Try.func13, Try.ntmps13
      go_wp2_with (first | ((with_reducible refine gate_callee (f := 9) rfl ?_); refine goesL_ (some 6) rfl rfl Try.func9 (by kernel_rfl) rfl #[.string (⟨#[97, 98]⟩ : ByteArray)] rfl (by (try simp only [List.map_toArray, List.map_cons, List.map_nil]); first | done | rfl | (simp only [List.length_drop, List.length_take]; rfl)) ?_; (with_reducible refine (frame_Put.calls k (⟨#[97, 98]⟩ : ByteArray) t131 t132 _ A1.out).mono ?_); rintro e w10 ⟨rfl, hb⟩; refine ⟨_, rfl, ?_⟩; have n0_ := Aside0.mk (below_step (by repeat (first | (with_reducible first | exact HB.out | apply below_alloc | apply pw_below_drewN | apply below_drew1) | exact HB.out)) hb); clear HB; have HB := n0_; clear n0_; (try clear hb); (try clear hb2); (try clear hk); (try clear hi)) | ((with_reducible refine gate_callee (f := 10) rfl ?_); refine goesL_ (some 11) rfl rfl Try.func10 (by kernel_rfl) rfl #[.string t131] rfl (by (try simp only [List.map_toArray, List.map_cons, List.map_nil]); first | done | rfl | (simp only [List.length_drop, List.length_take]; rfl)) ?_; (with_reducible refine (frame_Whole.calls k t131 t133 t134 _ A2.out).mono ?_); rintro e w11 ⟨rfl, hb⟩; refine ⟨_, rfl, ?_⟩; have n0_ := Aside0.mk (below_step (by repeat (first | (with_reducible first | exact HB.out | apply below_alloc | apply pw_below_drewN | apply below_drew1) | exact HB.out)) hb); clear HB; have HB := n0_; clear n0_; (try clear hb); (try clear hb2); (try clear hk); (try clear hi)))
      go_ret
      exact ⟨by first | rfl | (simp [errW_none, errW_some] <;> rfl) | (simp [*, errW_none, errW_some] <;> rfl), by repeat (first | (with_reducible first | exact HB.out | apply below_alloc | apply pw_below_drewN | apply below_drew1) | exact HB.out)⟩
  · rw [if_neg c3] at H
    have c3b0 : (t132 == 0) = false := beq_eq_false_iff_ne.mpr c3
    have c3b1 : (t132 != 0) = true := bne_iff_ne.mpr c3
    obtain rfl := Option.some.inj H
    go_enter Try.func13, Try.ntmps13
    go_wp2_with (first | ((with_reducible refine gate_callee (f := 9) rfl ?_); refine goesL_ (some 6) rfl rfl Try.func9 (by kernel_rfl) rfl #[.string (⟨#[97, 98]⟩ : ByteArray)] rfl (by (try simp only [List.map_toArray, List.map_cons, List.map_nil]); first | done | rfl | (simp only [List.length_drop, List.length_take]; rfl)) ?_; (with_reducible refine (frame_Put.calls k (⟨#[97, 98]⟩ : ByteArray) t131 t132 _ A1.out).mono ?_); rintro e w12 ⟨rfl, hb⟩; refine ⟨_, rfl, ?_⟩; have n0_ := Aside0.mk (below_step (by repeat (first | (with_reducible first | exact HB.out | apply below_alloc | apply pw_below_drewN | apply below_drew1) | exact HB.out)) hb); clear HB; have HB := n0_; clear n0_; (try clear hb); (try clear hb2); (try clear hk); (try clear hi)) | ((with_reducible refine gate_callee (f := 10) rfl ?_); refine goesL_ (some 11) rfl rfl Try.func10 (by kernel_rfl) rfl #[.string t131] rfl (by (try simp only [List.map_toArray, List.map_cons, List.map_nil]); first | done | rfl | (simp only [List.length_drop, List.length_take]; rfl)) ?_; (with_reducible refine (frame_Whole.calls k t131 t133 t134 _ A2.out).mono ?_); rintro e w13 ⟨rfl, hb⟩; refine ⟨_, rfl, ?_⟩; have n0_ := Aside0.mk (below_step (by repeat (first | (with_reducible first | exact HB.out | apply below_alloc | apply pw_below_drewN | apply below_drew1) | exact HB.out)) hb); clear HB; have HB := n0_; clear n0_; (try clear hb); (try clear hb2); (try clear hk); (try clear hi)))
    go_ret
    exact ⟨by first | rfl | (simp [errW_none, errW_some] <;> rfl) | (simp [*, errW_none, errW_some] <;> rfl), by repeat (first | (with_reducible first | exact HB.out | apply below_alloc | apply pw_below_drewN | apply below_drew1) | exact HB.out)⟩

/-! ### meterlaw03_FrameBack: function 5 -/
mutual
def meterlaw03_FrameBack.j0 : Nat → ByteArray → ByteArray → ByteArray → ByteArray → Int → Int → Bool → Option (Bool)
  | 0, _, _, _, _, _, _, _ => none
  | k + 1, x0, x1, x2, x3, x4, x5, x47 => if x47 = true then (some true) else ((frame_Put.f k x0).bind fun bt136 => (if x1.size + bt136.1.size ≤ 9223372036854775807 then (if (x1 ++ bt136.1).size + x2.size ≤ 9223372036854775807 then ((frame_Next.f k ((x1 ++ bt136.1) ++ x2) (x1.size : Int)).bind fun bt138 => (if bt136.2 = 0 then (if bt138.2.2 = 0 then (if bt138.1.toList = x0.toList then (meterlaw03_FrameBack.j1 k x3 x4 x5 bt136.1 (bt138.2.1 != (wrap64 ((x1.size : Int) + (bt136.1.size : Int))))) else (meterlaw03_FrameBack.j1 k x3 x4 x5 bt136.1 true)) else (meterlaw03_FrameBack.j1 k x3 x4 x5 bt136.1 true)) else (meterlaw03_FrameBack.j1 k x3 x4 x5 bt136.1 true))) else (none)) else (none)))
def meterlaw03_FrameBack.j1 : Nat → ByteArray → Int → Int → ByteArray → Bool → Option (Bool)
  | 0, _, _, _, _, _ => none
  | k + 1, x3, x4, x5, x13, x84 => if x84 = true then (some false) else (if x5 ≥ 0 then (meterlaw03_FrameBack.j2 k x3 x4 x5 x13 (decide (x5 < (x13.size : Int)))) else (meterlaw03_FrameBack.j2 k x3 x4 x5 x13 false))
def meterlaw03_FrameBack.j2 : Nat → ByteArray → Int → Int → ByteArray → Bool → Option (Bool)
  | 0, _, _, _, _, _ => none
  | k + 1, x3, x4, x5, x13, x92 => if x92 = true then (if 0 ≤ x5 then (if x5 ≤ (x13.size : Int) then ((frame_Next.f k (x13.extract 0 (x5 : Int).toNat) 0).bind fun bt141 => ((frame_Whole.f k (x13.extract 0 (x5 : Int).toNat)).bind fun bt144 => (if bt141.2.2 = 7 then (if bt144.2 = 7 then (meterlaw03_FrameBack.j3 k x3 x4) else (some false)) else (some false)))) else (none)) else (none)) else (meterlaw03_FrameBack.j3 k x3 x4)
def meterlaw03_FrameBack.j3 : Nat → ByteArray → Int → Option (Bool)
  | 0, _, _ => none
  | k + 1, x3, x4 => (frame_Next.f k x3 x4).bind fun bt146 => (if bt146.2.2 = 0 then ((frame_Put.f k bt146.1).bind fun bt149 => (if bt149.2 = 0 then (if (wrap64 (bt146.2.1 - x4)) = (bt149.1.size : Int) then (if 0 ≤ x4 then (if x4 ≤ bt146.2.1 then (if bt146.2.1 ≤ (x3.size : Int) then (some ((x3.extract (x4 : Int).toNat (bt146.2.1 : Int).toNat).toList == bt149.1.toList)) else (none)) else (none)) else (none)) else (some false)) else (some false))) else (if bt146.1.toList = ([] : List UInt8) then (some (bt146.2.1 == 0)) else (some false)))
end
def meterlaw03_FrameBack.f (k : Nat) (a0 : ByteArray) (a1 : ByteArray) (a2 : ByteArray) (a3 : ByteArray) (a4 : Int) (a5 : Int) : Option (Bool) := (meterlaw03_awake.f k).bind fun t135 => (if t135 = true then (if (a0.size : Int) > 16384 then (meterlaw03_FrameBack.j0 k a0 a1 a2 a3 a4 a5 true) else (if (a1.size : Int) > 16384 then (meterlaw03_FrameBack.j0 k a0 a1 a2 a3 a4 a5 true) else (if (a2.size : Int) > 16384 then (meterlaw03_FrameBack.j0 k a0 a1 a2 a3 a4 a5 true) else (meterlaw03_FrameBack.j0 k a0 a1 a2 a3 a4 a5 (decide ((a3.size : Int) > 16384)))))) else (some false))
theorem meterlaw03_FrameBack.mono_l : ∀ k, (∀ y0 y1 y2 y3 y4 y5 y6, LeO (meterlaw03_FrameBack.j0 k y0 y1 y2 y3 y4 y5 y6) (meterlaw03_FrameBack.j0 (k + 1) y0 y1 y2 y3 y4 y5 y6)) ∧ (∀ y0 y1 y2 y3 y4, LeO (meterlaw03_FrameBack.j1 k y0 y1 y2 y3 y4) (meterlaw03_FrameBack.j1 (k + 1) y0 y1 y2 y3 y4)) ∧ (∀ y0 y1 y2 y3 y4, LeO (meterlaw03_FrameBack.j2 k y0 y1 y2 y3 y4) (meterlaw03_FrameBack.j2 (k + 1) y0 y1 y2 y3 y4)) ∧ (∀ y0 y1, LeO (meterlaw03_FrameBack.j3 k y0 y1) (meterlaw03_FrameBack.j3 (k + 1) y0 y1))
  | 0 => ⟨fun _ _ _ _ _ _ _ r h => by simp [meterlaw03_FrameBack.j0] at h, fun _ _ _ _ _ r h => by simp [meterlaw03_FrameBack.j1] at h, fun _ _ _ _ _ r h => by simp [meterlaw03_FrameBack.j2] at h, fun _ _ r h => by simp [meterlaw03_FrameBack.j3] at h⟩
  | k + 1 => by
    obtain ⟨ih0, ih1, ih2, ih3⟩ := meterlaw03_FrameBack.mono_l k
    refine ⟨?_, ?_, ?_, ?_⟩
    · intro y0 y1 y2 y3 y4 y5 y6
      unfold meterlaw03_FrameBack.j0
      repeat' first
      | (with_reducible exact ih0 _ _ _ _ _ _ _)
      | (with_reducible exact ih1 _ _ _ _ _)
      | (with_reducible exact ih2 _ _ _ _ _)
      | (with_reducible exact ih3 _ _)
      | (with_reducible exact frame_Next.mono _ _ _)
      | (with_reducible exact frame_Put.mono _ _)
      | (with_reducible exact frame_Whole.mono _ _)
      | (with_reducible exact meterlaw03_awake.mono _)
      | (with_reducible exact LeO.refl _)
      | (with_reducible exact LeO.none _)
      | (with_reducible refine LeO.ite ?_ ?_)
      | (with_reducible refine LeO.bind ?_ (fun _ => ?_))
      | exact ih0 _ _ _ _ _ _ _
      | exact ih1 _ _ _ _ _
      | exact ih2 _ _ _ _ _
      | exact ih3 _ _
      | exact frame_Next.mono _ _ _
      | exact frame_Put.mono _ _
      | exact frame_Whole.mono _ _
      | exact meterlaw03_awake.mono _
      | exact LeO.none _
      | refine LeO.ite ?_ ?_
      | refine LeO.bind ?_ (fun _ => ?_)
    · intro y0 y1 y2 y3 y4
      unfold meterlaw03_FrameBack.j1
      repeat' first
      | (with_reducible exact ih0 _ _ _ _ _ _ _)
      | (with_reducible exact ih1 _ _ _ _ _)
      | (with_reducible exact ih2 _ _ _ _ _)
      | (with_reducible exact ih3 _ _)
      | (with_reducible exact frame_Next.mono _ _ _)
      | (with_reducible exact frame_Put.mono _ _)
      | (with_reducible exact frame_Whole.mono _ _)
      | (with_reducible exact meterlaw03_awake.mono _)
      | (with_reducible exact LeO.refl _)
      | (with_reducible exact LeO.none _)
      | (with_reducible refine LeO.ite ?_ ?_)
      | (with_reducible refine LeO.bind ?_ (fun _ => ?_))
      | exact ih0 _ _ _ _ _ _ _
      | exact ih1 _ _ _ _ _
      | exact ih2 _ _ _ _ _
      | exact ih3 _ _
      | exact frame_Next.mono _ _ _
      | exact frame_Put.mono _ _
      | exact frame_Whole.mono _ _
      | exact meterlaw03_awake.mono _
      | exact LeO.none _
      | refine LeO.ite ?_ ?_
      | refine LeO.bind ?_ (fun _ => ?_)
    · intro y0 y1 y2 y3 y4
      unfold meterlaw03_FrameBack.j2
      repeat' first
      | (with_reducible exact ih0 _ _ _ _ _ _ _)
      | (with_reducible exact ih1 _ _ _ _ _)
      | (with_reducible exact ih2 _ _ _ _ _)
      | (with_reducible exact ih3 _ _)
      | (with_reducible exact frame_Next.mono _ _ _)
      | (with_reducible exact frame_Put.mono _ _)
      | (with_reducible exact frame_Whole.mono _ _)
      | (with_reducible exact meterlaw03_awake.mono _)
      | (with_reducible exact LeO.refl _)
      | (with_reducible exact LeO.none _)
      | (with_reducible refine LeO.ite ?_ ?_)
      | (with_reducible refine LeO.bind ?_ (fun _ => ?_))
      | exact ih0 _ _ _ _ _ _ _
      | exact ih1 _ _ _ _ _
      | exact ih2 _ _ _ _ _
      | exact ih3 _ _
      | exact frame_Next.mono _ _ _
      | exact frame_Put.mono _ _
      | exact frame_Whole.mono _ _
      | exact meterlaw03_awake.mono _
      | exact LeO.none _
      | refine LeO.ite ?_ ?_
      | refine LeO.bind ?_ (fun _ => ?_)
    · intro y0 y1
      unfold meterlaw03_FrameBack.j3
      repeat' first
      | (with_reducible exact ih0 _ _ _ _ _ _ _)
      | (with_reducible exact ih1 _ _ _ _ _)
      | (with_reducible exact ih2 _ _ _ _ _)
      | (with_reducible exact ih3 _ _)
      | (with_reducible exact frame_Next.mono _ _ _)
      | (with_reducible exact frame_Put.mono _ _)
      | (with_reducible exact frame_Whole.mono _ _)
      | (with_reducible exact meterlaw03_awake.mono _)
      | (with_reducible exact LeO.refl _)
      | (with_reducible exact LeO.none _)
      | (with_reducible refine LeO.ite ?_ ?_)
      | (with_reducible refine LeO.bind ?_ (fun _ => ?_))
      | exact ih0 _ _ _ _ _ _ _
      | exact ih1 _ _ _ _ _
      | exact ih2 _ _ _ _ _
      | exact ih3 _ _
      | exact frame_Next.mono _ _ _
      | exact frame_Put.mono _ _
      | exact frame_Whole.mono _ _
      | exact meterlaw03_awake.mono _
      | exact LeO.none _
      | refine LeO.ite ?_ ?_
      | refine LeO.bind ?_ (fun _ => ?_)
theorem meterlaw03_FrameBack.mono : ∀ a0 a1 a2 a3 a4 a5 k, LeO (meterlaw03_FrameBack.f k a0 a1 a2 a3 a4 a5) (meterlaw03_FrameBack.f (k + 1) a0 a1 a2 a3 a4 a5) := by
  intro a0 a1 a2 a3 a4 a5 k
  obtain ⟨ih0, ih1, ih2, ih3⟩ := meterlaw03_FrameBack.mono_l k
  unfold meterlaw03_FrameBack.f
  repeat' first
      | (with_reducible exact ih0 _ _ _ _ _ _ _)
      | (with_reducible exact ih1 _ _ _ _ _)
      | (with_reducible exact ih2 _ _ _ _ _)
      | (with_reducible exact ih3 _ _)
      | (with_reducible exact frame_Next.mono _ _ _)
      | (with_reducible exact frame_Put.mono _ _)
      | (with_reducible exact frame_Whole.mono _ _)
      | (with_reducible exact meterlaw03_awake.mono _)
      | (with_reducible exact LeO.refl _)
      | (with_reducible exact LeO.none _)
      | (with_reducible refine LeO.ite ?_ ?_)
      | (with_reducible refine LeO.bind ?_ (fun _ => ?_))
      | exact ih0 _ _ _ _ _ _ _
      | exact ih1 _ _ _ _ _
      | exact ih2 _ _ _ _ _
      | exact ih3 _ _
      | exact frame_Next.mono _ _ _
      | exact frame_Put.mono _ _
      | exact frame_Whole.mono _ _
      | exact meterlaw03_awake.mono _
      | exact LeO.none _
      | refine LeO.ite ?_ ?_
      | refine LeO.bind ?_ (fun _ => ?_)
set_option maxHeartbeats 8000000 in
set_option maxRecDepth 100000 in
theorem meterlaw03_FrameBack.calls (k : Nat) (a0 : ByteArray) (a1 : ByteArray) (a2 : ByteArray) (a3 : ByteArray) (a4 : Int) (a5 : Int) (r : Bool) (w : World) (h : meterlaw03_FrameBack.f k a0 a1 a2 a3 a4 a5 = some r) (hrt_ : r = true) :
    Calls Try.prog 5 #[.string a0, .string a1, .string a2, .string a3, .int .i64 a4, .int .i64 a5] w fun e w' => e = .returned (.bool r) ∧ Below w.heap.size w w' := by
  have HB := Aside0.mk (Below.refl w.heap.size w)
  have HRT := Aside0.mk hrt_
  clear hrt_
  have H : ((meterlaw03_awake.f k).bind fun t135 => (if t135 = true then (if (a0.size : Int) > 16384 then (meterlaw03_FrameBack.j0 k a0 a1 a2 a3 a4 a5 true) else (if (a1.size : Int) > 16384 then (meterlaw03_FrameBack.j0 k a0 a1 a2 a3 a4 a5 true) else (if (a2.size : Int) > 16384 then (meterlaw03_FrameBack.j0 k a0 a1 a2 a3 a4 a5 true) else (meterlaw03_FrameBack.j0 k a0 a1 a2 a3 a4 a5 (decide ((a3.size : Int) > 16384)))))) else (some false))) = some r := h
  clear h
  replace H := Option.bind_eq_some_iff.mp H
  obtain ⟨t135, A70, H⟩ := H
  replace H : (if t135 = true then (if (a0.size : Int) > 16384 then (meterlaw03_FrameBack.j0 k a0 a1 a2 a3 a4 a5 true) else (if (a1.size : Int) > 16384 then (meterlaw03_FrameBack.j0 k a0 a1 a2 a3 a4 a5 true) else (if (a2.size : Int) > 16384 then (meterlaw03_FrameBack.j0 k a0 a1 a2 a3 a4 a5 true) else (meterlaw03_FrameBack.j0 k a0 a1 a2 a3 a4 a5 (decide ((a3.size : Int) > 16384)))))) else (some false)) = some r := H
  have A7 := Aside0.mk A70
  clear A70
  by_cases c8 : t135 = true
  · subst c8
    have H1 : (if (a0.size : Int) > 16384 then (meterlaw03_FrameBack.j0 k a0 a1 a2 a3 a4 a5 true) else (if (a1.size : Int) > 16384 then (meterlaw03_FrameBack.j0 k a0 a1 a2 a3 a4 a5 true) else (if (a2.size : Int) > 16384 then (meterlaw03_FrameBack.j0 k a0 a1 a2 a3 a4 a5 true) else (meterlaw03_FrameBack.j0 k a0 a1 a2 a3 a4 a5 (decide ((a3.size : Int) > 16384)))))) = some r := by rw [if_pos rfl] at H; exact H
    clear H
    have H := H1
    clear H1
    have HC9 := Aside0.mk H
    clear H
    go_enter Try.func5, Try.ntmps5
    go_upto_region 3 with (first | ((with_reducible refine gate_callee (f := 13) rfl ?_); refine goesL_ (some 28) rfl rfl Try.func13 (by kernel_rfl) rfl #[] rfl (by (try simp only [List.map_toArray, List.map_cons, List.map_nil]); first | done | rfl | (simp only [List.length_drop, List.length_take]; rfl)) ?_; (with_reducible refine (meterlaw03_awake.calls k  true _ A7.out).mono ?_); rintro e w10 ⟨rfl, hb⟩; refine ⟨_, rfl, ?_⟩; have n0_ := Aside0.mk (below_step (by repeat (first | (with_reducible first | exact HB.out | apply below_alloc | apply pw_below_drewN | apply below_drew1) | exact HB.out)) hb); clear HB; have HB := n0_; clear n0_; (try clear hb); (try clear hb2); (try clear hk); (try clear hi)))
    (try simp only [Act.put, List.setIfInBounds_toArray, List.set_cons_zero, List.set_cons_succ])
    go_cut [47] (fun v47 wc => ∃ (kq : Nat) (x47_8 : Bool), v47 = .bool x47_8 ∧ Aside0 (meterlaw03_FrameBack.j0 kq a0 a1 a2 a3 a4 a5 x47_8 = some r) ∧ Aside0 (kq ≤ k) ∧ Aside0 (Below w.heap.size w wc))
    case first =>
      have H := HC9.out
      clear HC9
      by_cases c11 : (a0.size : Int) > 16384
      · rw [if_pos c11] at H
        have c11b0 : decide (16384 < (a0.size : Int)) = true := decide_eq_true c11
        have c11b1 : decide (16384 < a0.size) = true := decide_eq_true (by omega)
        clear c11
        (first | rw [c11b0] | (simp only [i64_w, i32_w]; rw [c11b0]) | skip)
        have H' := Aside0.mk H
        clear H
        go_wp2
        go_meet
        case rel => exact ⟨_, (true), (by first | rfl | (simp; done) | (simp [*]; done) | (congr 1; simp only [eq_iff_iff, iff_true, ByteArray.size_append] at *; unfold wrap64; omega) | (congr 2; simp only [eq_iff_iff, iff_true, ByteArray.size_append] at *; unfold wrap64; omega)), H', ⟨by first | omega | exact Nat.le_refl _⟩, ⟨by repeat (first | (with_reducible first | exact HB.out | apply below_alloc | apply pw_below_drewN | apply below_drew1) | exact HB.out)⟩⟩
      · rw [if_neg c11] at H
        have c11b0 : decide (16384 < (a0.size : Int)) = false := decide_eq_false c11
        have c11b1 : decide (16384 < a0.size) = false := decide_eq_false (by omega)
        clear c11
        (first | rw [c11b0] | (simp only [i64_w, i32_w]; rw [c11b0]) | skip)
        by_cases c12 : (a1.size : Int) > 16384
        · rw [if_pos c12] at H
          have c12b0 : decide (16384 < (a1.size : Int)) = true := decide_eq_true c12
          have c12b1 : decide (16384 < a1.size) = true := decide_eq_true (by omega)
          clear c12
          have H' := Aside0.mk H
          clear H
          go_wp2
          go_meet
          case rel => exact ⟨_, (true), (by first | rfl | (simp; done) | (simp [*]; done) | (congr 1; simp only [eq_iff_iff, iff_true, ByteArray.size_append] at *; unfold wrap64; omega) | (congr 2; simp only [eq_iff_iff, iff_true, ByteArray.size_append] at *; unfold wrap64; omega)), H', ⟨by first | omega | exact Nat.le_refl _⟩, ⟨by repeat (first | (with_reducible first | exact HB.out | apply below_alloc | apply pw_below_drewN | apply below_drew1) | exact HB.out)⟩⟩
        · rw [if_neg c12] at H
          have c12b0 : decide (16384 < (a1.size : Int)) = false := decide_eq_false c12
          have c12b1 : decide (16384 < a1.size) = false := decide_eq_false (by omega)
          clear c12
          by_cases c13 : (a2.size : Int) > 16384
          · rw [if_pos c13] at H
            have c13b0 : decide (16384 < (a2.size : Int)) = true := decide_eq_true c13
            have c13b1 : decide (16384 < a2.size) = true := decide_eq_true (by omega)
            clear c13
            have H' := Aside0.mk H
            clear H
            go_wp2
            go_meet
            case rel => exact ⟨_, (true), (by first | rfl | (simp; done) | (simp [*]; done) | (congr 1; simp only [eq_iff_iff, iff_true, ByteArray.size_append] at *; unfold wrap64; omega) | (congr 2; simp only [eq_iff_iff, iff_true, ByteArray.size_append] at *; unfold wrap64; omega)), H', ⟨by first | omega | exact Nat.le_refl _⟩, ⟨by repeat (first | (with_reducible first | exact HB.out | apply below_alloc | apply pw_below_drewN | apply below_drew1) | exact HB.out)⟩⟩
          · rw [if_neg c13] at H
            have c13b0 : decide (16384 < (a2.size : Int)) = false := decide_eq_false c13
            have c13b1 : decide (16384 < a2.size) = false := decide_eq_false (by omega)
            clear c13
            have H' := Aside0.mk H
            clear H
            go_wp2
            go_meet
            case rel => exact ⟨_, (decide ((a3.size : Int) > 16384)), (by first | rfl | (simp; done) | (simp [*]; done) | (congr 1; simp only [eq_iff_iff, iff_true, ByteArray.size_append] at *; unfold wrap64; omega) | (congr 2; simp only [eq_iff_iff, iff_true, ByteArray.size_append] at *; unfold wrap64; omega)), H', ⟨by first | omega | exact Nat.le_refl _⟩, ⟨by repeat (first | (with_reducible first | exact HB.out | apply below_alloc | apply pw_below_drewN | apply below_drew1) | exact HB.out)⟩⟩
    case rest =>
      clear HC9
      try clear c1
      try clear p2
      try clear c5
      try clear p6
      try clear c8
      try clear c11
      try clear c11b0
      try clear c11b1
      try clear c12
      try clear c12b0
      try clear c12b1
      try clear c13
      try clear c13b0
      try clear c13b1
      obtain ⟨kq, x47_8, rfl, HA, HJ8, HB⟩ := hcut
      cases kq with
      | zero => exact absurd HA.out (by simp [meterlaw03_FrameBack.j0])
      | succ kj8 =>
        have H := HA.out
        clear HA
        simp only [meterlaw03_FrameBack.j0] at H
        by_cases c14 : x47_8 = true
        · subst c14
          have H1 : (some true) = some r := by rw [if_pos rfl] at H; exact H
          clear H
          have H := H1
          clear H1
          obtain rfl := Option.some.inj H
          go_wp2
          go_ret
          exact ⟨by first | rfl | (simp [errW_none, errW_some] <;> rfl) | (simp [*, errW_none, errW_some] <;> rfl), by repeat (first | (with_reducible first | exact HB.out | apply below_alloc | apply pw_below_drewN | apply below_drew1) | exact HB.out)⟩
        · replace c14 := Bool.eq_false_iff.mpr c14
          subst c14
          have H1 : ((frame_Put.f kj8 a0).bind fun bt136 => (if a1.size + bt136.1.size ≤ 9223372036854775807 then (if (a1 ++ bt136.1).size + a2.size ≤ 9223372036854775807 then ((frame_Next.f kj8 ((a1 ++ bt136.1) ++ a2) (a1.size : Int)).bind fun bt138 => (if bt136.2 = 0 then (if bt138.2.2 = 0 then (if bt138.1.toList = a0.toList then (meterlaw03_FrameBack.j1 kj8 a3 a4 a5 bt136.1 (bt138.2.1 != (wrap64 ((a1.size : Int) + (bt136.1.size : Int))))) else (meterlaw03_FrameBack.j1 kj8 a3 a4 a5 bt136.1 true)) else (meterlaw03_FrameBack.j1 kj8 a3 a4 a5 bt136.1 true)) else (meterlaw03_FrameBack.j1 kj8 a3 a4 a5 bt136.1 true))) else (none)) else (none))) = some r := by rw [if_neg (show ¬ (false = true) by decide)] at H; exact H
          clear H
          have H := H1
          clear H1
          replace H := Option.bind_eq_some_iff.mp H
          obtain ⟨⟨t136, t137⟩, A150, H⟩ := H
          replace H : (if a1.size + t136.size ≤ 9223372036854775807 then (if (a1 ++ t136).size + a2.size ≤ 9223372036854775807 then ((frame_Next.f kj8 ((a1 ++ t136) ++ a2) (a1.size : Int)).bind fun bt138 => (if t137 = 0 then (if bt138.2.2 = 0 then (if bt138.1.toList = a0.toList then (meterlaw03_FrameBack.j1 kj8 a3 a4 a5 t136 (bt138.2.1 != (wrap64 ((a1.size : Int) + (t136.size : Int))))) else (meterlaw03_FrameBack.j1 kj8 a3 a4 a5 t136 true)) else (meterlaw03_FrameBack.j1 kj8 a3 a4 a5 t136 true)) else (meterlaw03_FrameBack.j1 kj8 a3 a4 a5 t136 true))) else (none)) else (none)) = some r := H
          have A15 := Aside0.mk A150
          clear A150
          by_cases c16 : a1.size + t136.size ≤ 9223372036854775807
          · rw [if_pos c16] at H
            have c16b0 := eq_true c16
            have c16b1 : decide (a1.size + t136.size ≤ 9223372036854775807) = true := decide_eq_true c16
            try have c16b2 : (9223372036854775807 < a1.size + t136.size) = False := eq_false (Nat.not_lt.2 c16)
            by_cases c17 : (a1 ++ t136).size + a2.size ≤ 9223372036854775807
            · rw [if_pos c17] at H
              have c17b0 := eq_true c17
              have c17b1 : decide ((a1 ++ t136).size + a2.size ≤ 9223372036854775807) = true := decide_eq_true c17
              try have c17b2 : (9223372036854775807 < (a1 ++ t136).size + a2.size) = False := eq_false (Nat.not_lt.2 c17)
              try (have c17b3 := c17b2; simp only [ByteArray.size_append] at c17b3)
              replace H := Option.bind_eq_some_iff.mp H
              obtain ⟨⟨t138, t139, t140⟩, A180, H⟩ := H
              replace H : (if t137 = 0 then (if t140 = 0 then (if t138.toList = a0.toList then (meterlaw03_FrameBack.j1 kj8 a3 a4 a5 t136 (t139 != (wrap64 ((a1.size : Int) + (t136.size : Int))))) else (meterlaw03_FrameBack.j1 kj8 a3 a4 a5 t136 true)) else (meterlaw03_FrameBack.j1 kj8 a3 a4 a5 t136 true)) else (meterlaw03_FrameBack.j1 kj8 a3 a4 a5 t136 true)) = some r := H
              have A18 := Aside0.mk A180
              clear A180
              have HC19 := Aside0.mk H
              clear H
              go_upto_region 7 with (first | ((with_reducible refine gate_callee (f := 9) rfl ?_); refine goesL_ (some 50) rfl rfl Try.func9 (by kernel_rfl) rfl #[.string a0] rfl (by (try simp only [List.map_toArray, List.map_cons, List.map_nil]); first | done | rfl | (simp only [List.length_drop, List.length_take]; rfl)) ?_; (with_reducible refine (frame_Put.calls kj8 a0 t136 t137 _ A15.out).mono ?_); rintro e w20 ⟨rfl, hb⟩; refine ⟨_, rfl, ?_⟩; have n0_ := Aside0.mk (below_step (by repeat (first | (with_reducible first | exact HB.out | apply below_alloc | apply pw_below_drewN | apply below_drew1) | exact HB.out)) hb); clear HB; have HB := n0_; clear n0_; (try clear hb); (try clear hb2); (try clear hk); (try clear hi)) | ((with_reducible refine gate_callee (f := 11) rfl ?_); refine goesL_ (some 61) rfl rfl Try.func11 (by kernel_rfl) rfl #[.string ((a1 ++ t136) ++ a2), .int .i64 (a1.size : Int)] rfl (by (try simp only [List.map_toArray, List.map_cons, List.map_nil]); first | done | rfl | (simp only [List.length_drop, List.length_take]; rfl)) ?_; (with_reducible refine (frame_Next.calls kj8 ((a1 ++ t136) ++ a2) (a1.size : Int) t138 t139 t140 _ A18.out).mono ?_); rintro e w21 ⟨rfl, hb⟩; refine ⟨_, rfl, ?_⟩; have n0_ := Aside0.mk (below_step (by repeat (first | (with_reducible first | exact HB.out | apply below_alloc | apply pw_below_drewN | apply below_drew1) | exact HB.out)) hb); clear HB; have HB := n0_; clear n0_; (try clear hb); (try clear hb2); (try clear hk); (try clear hi)))
              (try simp only [Act.put, List.setIfInBounds_toArray, List.set_cons_zero, List.set_cons_succ])
              go_cut [84] (fun v84 wc => ∃ (kq : Nat) (x84_18 : Bool), v84 = .bool x84_18 ∧ Aside0 (meterlaw03_FrameBack.j1 kq a3 a4 a5 t136 x84_18 = some r) ∧ Aside0 (kq ≤ kj8) ∧ Aside0 (Below w.heap.size w wc))
              case first =>
                have H := HC19.out
                clear HC19
                by_cases c22 : t137 = 0
                · rw [if_pos c22] at H
                  have c22b0 : (t137 == 0) = true := beq_iff_eq.mpr c22
                  have c22b1 : (t137 != 0) = false := bne_eq_false_iff_eq.mpr c22
                  clear c22
                  (first | rw [c22b0] | (simp only [i64_w, i32_w]; rw [c22b0]) | skip)
                  by_cases c23 : t140 = 0
                  · rw [if_pos c23] at H
                    have c23b0 : (t140 == 0) = true := beq_iff_eq.mpr c23
                    have c23b1 : (t140 != 0) = false := bne_eq_false_iff_eq.mpr c23
                    clear c23
                    by_cases c24 : t138.toList = a0.toList
                    · rw [if_pos c24] at H
                      have c24b0 : (t138.toList == a0.toList) = true := beq_iff_eq.mpr c24
                      have c24b1 : (t138.toList != a0.toList) = false := bne_eq_false_iff_eq.mpr c24
                      clear c24
                      have H' := Aside0.mk H
                      clear H
                      go_wp2
                      go_meet
                      case rel => exact ⟨_, ((t139 != (wrap64 ((a1.size : Int) + (t136.size : Int))))), (by first | rfl | (simp; done) | (simp [*]; done) | (congr 1; simp only [eq_iff_iff, iff_true, ByteArray.size_append] at *; unfold wrap64; omega) | (congr 2; simp only [eq_iff_iff, iff_true, ByteArray.size_append] at *; unfold wrap64; omega)), H', ⟨by have := HJ8.out; first | omega | exact Nat.le_refl _⟩, ⟨by repeat (first | (with_reducible first | exact HB.out | apply below_alloc | apply pw_below_drewN | apply below_drew1) | exact HB.out)⟩⟩
                    · rw [if_neg c24] at H
                      have c24b0 : (t138.toList == a0.toList) = false := beq_eq_false_iff_ne.mpr c24
                      have c24b1 : (t138.toList != a0.toList) = true := bne_iff_ne.mpr c24
                      have H' := Aside0.mk H
                      clear H
                      go_wp2
                      go_meet
                      case rel => exact ⟨_, (true), (by first | rfl | (simp; done) | (simp [*]; done) | (congr 1; simp only [eq_iff_iff, iff_true, ByteArray.size_append] at *; unfold wrap64; omega) | (congr 2; simp only [eq_iff_iff, iff_true, ByteArray.size_append] at *; unfold wrap64; omega)), H', ⟨by have := HJ8.out; first | omega | exact Nat.le_refl _⟩, ⟨by repeat (first | (with_reducible first | exact HB.out | apply below_alloc | apply pw_below_drewN | apply below_drew1) | exact HB.out)⟩⟩
                  · rw [if_neg c23] at H
                    have c23b0 : (t140 == 0) = false := beq_eq_false_iff_ne.mpr c23
                    have c23b1 : (t140 != 0) = true := bne_iff_ne.mpr c23
                    have H' := Aside0.mk H
                    clear H
                    go_wp2
                    go_meet
                    case rel => exact ⟨_, (true), (by first | rfl | (simp; done) | (simp [*]; done) | (congr 1; simp only [eq_iff_iff, iff_true, ByteArray.size_append] at *; unfold wrap64; omega) | (congr 2; simp only [eq_iff_iff, iff_true, ByteArray.size_append] at *; unfold wrap64; omega)), H', ⟨by have := HJ8.out; first | omega | exact Nat.le_refl _⟩, ⟨by repeat (first | (with_reducible first | exact HB.out | apply below_alloc | apply pw_below_drewN | apply below_drew1) | exact HB.out)⟩⟩
                · rw [if_neg c22] at H
                  have c22b0 : (t137 == 0) = false := beq_eq_false_iff_ne.mpr c22
                  have c22b1 : (t137 != 0) = true := bne_iff_ne.mpr c22
                  (first | rw [c22b0] | (simp only [i64_w, i32_w]; rw [c22b0]) | skip)
                  have H' := Aside0.mk H
                  clear H
                  go_wp2
                  go_meet
                  case rel => exact ⟨_, (true), (by first | rfl | (simp; done) | (simp [*]; done) | (congr 1; simp only [eq_iff_iff, iff_true, ByteArray.size_append] at *; unfold wrap64; omega) | (congr 2; simp only [eq_iff_iff, iff_true, ByteArray.size_append] at *; unfold wrap64; omega)), H', ⟨by have := HJ8.out; first | omega | exact Nat.le_refl _⟩, ⟨by repeat (first | (with_reducible first | exact HB.out | apply below_alloc | apply pw_below_drewN | apply below_drew1) | exact HB.out)⟩⟩
              case rest =>
                clear HC19
                try clear c1
                try clear c2
                try clear p2
                try clear c5
                try clear p6
                try clear c8
                try clear c9
                try clear c11
                try clear c11b0
                try clear c11b1
                try clear c12
                try clear c12b0
                try clear c12b1
                try clear c13
                try clear c13b0
                try clear c13b1
                try clear c14
                try clear c16
                try clear c16b0
                try clear c16b1
                try clear c16b2
                try clear c17
                try clear c17b0
                try clear c17b1
                try clear c17b2
                try clear c22
                try clear c22b0
                try clear c22b1
                try clear c23
                try clear c23b0
                try clear c23b1
                try clear c24
                try clear c24b0
                try clear c24b1
                try clear p2
                try clear p6
                obtain ⟨kq, x84_18, rfl, HA, HJ18, HB⟩ := hcut
                cases kq with
                | zero => exact absurd HA.out (by simp [meterlaw03_FrameBack.j1])
                | succ kj18 =>
                  have H := HA.out
                  clear HA
                  simp only [meterlaw03_FrameBack.j1] at H
                  by_cases c25 : x84_18 = true
                  · subst c25
                    have H1 : (some false) = some r := by rw [if_pos rfl] at H; exact H
                    clear H
                    have H := H1
                    clear H1
                    exact absurd (H.trans (congrArg some HRT.out)) (by simp)
                  · replace c25 := Bool.eq_false_iff.mpr c25
                    subst c25
                    have H1 : (if a5 ≥ 0 then (meterlaw03_FrameBack.j2 kj18 a3 a4 a5 t136 (decide (a5 < (t136.size : Int)))) else (meterlaw03_FrameBack.j2 kj18 a3 a4 a5 t136 false)) = some r := by rw [if_neg (show ¬ (false = true) by decide)] at H; exact H
                    clear H
                    have H := H1
                    clear H1
                    have HC26 := Aside0.mk H
                    clear H
                    go_upto_region 9 with (fail)
                    go_cut [92] (fun v92 wc => ∃ (kq : Nat) (x92_25 : Bool), v92 = .bool x92_25 ∧ Aside0 (meterlaw03_FrameBack.j2 kq a3 a4 a5 t136 x92_25 = some r) ∧ Aside0 (kq ≤ kj18) ∧ Aside0 (Below w.heap.size w wc))
                    case first =>
                      have H := HC26.out
                      clear HC26
                      by_cases c27 : a5 ≥ 0
                      · rw [if_pos c27] at H
                        have c27b0 : decide (0 ≤ a5) = true := decide_eq_true c27
                        clear c27
                        (first | rw [c27b0] | (simp only [i64_w, i32_w]; rw [c27b0]) | skip)
                        have H' := Aside0.mk H
                        clear H
                        go_wp2
                        go_meet
                        case rel => exact ⟨_, (decide (a5 < (t136.size : Int))), (by first | rfl | (simp; done) | (simp [*]; done) | (congr 1; simp only [eq_iff_iff, iff_true, ByteArray.size_append] at *; unfold wrap64; omega) | (congr 2; simp only [eq_iff_iff, iff_true, ByteArray.size_append] at *; unfold wrap64; omega)), H', ⟨by have := HJ8.out; have := HJ18.out; first | omega | exact Nat.le_refl _⟩, ⟨by repeat (first | (with_reducible first | exact HB.out | apply below_alloc | apply pw_below_drewN | apply below_drew1) | exact HB.out)⟩⟩
                      · rw [if_neg c27] at H
                        have c27b0 : decide (0 ≤ a5) = false := decide_eq_false c27
                        clear c27
                        (first | rw [c27b0] | (simp only [i64_w, i32_w]; rw [c27b0]) | skip)
                        have H' := Aside0.mk H
                        clear H
                        go_wp2
                        go_meet
                        case rel => exact ⟨_, (false), (by first | rfl | (simp; done) | (simp [*]; done) | (congr 1; simp only [eq_iff_iff, iff_true, ByteArray.size_append] at *; unfold wrap64; omega) | (congr 2; simp only [eq_iff_iff, iff_true, ByteArray.size_append] at *; unfold wrap64; omega)), H', ⟨by have := HJ8.out; have := HJ18.out; first | omega | exact Nat.le_refl _⟩, ⟨by repeat (first | (with_reducible first | exact HB.out | apply below_alloc | apply pw_below_drewN | apply below_drew1) | exact HB.out)⟩⟩
                    case rest =>
                      clear HC26
                      try clear c1
                      try clear c2
                      try clear p2
                      try clear c5
                      try clear p6
                      try clear c8
                      try clear c9
                      try clear c11
                      try clear c11b0
                      try clear c11b1
                      try clear c12
                      try clear c12b0
                      try clear c12b1
                      try clear c13
                      try clear c13b0
                      try clear c13b1
                      try clear c14
                      try clear c16
                      try clear c16b0
                      try clear c16b1
                      try clear c16b2
                      try clear c17
                      try clear c17b0
                      try clear c17b1
                      try clear c17b2
                      try clear c22
                      try clear c22b0
                      try clear c22b1
                      try clear c23
                      try clear c23b0
                      try clear c23b1
                      try clear c24
                      try clear c24b0
                      try clear c24b1
                      try clear c25
                      try clear c27
                      try clear c27b0
                      try clear p2
                      try clear p6
                      obtain ⟨kq, x92_25, rfl, HA, HJ25, HB⟩ := hcut
                      cases kq with
                      | zero => exact absurd HA.out (by simp [meterlaw03_FrameBack.j2])
                      | succ kj25 =>
                        have H := HA.out
                        clear HA
                        simp only [meterlaw03_FrameBack.j2] at H
                        have HC28 := Aside0.mk H
                        clear H
                        go_upto_if 92 with (fail)
                        go_cut [] (fun wc => ∃ (kq : Nat), Aside0 (meterlaw03_FrameBack.j3 kq a3 a4 = some r) ∧ Aside0 (kq ≤ kj25) ∧ Aside0 (Below w.heap.size w wc))
                        case first =>
                          have H := HC28.out
                          clear HC28
                          by_cases c29 : x92_25 = true
                          · subst c29
                            have H1 : (if 0 ≤ a5 then (if a5 ≤ (t136.size : Int) then ((frame_Next.f kj25 (t136.extract 0 (a5 : Int).toNat) 0).bind fun bt141 => ((frame_Whole.f kj25 (t136.extract 0 (a5 : Int).toNat)).bind fun bt144 => (if bt141.2.2 = 7 then (if bt144.2 = 7 then (meterlaw03_FrameBack.j3 kj25 a3 a4) else (some false)) else (some false)))) else (none)) else (none)) = some r := by rw [if_pos rfl] at H; exact H
                            clear H
                            have H := H1
                            clear H1
                            by_cases c30 : 0 ≤ a5
                            · rw [if_pos c30] at H
                              have c30b0 := eq_true c30
                              have c30b1 : decide (0 ≤ a5) = true := decide_eq_true c30
                              clear c30
                              by_cases c31 : a5 ≤ (t136.size : Int)
                              · rw [if_pos c31] at H
                                have c31b0 := eq_true c31
                                have c31b1 : decide (a5 ≤ (t136.size : Int)) = true := decide_eq_true c31
                                clear c31
                                replace H := Option.bind_eq_some_iff.mp H
                                obtain ⟨⟨t141, t142, t143⟩, A320, H⟩ := H
                                replace H : ((frame_Whole.f kj25 (t136.extract 0 (a5 : Int).toNat)).bind fun bt144 => (if t143 = 7 then (if bt144.2 = 7 then (meterlaw03_FrameBack.j3 kj25 a3 a4) else (some false)) else (some false))) = some r := H
                                have A32 := Aside0.mk A320
                                clear A320
                                have c33b0 := eq_true (of_decide_eq_true (by first | (with_reducible assumption) | assumption) : 0 ≤ a5)
                                have c34b0 := eq_true (of_decide_eq_true (by first | (with_reducible assumption) | assumption) : a5 ≤ (t136.size : Int))
                                replace H := Option.bind_eq_some_iff.mp H
                                obtain ⟨⟨t144, t145⟩, A350, H⟩ := H
                                replace H : (if t143 = 7 then (if t145 = 7 then (meterlaw03_FrameBack.j3 kj25 a3 a4) else (some false)) else (some false)) = some r := H
                                have A35 := Aside0.mk A350
                                clear A350
                                by_cases c36 : t143 = 7
                                · rw [if_pos c36] at H
                                  have c36b0 : (t143 == 7) = true := beq_iff_eq.mpr c36
                                  have c36b1 : (t143 != 7) = false := bne_eq_false_iff_eq.mpr c36
                                  clear c36
                                  (first | rw [c36b0] | (simp only [i64_w, i32_w]; rw [c36b0]) | skip)
                                  by_cases c37 : t145 = 7
                                  · rw [if_pos c37] at H
                                    have c37b0 : (t145 == 7) = true := beq_iff_eq.mpr c37
                                    have c37b1 : (t145 != 7) = false := bne_eq_false_iff_eq.mpr c37
                                    clear c37
                                    have H' := Aside0.mk H
                                    clear H
                                    go_wp2_with (first | ((with_reducible refine gate_callee (f := 11) rfl ?_); refine goesL_ (some 97) rfl rfl Try.func11 (by kernel_rfl) rfl #[.string (t136.extract 0 (a5 : Int).toNat), .int .i64 0] rfl (by (try simp only [List.map_toArray, List.map_cons, List.map_nil]); first | done | rfl | (simp only [List.length_drop, List.length_take]; rfl)) ?_; (with_reducible refine (frame_Next.calls kj25 (t136.extract 0 (a5 : Int).toNat) 0 t141 t142 t143 _ A32.out).mono ?_); rintro e w38 ⟨rfl, hb⟩; refine ⟨_, rfl, ?_⟩; have n0_ := Aside0.mk (below_step (by repeat (first | (with_reducible first | exact HB.out | apply below_alloc | apply pw_below_drewN | apply below_drew1) | exact HB.out)) hb); clear HB; have HB := n0_; clear n0_; (try clear hb); (try clear hb2); (try clear hk); (try clear hi)) | ((with_reducible refine gate_callee (f := 10) rfl ?_); refine goesL_ (some 105) rfl rfl Try.func10 (by kernel_rfl) rfl #[.string (t136.extract 0 (a5 : Int).toNat)] rfl (by (try simp only [List.map_toArray, List.map_cons, List.map_nil]); first | done | rfl | (simp only [List.length_drop, List.length_take]; rfl)) ?_; (with_reducible refine (frame_Whole.calls kj25 (t136.extract 0 (a5 : Int).toNat) t144 t145 _ A35.out).mono ?_); rintro e w39 ⟨rfl, hb⟩; refine ⟨_, rfl, ?_⟩; have n0_ := Aside0.mk (below_step (by repeat (first | (with_reducible first | exact HB.out | apply below_alloc | apply pw_below_drewN | apply below_drew1) | exact HB.out)) hb); clear HB; have HB := n0_; clear n0_; (try clear hb); (try clear hb2); (try clear hk); (try clear hi)))
                                    go_meet
                                    case rel => exact ⟨_, H', ⟨by have := HJ8.out; have := HJ18.out; have := HJ25.out; first | omega | exact Nat.le_refl _⟩, ⟨by repeat (first | (with_reducible first | exact HB.out | apply below_alloc | apply pw_below_drewN | apply below_drew1) | exact HB.out)⟩⟩
                                  · rw [if_neg c37] at H
                                    have c37b0 : (t145 == 7) = false := beq_eq_false_iff_ne.mpr c37
                                    have c37b1 : (t145 != 7) = true := bne_iff_ne.mpr c37
                                    exact absurd (H.trans (congrArg some HRT.out)) (by simp)
                                · rw [if_neg c36] at H
                                  have c36b0 : (t143 == 7) = false := beq_eq_false_iff_ne.mpr c36
                                  have c36b1 : (t143 != 7) = true := bne_iff_ne.mpr c36
                                  (first | rw [c36b0] | (simp only [i64_w, i32_w]; rw [c36b0]) | skip)
                                  exact absurd (H.trans (congrArg some HRT.out)) (by simp)
                              · rw [if_neg c31] at H
                                exact absurd H (by simp)
                            · rw [if_neg c30] at H
                              exact absurd H (by simp)
                          · replace c29 := Bool.eq_false_iff.mpr c29
                            subst c29
                            have H1 : (meterlaw03_FrameBack.j3 kj25 a3 a4) = some r := by rw [if_neg (show ¬ (false = true) by decide)] at H; exact H
                            clear H
                            have H := H1
                            clear H1
                            have H' := Aside0.mk H
                            clear H
                            go_wp2
                            go_meet
                            case rel => exact ⟨_, H', ⟨by have := HJ8.out; have := HJ18.out; have := HJ25.out; first | omega | exact Nat.le_refl _⟩, ⟨by repeat (first | (with_reducible first | exact HB.out | apply below_alloc | apply pw_below_drewN | apply below_drew1) | exact HB.out)⟩⟩
                        case rest =>
                          clear HC28
                          try clear c1
                          try clear c2
                          try clear p2
                          try clear c3
                          try clear c5
                          try clear p6
                          try clear c8
                          try clear c9
                          try clear c10
                          try clear c11
                          try clear c11b0
                          try clear c11b1
                          try clear c12
                          try clear c12b0
                          try clear c12b1
                          try clear c13
                          try clear c13b0
                          try clear c13b1
                          try clear c14
                          try clear c16
                          try clear c16b0
                          try clear c16b1
                          try clear c16b2
                          try clear c17
                          try clear c17b0
                          try clear c17b1
                          try clear c17b2
                          try clear c22
                          try clear c22b0
                          try clear c22b1
                          try clear c23
                          try clear c23b0
                          try clear c23b1
                          try clear c24
                          try clear c24b0
                          try clear c24b1
                          try clear c25
                          try clear c27
                          try clear c27b0
                          try clear c29
                          try clear c30
                          try clear c30b0
                          try clear c30b1
                          try clear c31
                          try clear c31b0
                          try clear c31b1
                          try clear c33
                          try clear c33b0
                          try clear c34
                          try clear c34b0
                          try clear c36
                          try clear c36b0
                          try clear c36b1
                          try clear c37
                          try clear c37b0
                          try clear c37b1
                          try clear p2
                          try clear p6
                          obtain ⟨kq, HA, HJ27, HB⟩ := hcut
                          cases kq with
                          | zero => exact absurd HA.out (by simp [meterlaw03_FrameBack.j3])
                          | succ kj27 =>
                            have H := HA.out
                            clear HA
                            simp only [meterlaw03_FrameBack.j3] at H
                            replace H := Option.bind_eq_some_iff.mp H
                            obtain ⟨⟨t146, t147, t148⟩, A400, H⟩ := H
                            replace H : (if t148 = 0 then ((frame_Put.f kj27 t146).bind fun bt149 => (if bt149.2 = 0 then (if (wrap64 (t147 - a4)) = (bt149.1.size : Int) then (if 0 ≤ a4 then (if a4 ≤ t147 then (if t147 ≤ (a3.size : Int) then (some ((a3.extract (a4 : Int).toNat (t147 : Int).toNat).toList == bt149.1.toList)) else (none)) else (none)) else (none)) else (some false)) else (some false))) else (if t146.toList = ([] : List UInt8) then (some (t147 == 0)) else (some false))) = some r := H
                            have A40 := Aside0.mk A400
                            clear A400
                            by_cases c41 : t148 = 0
                            · rw [if_pos c41] at H
                              have c41b0 : (t148 == 0) = true := beq_iff_eq.mpr c41
                              have c41b1 : (t148 != 0) = false := bne_eq_false_iff_eq.mpr c41
                              clear c41
                              replace H := Option.bind_eq_some_iff.mp H
                              obtain ⟨⟨t149, t150⟩, A420, H⟩ := H
                              replace H : (if t150 = 0 then (if (wrap64 (t147 - a4)) = (t149.size : Int) then (if 0 ≤ a4 then (if a4 ≤ t147 then (if t147 ≤ (a3.size : Int) then (some ((a3.extract (a4 : Int).toNat (t147 : Int).toNat).toList == t149.toList)) else (none)) else (none)) else (none)) else (some false)) else (some false)) = some r := H
                              have A42 := Aside0.mk A420
                              clear A420
                              by_cases c43 : t150 = 0
                              · rw [if_pos c43] at H
                                have c43b0 : (t150 == 0) = true := beq_iff_eq.mpr c43
                                have c43b1 : (t150 != 0) = false := bne_eq_false_iff_eq.mpr c43
                                clear c43
                                by_cases c44 : (wrap64 (t147 - a4)) = (t149.size : Int)
                                · rw [if_pos c44] at H
                                  have c44b0 : ((wrap64 (t147 - a4)) == (t149.size : Int)) = true := beq_iff_eq.mpr c44
                                  have c44b1 : ((wrap64 (t147 - a4)) != (t149.size : Int)) = false := bne_eq_false_iff_eq.mpr c44
                                  clear c44
                                  by_cases c45 : 0 ≤ a4
                                  · rw [if_pos c45] at H
                                    have c45b0 := eq_true c45
                                    have c45b1 : decide (0 ≤ a4) = true := decide_eq_true c45
                                    clear c45
                                    by_cases c46 : a4 ≤ t147
                                    · rw [if_pos c46] at H
                                      have c46b0 := eq_true c46
                                      have c46b1 : decide (a4 ≤ t147) = true := decide_eq_true c46
                                      clear c46
                                      by_cases c47 : t147 ≤ (a3.size : Int)
                                      · rw [if_pos c47] at H
                                        have c47b0 := eq_true c47
                                        have c47b1 : decide (t147 ≤ (a3.size : Int)) = true := decide_eq_true c47
                                        clear c47
                                        obtain rfl := Option.some.inj H
                                        go_wp2_with (first | ((with_reducible refine gate_callee (f := 11) rfl ?_); refine goesL_ (some 117) rfl rfl Try.func11 (by kernel_rfl) rfl #[.string a3, .int .i64 a4] rfl (by (try simp only [List.map_toArray, List.map_cons, List.map_nil]); first | done | rfl | (simp only [List.length_drop, List.length_take]; rfl)) ?_; (with_reducible refine (frame_Next.calls kj27 a3 a4 t146 t147 t148 _ A40.out).mono ?_); rintro e w48 ⟨rfl, hb⟩; refine ⟨_, rfl, ?_⟩; have n0_ := Aside0.mk (below_step (by repeat (first | (with_reducible first | exact HB.out | apply below_alloc | apply pw_below_drewN | apply below_drew1) | exact HB.out)) hb); clear HB; have HB := n0_; clear n0_; (try clear hb); (try clear hb2); (try clear hk); (try clear hi)) | ((with_reducible refine gate_callee (f := 9) rfl ?_); refine goesL_ (some 131) rfl rfl Try.func9 (by kernel_rfl) rfl #[.string t146] rfl (by (try simp only [List.map_toArray, List.map_cons, List.map_nil]); first | done | rfl | (simp only [List.length_drop, List.length_take]; rfl)) ?_; (with_reducible refine (frame_Put.calls kj27 t146 t149 t150 _ A42.out).mono ?_); rintro e w49 ⟨rfl, hb⟩; refine ⟨_, rfl, ?_⟩; have n0_ := Aside0.mk (below_step (by repeat (first | (with_reducible first | exact HB.out | apply below_alloc | apply pw_below_drewN | apply below_drew1) | exact HB.out)) hb); clear HB; have HB := n0_; clear n0_; (try clear hb); (try clear hb2); (try clear hk); (try clear hi)))
                                        go_ret
                                        exact ⟨by first | rfl | (simp [errW_none, errW_some] <;> rfl) | (simp [*, errW_none, errW_some] <;> rfl), by repeat (first | (with_reducible first | exact HB.out | apply below_alloc | apply pw_below_drewN | apply below_drew1) | exact HB.out)⟩
                                      · rw [if_neg c47] at H
                                        exact absurd H (by simp)
                                    · rw [if_neg c46] at H
                                      exact absurd H (by simp)
                                  · rw [if_neg c45] at H
                                    exact absurd H (by simp)
                                · rw [if_neg c44] at H
                                  have c44b0 : ((wrap64 (t147 - a4)) == (t149.size : Int)) = false := beq_eq_false_iff_ne.mpr c44
                                  have c44b1 : ((wrap64 (t147 - a4)) != (t149.size : Int)) = true := bne_iff_ne.mpr c44
                                  exact absurd (H.trans (congrArg some HRT.out)) (by simp)
                              · rw [if_neg c43] at H
                                have c43b0 : (t150 == 0) = false := beq_eq_false_iff_ne.mpr c43
                                have c43b1 : (t150 != 0) = true := bne_iff_ne.mpr c43
                                exact absurd (H.trans (congrArg some HRT.out)) (by simp)
                            · rw [if_neg c41] at H
                              have c41b0 : (t148 == 0) = false := beq_eq_false_iff_ne.mpr c41
                              have c41b1 : (t148 != 0) = true := bne_iff_ne.mpr c41
                              by_cases c50 : t146.toList = ([] : List UInt8)
                              · rw [if_pos c50] at H
                                have c50b0 : (t146.toList == ([] : List UInt8)) = true := beq_iff_eq.mpr c50
                                have c50b1 : (t146.toList != ([] : List UInt8)) = false := bne_eq_false_iff_eq.mpr c50
                                clear c50
                                obtain rfl := Option.some.inj H
                                go_wp2_with (first | ((with_reducible refine gate_callee (f := 11) rfl ?_); refine goesL_ (some 117) rfl rfl Try.func11 (by kernel_rfl) rfl #[.string a3, .int .i64 a4] rfl (by (try simp only [List.map_toArray, List.map_cons, List.map_nil]); first | done | rfl | (simp only [List.length_drop, List.length_take]; rfl)) ?_; (with_reducible refine (frame_Next.calls kj27 a3 a4 t146 t147 t148 _ A40.out).mono ?_); rintro e w51 ⟨rfl, hb⟩; refine ⟨_, rfl, ?_⟩; have n0_ := Aside0.mk (below_step (by repeat (first | (with_reducible first | exact HB.out | apply below_alloc | apply pw_below_drewN | apply below_drew1) | exact HB.out)) hb); clear HB; have HB := n0_; clear n0_; (try clear hb); (try clear hb2); (try clear hk); (try clear hi)))
                                go_ret
                                exact ⟨by first | rfl | (simp [errW_none, errW_some] <;> rfl) | (simp [*, errW_none, errW_some] <;> rfl), by repeat (first | (with_reducible first | exact HB.out | apply below_alloc | apply pw_below_drewN | apply below_drew1) | exact HB.out)⟩
                              · rw [if_neg c50] at H
                                have c50b0 : (t146.toList == ([] : List UInt8)) = false := beq_eq_false_iff_ne.mpr c50
                                have c50b1 : (t146.toList != ([] : List UInt8)) = true := bne_iff_ne.mpr c50
                                exact absurd (H.trans (congrArg some HRT.out)) (by simp)
            · rw [if_neg c17] at H
              exact absurd H (by simp)
          · rw [if_neg c16] at H
            exact absurd H (by simp)
  · replace c8 := Bool.eq_false_iff.mpr c8
    subst c8
    have H1 : (some false) = some r := by rw [if_neg (show ¬ (false = true) by decide)] at H; exact H
    clear H
    have H := H1
    clear H1
    exact absurd (H.trans (congrArg some HRT.out)) (by simp)

/-- THE ONE PURE STATEMENT of meterlaw03_FrameBack: yours. -/
def meterlaw03_FrameBack.Pure : Prop := ∀ (a0 : ByteArray) (a1 : ByteArray) (a2 : ByteArray) (a3 : ByteArray) (a4 : Int) (a5 : Int), a0.size ≤ 140737488351232 → a1.size ≤ 140737488351232 → a2.size ≤ 140737488351232 → a3.size ≤ 140737488351232 → (Lit.int .i64 a4).wf = true → (Lit.int .i64 a5).wf = true → ∃ k, meterlaw03_FrameBack.f k a0 a1 a2 a3 a4 a5 = some true
theorem meterlaw03_FrameBack.walk (P : meterlaw03_FrameBack.Pure) (a0 : ByteArray) (a1 : ByteArray) (a2 : ByteArray) (a3 : ByteArray) (a4 : Int) (a5 : Int) (w : World) (w0 : a0.size ≤ 140737488351232) (w1 : a1.size ≤ 140737488351232) (w2 : a2.size ≤ 140737488351232) (w3 : a3.size ≤ 140737488351232) (w4 : (Lit.int .i64 a4).wf = true) (w5 : (Lit.int .i64 a5).wf = true) :
    Calls Try.prog 5 #[.string a0, .string a1, .string a2, .string a3, .int .i64 a4, .int .i64 a5] w fun e w' => e = .returned (.bool true) ∧ Below w.heap.size w w' := by
  obtain ⟨k, h⟩ := P a0 a1 a2 a3 a4 a5 w0 w1 w2 w3 w4 w5
  refine (meterlaw03_FrameBack.calls k a0 a1 a2 a3 a4 a5 true w h rfl).mono ?_
  rintro e w' ⟨rfl, hd⟩
  exact ⟨rfl, hd⟩

end Go.Proofs.Ytpfipeopacjkjaa.PFrameBack
