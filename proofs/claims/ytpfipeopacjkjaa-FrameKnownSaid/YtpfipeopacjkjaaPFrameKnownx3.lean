-- Written by a program of this session's (wip/gprint.py): the kit's print, with functions given by hand.
import Derived.Test.YtpfipeopacjkjaaPFrameKnownx0
import Derived.Test.YtpfipeopacjkjaaPFrameKnownx1
import Derived.Test.YtpfipeopacjkjaaPFrameKnownx2
namespace Go.Proofs.Ytpfipeopacjkjaa.PFrameKnown
open Go.RowKit Go.Proofs.YtpfipeopacjkjaaW.PrintWords Go.Proofs.YtpfipeopacjkjaaW.PrintLast Go.Proofs.YtpfipeopacjkjaaW.PrintMore
attribute [local go_sem] max2_int min2_int max_two min_two max_three min_three max_four min_four   -- for this text's walks alone
set_option linter.unusedVariables false
set_option linter.unusedSimpArgs false

/-! ### frame_Whole: function 10 -/
def frame_Whole.f (k : Nat) (a0 : ByteArray) : Option (ByteArray × Int) := (frame_Next.f k a0 0).bind fun bt128 => (if bt128.2.2 = 0 then (if bt128.2.1 = (a0.size : Int) then (some (bt128.1, bt128.2.2)) else (some ((⟨#[]⟩ : ByteArray), 8))) else (some (bt128.1, bt128.2.2)))
theorem frame_Whole.mono : ∀ a0 k, LeO (frame_Whole.f k a0) (frame_Whole.f (k + 1) a0) := by
  intro a0 k
  unfold frame_Whole.f
  repeat' first
      | (with_reducible exact frame_Next.mono _ _ _)
      | (with_reducible exact LeO.refl _)
      | (with_reducible exact LeO.none _)
      | (with_reducible refine LeO.ite ?_ ?_)
      | (with_reducible refine LeO.bind ?_ (fun _ => ?_))
      | exact frame_Next.mono _ _ _
      | exact LeO.none _
      | refine LeO.ite ?_ ?_
      | refine LeO.bind ?_ (fun _ => ?_)
set_option maxHeartbeats 8000000 in
set_option maxRecDepth 100000 in
theorem frame_Whole.calls (k : Nat) (a0 : ByteArray) (r1 : ByteArray) (r2 : Int) (w : World) (h : frame_Whole.f k a0 = some (r1, r2)) :
    Calls Try.prog 10 #[.string a0] w fun e w' => e = .returned (.tuple #[.string r1, .int .i64 r2]) ∧ Below w.heap.size w w' := by
  have HB := Aside0.mk (Below.refl w.heap.size w)
  have H : ((frame_Next.f k a0 0).bind fun bt128 => (if bt128.2.2 = 0 then (if bt128.2.1 = (a0.size : Int) then (some (bt128.1, bt128.2.2)) else (some ((⟨#[]⟩ : ByteArray), 8))) else (some (bt128.1, bt128.2.2)))) = some (r1, r2) := h
  clear h
  replace H := Option.bind_eq_some_iff.mp H
  obtain ⟨⟨t128, t129, t130⟩, A20, H⟩ := H
  replace H : (if t130 = 0 then (if t129 = (a0.size : Int) then (some (t128, t130)) else (some ((⟨#[]⟩ : ByteArray), 8))) else (some (t128, t130))) = some (r1, r2) := H
  have A2 := Aside0.mk A20
  clear A20
  by_cases c3 : t130 = 0
  · rw [if_pos c3] at H
    have c3b0 : (t130 == 0) = true := beq_iff_eq.mpr c3
    have c3b1 : (t130 != 0) = false := bne_eq_false_iff_eq.mpr c3
    clear c3
    by_cases c4 : t129 = (a0.size : Int)
    · rw [if_pos c4] at H
      have c4b0 : (t129 == (a0.size : Int)) = true := beq_iff_eq.mpr c4
      have c4b1 : (t129 != (a0.size : Int)) = false := bne_eq_false_iff_eq.mpr c4
      clear c4
      simp only [Option.some.injEq, Prod.mk.injEq] at H
      obtain ⟨rfl, rfl⟩ := H
      go_enter Try.func10, Try.ntmps10
      go_wp2_with (first | ((with_reducible refine gate_callee (f := 11) rfl ?_); refine goesL_ (some 9) rfl rfl Try.func11 (by kernel_rfl) rfl #[.string a0, .int .i64 0] rfl (by (try simp only [List.map_toArray, List.map_cons, List.map_nil]); first | done | rfl | (simp only [List.length_drop, List.length_take]; rfl)) ?_; (with_reducible refine (frame_Next.calls k a0 0 t128 t129 t130 _ A2.out).mono ?_); rintro e w5 ⟨rfl, hb⟩; refine ⟨_, rfl, ?_⟩; have n0_ := Aside0.mk (below_step (by repeat (first | (with_reducible first | exact HB.out | apply below_alloc | apply pw_below_drewN | apply below_drew1) | exact HB.out)) hb); clear HB; have HB := n0_; clear n0_; (try clear hb); (try clear hb2); (try clear hk); (try clear hi)))
      go_ret2
      exact ⟨by first | rfl | (simp [errW_none, errW_some] <;> rfl) | (simp [*, errW_none, errW_some] <;> rfl), by repeat (first | (with_reducible first | exact HB.out | apply below_alloc | apply pw_below_drewN | apply below_drew1) | exact HB.out)⟩
    · rw [if_neg c4] at H
      have c4b0 : (t129 == (a0.size : Int)) = false := beq_eq_false_iff_ne.mpr c4
      have c4b1 : (t129 != (a0.size : Int)) = true := bne_iff_ne.mpr c4
      simp only [Option.some.injEq, Prod.mk.injEq] at H
      obtain ⟨rfl, rfl⟩ := H
      go_enter Try.func10, Try.ntmps10
      go_wp2_with (first | ((with_reducible refine gate_callee (f := 11) rfl ?_); refine goesL_ (some 9) rfl rfl Try.func11 (by kernel_rfl) rfl #[.string a0, .int .i64 0] rfl (by (try simp only [List.map_toArray, List.map_cons, List.map_nil]); first | done | rfl | (simp only [List.length_drop, List.length_take]; rfl)) ?_; (with_reducible refine (frame_Next.calls k a0 0 t128 t129 t130 _ A2.out).mono ?_); rintro e w6 ⟨rfl, hb⟩; refine ⟨_, rfl, ?_⟩; have n0_ := Aside0.mk (below_step (by repeat (first | (with_reducible first | exact HB.out | apply below_alloc | apply pw_below_drewN | apply below_drew1) | exact HB.out)) hb); clear HB; have HB := n0_; clear n0_; (try clear hb); (try clear hb2); (try clear hk); (try clear hi)))
      go_ret2
      exact ⟨by first | rfl | (simp [errW_none, errW_some] <;> rfl) | (simp [*, errW_none, errW_some] <;> rfl), by repeat (first | (with_reducible first | exact HB.out | apply below_alloc | apply pw_below_drewN | apply below_drew1) | exact HB.out)⟩
  · rw [if_neg c3] at H
    have c3b0 : (t130 == 0) = false := beq_eq_false_iff_ne.mpr c3
    have c3b1 : (t130 != 0) = true := bne_iff_ne.mpr c3
    simp only [Option.some.injEq, Prod.mk.injEq] at H
    obtain ⟨rfl, rfl⟩ := H
    go_enter Try.func10, Try.ntmps10
    go_wp2_with (first | ((with_reducible refine gate_callee (f := 11) rfl ?_); refine goesL_ (some 9) rfl rfl Try.func11 (by kernel_rfl) rfl #[.string a0, .int .i64 0] rfl (by (try simp only [List.map_toArray, List.map_cons, List.map_nil]); first | done | rfl | (simp only [List.length_drop, List.length_take]; rfl)) ?_; (with_reducible refine (frame_Next.calls k a0 0 t128 t129 t130 _ A2.out).mono ?_); rintro e w7 ⟨rfl, hb⟩; refine ⟨_, rfl, ?_⟩; have n0_ := Aside0.mk (below_step (by repeat (first | (with_reducible first | exact HB.out | apply below_alloc | apply pw_below_drewN | apply below_drew1) | exact HB.out)) hb); clear HB; have HB := n0_; clear n0_; (try clear hb); (try clear hb2); (try clear hk); (try clear hi)))
    go_ret2
    exact ⟨by first | rfl | (simp [errW_none, errW_some] <;> rfl) | (simp [*, errW_none, errW_some] <;> rfl), by repeat (first | (with_reducible first | exact HB.out | apply below_alloc | apply pw_below_drewN | apply below_drew1) | exact HB.out)⟩

/-! ### meterref01_More: function 19 -/
mutual
def meterref01_More.l0 : Nat → ByteArray → Int → Int → Option (Int)
  | 0, _, _, _ => none
  | k + 1, x1, x5, x6 => if x6 < (x1.size : Int) then (if 0 ≤ x6 then (meterref01_More.l1 k x1 (Go.bits .xor .u32 x5 ((bt x1 x6) % 4294967296)) x6 0) else (none)) else (some (Go.bits .xor .u32 x5 4294967295))
def meterref01_More.l1 : Nat → ByteArray → Int → Int → Int → Option (Int)
  | 0, _, _, _, _ => none
  | k + 1, x1, x5, x6, x7 => if x7 < 8 then (if (Int.tmod x5 2) = 1 then (meterref01_More.l1 k x1 (Go.bits .xor .u32 ((Int.tdiv x5 2) % 4294967296) 2197175160) x6 (wrap64 (x7 + 1))) else (meterref01_More.l1 k x1 ((Int.tdiv x5 2) % 4294967296) x6 (wrap64 (x7 + 1)))) else (meterref01_More.l0 k x1 x5 (wrap64 (x6 + 1)))
end
def meterref01_More.f (k : Nat) (a0 : Int) (a1 : ByteArray) : Option (Int) := meterref01_More.l0 k a1 (Go.bits .xor .u32 a0 4294967295) 0
theorem meterref01_More.mono_l : ∀ k, (∀ y0 y1 y2, LeO (meterref01_More.l0 k y0 y1 y2) (meterref01_More.l0 (k + 1) y0 y1 y2)) ∧ (∀ y0 y1 y2 y3, LeO (meterref01_More.l1 k y0 y1 y2 y3) (meterref01_More.l1 (k + 1) y0 y1 y2 y3))
  | 0 => ⟨fun _ _ _ r h => by simp [meterref01_More.l0] at h, fun _ _ _ _ r h => by simp [meterref01_More.l1] at h⟩
  | k + 1 => by
    obtain ⟨ih0, ih1⟩ := meterref01_More.mono_l k
    refine ⟨?_, ?_⟩
    · intro y0 y1 y2
      unfold meterref01_More.l0
      repeat' first
      | (with_reducible exact ih0 _ _ _)
      | (with_reducible exact ih1 _ _ _ _)
      | (with_reducible exact LeO.refl _)
      | (with_reducible exact LeO.none _)
      | (with_reducible refine LeO.ite ?_ ?_)
      | (with_reducible refine LeO.bind ?_ (fun _ => ?_))
      | exact ih0 _ _ _
      | exact ih1 _ _ _ _
      | exact LeO.none _
      | refine LeO.ite ?_ ?_
      | refine LeO.bind ?_ (fun _ => ?_)
    · intro y0 y1 y2 y3
      unfold meterref01_More.l1
      repeat' first
      | (with_reducible exact ih0 _ _ _)
      | (with_reducible exact ih1 _ _ _ _)
      | (with_reducible exact LeO.refl _)
      | (with_reducible exact LeO.none _)
      | (with_reducible refine LeO.ite ?_ ?_)
      | (with_reducible refine LeO.bind ?_ (fun _ => ?_))
      | exact ih0 _ _ _
      | exact ih1 _ _ _ _
      | exact LeO.none _
      | refine LeO.ite ?_ ?_
      | refine LeO.bind ?_ (fun _ => ?_)
theorem meterref01_More.mono : ∀ a0 a1 k, LeO (meterref01_More.f k a0 a1) (meterref01_More.f (k + 1) a0 a1) := by
  intro a0 a1 k
  obtain ⟨ih0, ih1⟩ := meterref01_More.mono_l k
  unfold meterref01_More.f
  repeat' first
      | (with_reducible exact ih0 _ _ _)
      | (with_reducible exact ih1 _ _ _ _)
      | (with_reducible exact LeO.refl _)
      | (with_reducible exact LeO.none _)
      | (with_reducible refine LeO.ite ?_ ?_)
      | (with_reducible refine LeO.bind ?_ (fun _ => ?_))
      | exact ih0 _ _ _
      | exact ih1 _ _ _ _
      | exact LeO.none _
      | refine LeO.ite ?_ ?_
      | refine LeO.bind ?_ (fun _ => ?_)
set_option maxHeartbeats 8000000 in
set_option maxRecDepth 100000 in
theorem meterref01_More.calls (k : Nat) (a0 : Int) (a1 : ByteArray) (r : Int) (w : World) (h : meterref01_More.f k a0 a1 = some r) :
    Calls Try.prog 19 #[.int .u32 a0, .string a1] w fun e w' => e = .returned (.int .u32 r) ∧ Drawn0 w w' := by
  have H : (meterref01_More.l0 k a1 (Go.bits .xor .u32 a0 4294967295) 0) = some r := h
  clear h
  have H' := Aside0.mk H
  clear H
  go_enter Try.func19, Try.ntmps19
  go_wp2
  go_loopg [5, 6] k (fun kq v5 v6 w' => ∃ (x5_1 : Int) (x6_1 : Int), v5 = .int .u32 x5_1 ∧ v6 = .int .i64 x6_1 ∧ Aside0 (meterref01_More.l0 kq a1 x5_1 x6_1 = some r) ∧ Aside0 (kq ≤ k) ∧ Drawn0 w w')
  case atStart => exact ⟨(Go.bits .xor .u32 a0 4294967295), (0), (by first | rfl | (simp; done) | (simp [*]; done) | (congr 1; simp only [eq_iff_iff, iff_true, ByteArray.size_append] at *; unfold wrap64; omega) | (congr 2; simp only [eq_iff_iff, iff_true, ByteArray.size_append] at *; unfold wrap64; omega)), (by first | rfl | (simp; done) | (simp [*]; done) | (congr 1; simp only [eq_iff_iff, iff_true, ByteArray.size_append] at *; unfold wrap64; omega) | (congr 2; simp only [eq_iff_iff, iff_true, ByteArray.size_append] at *; unfold wrap64; omega)), H', ⟨Nat.le_refl _⟩, by repeat (first | exact Drawn0.refl _ | apply Drawn0.step)⟩
  case round =>
    clear H'
    try clear c1
    try clear p2
    obtain ⟨x5_1, x6_1, rfl, rfl, HA, HK1, ⟨m1, rfl⟩⟩ := hrel
    cases gk with
    | zero => exact absurd HA.out (by simp [meterref01_More.l0])
    | succ k1 =>
      have H := HA.out
      clear HA
      simp only [meterref01_More.l0] at H
      by_cases c3 : x6_1 < (a1.size : Int)
      · rw [if_pos c3] at H
        have c3b0 : decide (x6_1 < (a1.size : Int)) = true := decide_eq_true c3
        clear c3
        by_cases c4 : 0 ≤ x6_1
        · rw [if_pos c4] at H
          have c4b0 : decide (0 ≤ x6_1) = true := decide_eq_true c4
          clear c4
          have H' := Aside0.mk H
          clear H
          have p5 : 0 ≤ (x6_1 : Int) := of_decide_eq_true (by first | (with_reducible assumption) | assumption)
          have q5 : x6_1 < (a1.size : Int) := of_decide_eq_true (by first | (with_reducible assumption) | assumption)
          have hx5 := bt_at a1 x6_1
          replace p5 := eq_true p5
          replace q5 := eq_true q5
          go_wp2
          go_loopg [5, 7] k1 (fun kq v5 v7 w' => ∃ (x5_2 : Int) (x7_2 : Int), v5 = .int .u32 x5_2 ∧ v7 = .int .i64 x7_2 ∧ Aside0 (meterref01_More.l1 kq a1 x5_2 x6_1 x7_2 = some r) ∧ Aside0 (kq ≤ k1) ∧ Drawn0 w w')
          case atStart => exact ⟨(Go.bits .xor .u32 x5_1 ((bt a1 x6_1) % 4294967296)), (0), (by first | rfl | (simp; done) | (simp [*]; done) | (congr 1; simp only [eq_iff_iff, iff_true, ByteArray.size_append] at *; unfold wrap64; omega) | (congr 2; simp only [eq_iff_iff, iff_true, ByteArray.size_append] at *; unfold wrap64; omega)), (by first | rfl | (simp; done) | (simp [*]; done) | (congr 1; simp only [eq_iff_iff, iff_true, ByteArray.size_append] at *; unfold wrap64; omega) | (congr 2; simp only [eq_iff_iff, iff_true, ByteArray.size_append] at *; unfold wrap64; omega)), H', ⟨Nat.le_refl _⟩, by repeat (first | exact Drawn0.refl _ | apply Drawn0.step)⟩
          case round =>
            clear H'
            try clear c1
            try clear p2
            try clear c3
            try clear c3b0
            try clear c4
            try clear c4b0
            try clear p5
            try clear q5
            try clear hx5
            try clear p2
            try clear p5
            try clear q5
            obtain ⟨x5_2, x7_2, rfl, rfl, HA, HK2, ⟨m2, rfl⟩⟩ := hrel
            cases gk with
            | zero => exact absurd HA.out (by simp [meterref01_More.l1])
            | succ k2 =>
              have H := HA.out
              clear HA
              simp only [meterref01_More.l1] at H
              by_cases c6 : x7_2 < 8
              · rw [if_pos c6] at H
                have c6b0 : decide (x7_2 < 8) = true := decide_eq_true c6
                clear c6
                by_cases c7 : (Int.tmod x5_2 2) = 1
                · rw [if_pos c7] at H
                  have c7b0 : ((Int.tmod x5_2 2) == 1) = true := beq_iff_eq.mpr c7
                  have c7b1 : ((Int.tmod x5_2 2) != 1) = false := bne_eq_false_iff_eq.mpr c7
                  clear c7
                  have H' := Aside0.mk H
                  clear H
                  go_wp2
                  go_roundg k2
                  case measure => have := HK1.out; have := HK2.out; omega
                  case rel => exact ⟨(Go.bits .xor .u32 ((Int.tdiv x5_2 2) % 4294967296) 2197175160), (wrap64 (x7_2 + 1)), (by first | rfl | (simp; done) | (simp [*]; done) | (congr 1; simp only [eq_iff_iff, iff_true, ByteArray.size_append] at *; unfold wrap64; omega) | (congr 2; simp only [eq_iff_iff, iff_true, ByteArray.size_append] at *; unfold wrap64; omega)), (by first | rfl | (simp; done) | (simp [*]; done) | (congr 1; simp only [eq_iff_iff, iff_true, ByteArray.size_append] at *; unfold wrap64; omega) | (congr 2; simp only [eq_iff_iff, iff_true, ByteArray.size_append] at *; unfold wrap64; omega)), H', ⟨by have := HK1.out; have := HK2.out; omega⟩, by repeat (first | exact Drawn0.refl _ | apply Drawn0.step)⟩
                · rw [if_neg c7] at H
                  have c7b0 : ((Int.tmod x5_2 2) == 1) = false := beq_eq_false_iff_ne.mpr c7
                  have c7b1 : ((Int.tmod x5_2 2) != 1) = true := bne_iff_ne.mpr c7
                  have H' := Aside0.mk H
                  clear H
                  go_wp2
                  go_roundg k2
                  case measure => have := HK1.out; have := HK2.out; omega
                  case rel => exact ⟨((Int.tdiv x5_2 2) % 4294967296), (wrap64 (x7_2 + 1)), (by first | rfl | (simp; done) | (simp [*]; done) | (congr 1; simp only [eq_iff_iff, iff_true, ByteArray.size_append] at *; unfold wrap64; omega) | (congr 2; simp only [eq_iff_iff, iff_true, ByteArray.size_append] at *; unfold wrap64; omega)), (by first | rfl | (simp; done) | (simp [*]; done) | (congr 1; simp only [eq_iff_iff, iff_true, ByteArray.size_append] at *; unfold wrap64; omega) | (congr 2; simp only [eq_iff_iff, iff_true, ByteArray.size_append] at *; unfold wrap64; omega)), H', ⟨by have := HK1.out; have := HK2.out; omega⟩, by repeat (first | exact Drawn0.refl _ | apply Drawn0.step)⟩
              · rw [if_neg c6] at H
                have c6b0 : decide (x7_2 < 8) = false := decide_eq_false c6
                clear c6
                have H' := Aside0.mk H
                clear H
                go_wp2
                go_roundg k2
                case measure => have := HK1.out; have := HK2.out; omega
                case rel => exact ⟨(x5_2), (wrap64 (x6_1 + 1)), (by first | rfl | (simp; done) | (simp [*]; done) | (congr 1; simp only [eq_iff_iff, iff_true, ByteArray.size_append] at *; unfold wrap64; omega) | (congr 2; simp only [eq_iff_iff, iff_true, ByteArray.size_append] at *; unfold wrap64; omega)), (by first | rfl | (simp; done) | (simp [*]; done) | (congr 1; simp only [eq_iff_iff, iff_true, ByteArray.size_append] at *; unfold wrap64; omega) | (congr 2; simp only [eq_iff_iff, iff_true, ByteArray.size_append] at *; unfold wrap64; omega)), H', ⟨by have := HK1.out; have := HK2.out; omega⟩, by repeat (first | exact Drawn0.refl _ | apply Drawn0.step)⟩
        · rw [if_neg c4] at H
          exact absurd H (by simp)
      · rw [if_neg c3] at H
        have c3b0 : decide (x6_1 < (a1.size : Int)) = false := decide_eq_false c3
        clear c3
        obtain rfl := Option.some.inj H
        go_wp2
        go_ret
        exact ⟨by first | rfl | (simp; done) | (simp [*]; done) | (congr 1; simp only [eq_iff_iff, iff_true, ByteArray.size_append] at *; unfold wrap64; omega) | (congr 2; simp only [eq_iff_iff, iff_true, ByteArray.size_append] at *; unfold wrap64; omega), by repeat (first | exact Drawn0.refl _ | apply Drawn0.step)⟩

/-! ### meterref01_Crc: function 12 -/
def meterref01_Crc.f (k : Nat) (a0 : ByteArray) : Option (Int) := (meterref01_More.f k 0 a0).bind fun t131 => (some t131)
theorem meterref01_Crc.mono : ∀ a0 k, LeO (meterref01_Crc.f k a0) (meterref01_Crc.f (k + 1) a0) := by
  intro a0 k
  unfold meterref01_Crc.f
  repeat' first
      | (with_reducible exact meterref01_More.mono _ _ _)
      | (with_reducible exact LeO.refl _)
      | (with_reducible exact LeO.none _)
      | (with_reducible refine LeO.ite ?_ ?_)
      | (with_reducible refine LeO.bind ?_ (fun _ => ?_))
      | exact meterref01_More.mono _ _ _
      | exact LeO.none _
      | refine LeO.ite ?_ ?_
      | refine LeO.bind ?_ (fun _ => ?_)
set_option maxHeartbeats 8000000 in
set_option maxRecDepth 100000 in
theorem meterref01_Crc.calls (k : Nat) (a0 : ByteArray) (r : Int) (w : World) (h : meterref01_Crc.f k a0 = some r) :
    Calls Try.prog 12 #[.string a0] w fun e w' => e = .returned (.int .u32 r) ∧ Drawn0 w w' := by
  have H : ((meterref01_More.f k 0 a0).bind fun t131 => (some t131)) = some r := h
  clear h
  replace H := Option.bind_eq_some_iff.mp H
  obtain ⟨t131, A20, H⟩ := H
  replace H : (some t131) = some r := H
  have A2 := Aside0.mk A20
  clear A20
  obtain rfl := Option.some.inj H
  go_enter Try.func12, Try.ntmps12
  go_wp2_with (first | ((with_reducible refine gate_callee (f := 19) rfl ?_); refine goesL_ (some 4) rfl rfl Try.func19 (by kernel_rfl) rfl #[.int .u32 0, .string a0] rfl (by (try simp only [List.map_toArray, List.map_cons, List.map_nil]); first | done | rfl | (simp only [List.length_drop, List.length_take]; rfl)) ?_; (with_reducible refine (meterref01_More.calls k 0 a0 t131 _ A2.out).mono ?_); rintro e w' ⟨rfl, ⟨nd, rfl⟩⟩; refine ⟨_, rfl, ?_⟩))
  go_ret
  exact ⟨by first | rfl | (simp; done) | (simp [*]; done) | (congr 1; simp only [eq_iff_iff, iff_true, ByteArray.size_append] at *; unfold wrap64; omega) | (congr 2; simp only [eq_iff_iff, iff_true, ByteArray.size_append] at *; unfold wrap64; omega), by repeat (first | exact Drawn0.refl _ | apply Drawn0.step)⟩

/-! ### meterlaw03_awake: function 13 -/
def meterlaw03_awake.f (k : Nat)  : Option (Bool) := (frame_Put.f k (⟨#[97, 98]⟩ : ByteArray)).bind fun bt132 => ((frame_Whole.f k bt132.1).bind fun bt134 => (if bt132.2 = 0 then (if bt134.2 = 0 then (if bt134.1.toList = ([97, 98] : List UInt8) then (some ((bt132.1.size : Int) == 14)) else (some false)) else (some false)) else (some false)))
theorem meterlaw03_awake.mono : ∀ k, LeO (meterlaw03_awake.f k ) (meterlaw03_awake.f (k + 1) ) := by
  intro  k
  unfold meterlaw03_awake.f
  repeat' first
      | (with_reducible exact frame_Put.mono _ _)
      | (with_reducible exact frame_Whole.mono _ _)
      | (with_reducible exact LeO.refl _)
      | (with_reducible exact LeO.none _)
      | (with_reducible refine LeO.ite ?_ ?_)
      | (with_reducible refine LeO.bind ?_ (fun _ => ?_))
      | exact frame_Put.mono _ _
      | exact frame_Whole.mono _ _
      | exact LeO.none _
      | refine LeO.ite ?_ ?_
      | refine LeO.bind ?_ (fun _ => ?_)
set_option maxHeartbeats 8000000 in
set_option maxRecDepth 100000 in
theorem meterlaw03_awake.calls (k : Nat)  (r : Bool) (w : World) (h : meterlaw03_awake.f k  = some r) :
    Calls Try.prog 13 #[] w fun e w' => e = .returned (.bool r) ∧ Below w.heap.size w w' := by
  have HB := Aside0.mk (Below.refl w.heap.size w)
  have H : ((frame_Put.f k (⟨#[97, 98]⟩ : ByteArray)).bind fun bt132 => ((frame_Whole.f k bt132.1).bind fun bt134 => (if bt132.2 = 0 then (if bt134.2 = 0 then (if bt134.1.toList = ([97, 98] : List UInt8) then (some ((bt132.1.size : Int) == 14)) else (some false)) else (some false)) else (some false)))) = some r := h
  clear h
  replace H := Option.bind_eq_some_iff.mp H
  obtain ⟨⟨t132, t133⟩, A10, H⟩ := H
  replace H : ((frame_Whole.f k t132).bind fun bt134 => (if t133 = 0 then (if bt134.2 = 0 then (if bt134.1.toList = ([97, 98] : List UInt8) then (some ((t132.size : Int) == 14)) else (some false)) else (some false)) else (some false))) = some r := H
  have A1 := Aside0.mk A10
  clear A10
  replace H := Option.bind_eq_some_iff.mp H
  obtain ⟨⟨t134, t135⟩, A20, H⟩ := H
  replace H : (if t133 = 0 then (if t135 = 0 then (if t134.toList = ([97, 98] : List UInt8) then (some ((t132.size : Int) == 14)) else (some false)) else (some false)) else (some false)) = some r := H
  have A2 := Aside0.mk A20
  clear A20
  by_cases c3 : t133 = 0
  · rw [if_pos c3] at H
    have c3b0 : (t133 == 0) = true := beq_iff_eq.mpr c3
    have c3b1 : (t133 != 0) = false := bne_eq_false_iff_eq.mpr c3
    clear c3
    by_cases c4 : t135 = 0
    · rw [if_pos c4] at H
      have c4b0 : (t135 == 0) = true := beq_iff_eq.mpr c4
      have c4b1 : (t135 != 0) = false := bne_eq_false_iff_eq.mpr c4
      clear c4
      by_cases c5 : t134.toList = ([97, 98] : List UInt8)
      · rw [if_pos c5] at H
        have c5b0 : (t134.toList == ([97, 98] : List UInt8)) = true := beq_iff_eq.mpr c5
        have c5b1 : (t134.toList != ([97, 98] : List UInt8)) = false := bne_eq_false_iff_eq.mpr c5
        clear c5
        obtain rfl := Option.some.inj H
        go_enter Try.func13, Try.ntmps13
        go_wp2_with (first | ((with_reducible refine gate_callee (f := 9) rfl ?_); refine goesL_ (some 6) rfl rfl Try.func9 (by kernel_rfl) rfl #[.string (⟨#[97, 98]⟩ : ByteArray)] rfl (by (try simp only [List.map_toArray, List.map_cons, List.map_nil]); first | done | rfl | (simp only [List.length_drop, List.length_take]; rfl)) ?_; (with_reducible refine (frame_Put.calls k (⟨#[97, 98]⟩ : ByteArray) t132 t133 _ A1.out).mono ?_); rintro e w6 ⟨rfl, hb⟩; refine ⟨_, rfl, ?_⟩; have n0_ := Aside0.mk (below_step (by repeat (first | (with_reducible first | exact HB.out | apply below_alloc | apply pw_below_drewN | apply below_drew1) | exact HB.out)) hb); clear HB; have HB := n0_; clear n0_; (try clear hb); (try clear hb2); (try clear hk); (try clear hi)) | ((with_reducible refine gate_callee (f := 10) rfl ?_); refine goesL_ (some 11) rfl rfl Try.func10 (by kernel_rfl) rfl #[.string t132] rfl (by (try simp only [List.map_toArray, List.map_cons, List.map_nil]); first | done | rfl | (simp only [List.length_drop, List.length_take]; rfl)) ?_; (with_reducible refine (frame_Whole.calls k t132 t134 t135 _ A2.out).mono ?_); rintro e w7 ⟨rfl, hb⟩; refine ⟨_, rfl, ?_⟩; have n0_ := Aside0.mk (below_step (by repeat (first | (with_reducible first | exact HB.out | apply below_alloc | apply pw_below_drewN | apply below_drew1) | exact HB.out)) hb); clear HB; have HB := n0_; clear n0_; (try clear hb); (try clear hb2); (try clear hk); (try clear hi)))
        go_ret
        exact ⟨by first | rfl | (simp [errW_none, errW_some] <;> rfl) | (simp [*, errW_none, errW_some] <;> rfl), by repeat (first | (with_reducible first | exact HB.out | apply below_alloc | apply pw_below_drewN | apply below_drew1) | exact HB.out)⟩
      · rw [if_neg c5] at H
        have c5b0 : (t134.toList == ([97, 98] : List UInt8)) = false := beq_eq_false_iff_ne.mpr c5
        have c5b1 : (t134.toList != ([97, 98] : List UInt8)) = true := bne_iff_ne.mpr c5
        obtain rfl := Option.some.inj H
        go_enter Try.func13, Try.ntmps13
        go_wp2_with (first | ((with_reducible refine gate_callee (f := 9) rfl ?_); refine goesL_ (some 6) rfl rfl Try.func9 (by kernel_rfl) rfl #[.string (⟨#[97, 98]⟩ : ByteArray)] rfl (by (try simp only [List.map_toArray, List.map_cons, List.map_nil]); first | done | rfl | (simp only [List.length_drop, List.length_take]; rfl)) ?_; (with_reducible refine (frame_Put.calls k (⟨#[97, 98]⟩ : ByteArray) t132 t133 _ A1.out).mono ?_); rintro e w8 ⟨rfl, hb⟩; refine ⟨_, rfl, ?_⟩; have n0_ := Aside0.mk (below_step (by repeat (first | (with_reducible first | exact HB.out | apply below_alloc | apply pw_below_drewN | apply below_drew1) | exact HB.out)) hb); clear HB; have HB := n0_; clear n0_; (try clear hb); (try clear hb2); (try clear hk); (try clear hi)) | ((with_reducible refine gate_callee (f := 10) rfl ?_); refine goesL_ (some 11) rfl rfl Try.func10 (by kernel_rfl) rfl #[.string t132] rfl (by (try simp only [List.map_toArray, List.map_cons, List.map_nil]); first | done | rfl | (simp only [List.length_drop, List.length_take]; rfl)) ?_; (with_reducible refine (frame_Whole.calls k t132 t134 t135 _ A2.out).mono ?_); rintro e w9 ⟨rfl, hb⟩; refine ⟨_, rfl, ?_⟩; have n0_ := Aside0.mk (below_step (by repeat (first | (with_reducible first | exact HB.out | apply below_alloc | apply pw_below_drewN | apply below_drew1) | exact HB.out)) hb); clear HB; have HB := n0_; clear n0_; (try clear hb); (try clear hb2); (try clear hk); (try clear hi)))
        go_ret
        exact ⟨by first | rfl | (simp [errW_none, errW_some] <;> rfl) | (simp [*, errW_none, errW_some] <;> rfl), by repeat (first | (with_reducible first | exact HB.out | apply below_alloc | apply pw_below_drewN | apply below_drew1) | exact HB.out)⟩
    · rw [if_neg c4] at H
      have c4b0 : (t135 == 0) = false := beq_eq_false_iff_ne.mpr c4
      have c4b1 : (t135 != 0) = true := bne_iff_ne.mpr c4
      obtain rfl := Option.some.inj H
      go_enter Try.func13, Try.ntmps13
      go_wp2_with (first | ((with_reducible refine gate_callee (f := 9) rfl ?_); refine goesL_ (some 6) rfl rfl Try.func9 (by kernel_rfl) rfl #[.string (⟨#[97, 98]⟩ : ByteArray)] rfl (by (try simp only [List.map_toArray, List.map_cons, List.map_nil]); first | done | rfl | (simp only [List.length_drop, List.length_take]; rfl)) ?_; (with_reducible refine (frame_Put.calls k (⟨#[97, 98]⟩ : ByteArray) t132 t133 _ A1.out).mono ?_); rintro e w10 ⟨rfl, hb⟩; refine ⟨_, rfl, ?_⟩; have n0_ := Aside0.mk (below_step (by repeat (first | (with_reducible first | exact HB.out | apply below_alloc | apply pw_below_drewN | apply below_drew1) | exact HB.out)) hb); clear HB; have HB := n0_; clear n0_; (try clear hb); (try clear hb2); (try clear hk); (try clear hi)) | ((with_reducible refine gate_callee (f := 10) rfl ?_); refine goesL_ (some 11) rfl rfl Try.func10 (by kernel_rfl) rfl #[.string t132] rfl (by (try simp only [List.map_toArray, List.map_cons, List.map_nil]); first | done | rfl | (simp only [List.length_drop, List.length_take]; rfl)) ?_; (with_reducible refine (frame_Whole.calls k t132 t134 t135 _ A2.out).mono ?_); rintro e w11 ⟨rfl, hb⟩; refine ⟨_, rfl, ?_⟩; have n0_ := Aside0.mk (below_step (by repeat (first | (with_reducible first | exact HB.out | apply below_alloc | apply pw_below_drewN | apply below_drew1) | exact HB.out)) hb); clear HB; have HB := n0_; clear n0_; (try clear hb); (try clear hb2); (try clear hk); (try clear hi)))
      go_ret
      exact ⟨by first | rfl | (simp [errW_none, errW_some] <;> rfl) | (simp [*, errW_none, errW_some] <;> rfl), by repeat (first | (with_reducible first | exact HB.out | apply below_alloc | apply pw_below_drewN | apply below_drew1) | exact HB.out)⟩
  · rw [if_neg c3] at H
    have c3b0 : (t133 == 0) = false := beq_eq_false_iff_ne.mpr c3
    have c3b1 : (t133 != 0) = true := bne_iff_ne.mpr c3
    obtain rfl := Option.some.inj H
    go_enter Try.func13, Try.ntmps13
    go_wp2_with (first | ((with_reducible refine gate_callee (f := 9) rfl ?_); refine goesL_ (some 6) rfl rfl Try.func9 (by kernel_rfl) rfl #[.string (⟨#[97, 98]⟩ : ByteArray)] rfl (by (try simp only [List.map_toArray, List.map_cons, List.map_nil]); first | done | rfl | (simp only [List.length_drop, List.length_take]; rfl)) ?_; (with_reducible refine (frame_Put.calls k (⟨#[97, 98]⟩ : ByteArray) t132 t133 _ A1.out).mono ?_); rintro e w12 ⟨rfl, hb⟩; refine ⟨_, rfl, ?_⟩; have n0_ := Aside0.mk (below_step (by repeat (first | (with_reducible first | exact HB.out | apply below_alloc | apply pw_below_drewN | apply below_drew1) | exact HB.out)) hb); clear HB; have HB := n0_; clear n0_; (try clear hb); (try clear hb2); (try clear hk); (try clear hi)) | ((with_reducible refine gate_callee (f := 10) rfl ?_); refine goesL_ (some 11) rfl rfl Try.func10 (by kernel_rfl) rfl #[.string t132] rfl (by (try simp only [List.map_toArray, List.map_cons, List.map_nil]); first | done | rfl | (simp only [List.length_drop, List.length_take]; rfl)) ?_; (with_reducible refine (frame_Whole.calls k t132 t134 t135 _ A2.out).mono ?_); rintro e w13 ⟨rfl, hb⟩; refine ⟨_, rfl, ?_⟩; have n0_ := Aside0.mk (below_step (by repeat (first | (with_reducible first | exact HB.out | apply below_alloc | apply pw_below_drewN | apply below_drew1) | exact HB.out)) hb); clear HB; have HB := n0_; clear n0_; (try clear hb); (try clear hb2); (try clear hk); (try clear hi)))
    go_ret
    exact ⟨by first | rfl | (simp [errW_none, errW_some] <;> rfl) | (simp [*, errW_none, errW_some] <;> rfl), by repeat (first | (with_reducible first | exact HB.out | apply below_alloc | apply pw_below_drewN | apply below_drew1) | exact HB.out)⟩

/-! ### meterlaw03_FrameKnown: function 3 -/
def meterlaw03_FrameKnown.f (k : Nat)  : Option (Bool) := (frame_Put.f k (⟨#[]⟩ : ByteArray)).bind fun bt136 => (if (bt136.1.size : Int) = 12 then (if 16385 ≤ 281474976710656 then ((frame_Put.f k (strOfNums (List.replicate 16385 0))).bind fun bt141 => (if 16384 ≤ 281474976710656 then ((frame_Put.f k (strOfNums (List.replicate 16384 0))).bind fun bt146 => ((frame_Whole.f k bt136.1).bind fun bt148 => (if bt136.1.size + 1 ≤ 9223372036854775807 then ((frame_Whole.f k (bt136.1 ++ (⟨#[120]⟩ : ByteArray))).bind fun bt150 => (if 0 ≤ (wrap64 ((bt136.1.size : Int) - 1)) then (if (wrap64 ((bt136.1.size : Int) - 1)) ≤ (bt136.1.size : Int) then ((frame_Whole.f k (bt136.1.extract 0 ((wrap64 ((bt136.1.size : Int) - 1)) : Int).toNat)).bind fun bt152 => (if bt136.1.size + bt136.1.size ≤ 9223372036854775807 then ((frame_Next.f k (bt136.1 ++ bt136.1) 12).bind fun bt154 => ((frame_Next.f k (bt136.1 ++ bt136.1) 24).bind fun bt157 => ((frame_Next.f k (bt136.1 ++ bt136.1) 25).bind fun bt160 => ((meterref01_Crc.f k (⟨#[1, 64, 0, 0]⟩ : ByteArray)).bind fun t163 => ((some (([(t163) % 256, (t163 / 256) % 256, (t163 / 65536) % 256, (t163 / 16777216) % 256] : List Int) : List Int)).bind fun y164 => (if 4 + (strOfNums y164).size ≤ 9223372036854775807 then ((frame_Next.f k ((⟨#[1, 64, 0, 0]⟩ : ByteArray) ++ (strOfNums y164)) 0).bind fun bt167 => ((meterlaw03_awake.f k).bind fun t170 => (if t170 = true then (if bt136.2 = 0 then (if 0 ≤ 4 then (if 4 ≤ (bt136.1.size : Int) then (if (bt136.1.extract 0 4).toList = ([0, 0, 0, 0] : List UInt8) then (if 8 ≤ (bt136.1.size : Int) then (if (bt136.1.extract 8 bt136.1.size).toList = ([0, 0, 0, 0] : List UInt8) then (if bt141.2 = 3 then (if bt146.2 = 0 then (if bt148.1.toList = ([] : List UInt8) then (if bt148.2 = 0 then (if bt150.2 = 8 then (if bt152.2 = 7 then (if bt154.2.1 = 24 then (if bt154.2.2 = 0 then (if bt157.2.2 = 7 then (if bt160.2.2 = 1 then (if bt167.2.2 = 3 then (some true) else (some false)) else (some false)) else (some false)) else (some false)) else (some false)) else (some false)) else (some false)) else (some false)) else (some false)) else (some false)) else (some false)) else (some false)) else (none)) else (some false)) else (none)) else (none)) else (some false)) else (some false)))) else (none))))))) else (none))) else (none)) else (none))) else (none)))) else (none))) else (none)) else (some false))
theorem meterlaw03_FrameKnown.mono : ∀ k, LeO (meterlaw03_FrameKnown.f k ) (meterlaw03_FrameKnown.f (k + 1) ) := by
  intro  k
  unfold meterlaw03_FrameKnown.f
  repeat' first
      | (with_reducible exact frame_Next.mono _ _ _)
      | (with_reducible exact frame_Put.mono _ _)
      | (with_reducible exact frame_Whole.mono _ _)
      | (with_reducible exact meterlaw03_awake.mono _)
      | (with_reducible exact meterref01_Crc.mono _ _)
      | (with_reducible exact LeO.refl _)
      | (with_reducible exact LeO.none _)
      | (with_reducible refine LeO.ite ?_ ?_)
      | (with_reducible refine LeO.bind ?_ (fun _ => ?_))
      | exact frame_Next.mono _ _ _
      | exact frame_Put.mono _ _
      | exact frame_Whole.mono _ _
      | exact meterlaw03_awake.mono _
      | exact meterref01_Crc.mono _ _
      | exact LeO.none _
      | refine LeO.ite ?_ ?_
      | refine LeO.bind ?_ (fun _ => ?_)
set_option maxHeartbeats 8000000 in
set_option maxRecDepth 100000 in
theorem meterlaw03_FrameKnown.calls (k : Nat)  (r : Bool) (w : World) (h : meterlaw03_FrameKnown.f k  = some r) (hrt_ : r = true) :
    Calls Try.prog 3 #[] w fun e w' => e = .returned (.bool r) ∧ Below w.heap.size w w' := by
  have HB := Aside0.mk (Below.refl w.heap.size w)
  have HRT := Aside0.mk hrt_
  clear hrt_
  have H : ((frame_Put.f k (⟨#[]⟩ : ByteArray)).bind fun bt136 => (if (bt136.1.size : Int) = 12 then (if 16385 ≤ 281474976710656 then ((frame_Put.f k (strOfNums (List.replicate 16385 0))).bind fun bt141 => (if 16384 ≤ 281474976710656 then ((frame_Put.f k (strOfNums (List.replicate 16384 0))).bind fun bt146 => ((frame_Whole.f k bt136.1).bind fun bt148 => (if bt136.1.size + 1 ≤ 9223372036854775807 then ((frame_Whole.f k (bt136.1 ++ (⟨#[120]⟩ : ByteArray))).bind fun bt150 => (if 0 ≤ (wrap64 ((bt136.1.size : Int) - 1)) then (if (wrap64 ((bt136.1.size : Int) - 1)) ≤ (bt136.1.size : Int) then ((frame_Whole.f k (bt136.1.extract 0 ((wrap64 ((bt136.1.size : Int) - 1)) : Int).toNat)).bind fun bt152 => (if bt136.1.size + bt136.1.size ≤ 9223372036854775807 then ((frame_Next.f k (bt136.1 ++ bt136.1) 12).bind fun bt154 => ((frame_Next.f k (bt136.1 ++ bt136.1) 24).bind fun bt157 => ((frame_Next.f k (bt136.1 ++ bt136.1) 25).bind fun bt160 => ((meterref01_Crc.f k (⟨#[1, 64, 0, 0]⟩ : ByteArray)).bind fun t163 => ((some (([(t163) % 256, (t163 / 256) % 256, (t163 / 65536) % 256, (t163 / 16777216) % 256] : List Int) : List Int)).bind fun y164 => (if 4 + (strOfNums y164).size ≤ 9223372036854775807 then ((frame_Next.f k ((⟨#[1, 64, 0, 0]⟩ : ByteArray) ++ (strOfNums y164)) 0).bind fun bt167 => ((meterlaw03_awake.f k).bind fun t170 => (if t170 = true then (if bt136.2 = 0 then (if 0 ≤ 4 then (if 4 ≤ (bt136.1.size : Int) then (if (bt136.1.extract 0 4).toList = ([0, 0, 0, 0] : List UInt8) then (if 8 ≤ (bt136.1.size : Int) then (if (bt136.1.extract 8 bt136.1.size).toList = ([0, 0, 0, 0] : List UInt8) then (if bt141.2 = 3 then (if bt146.2 = 0 then (if bt148.1.toList = ([] : List UInt8) then (if bt148.2 = 0 then (if bt150.2 = 8 then (if bt152.2 = 7 then (if bt154.2.1 = 24 then (if bt154.2.2 = 0 then (if bt157.2.2 = 7 then (if bt160.2.2 = 1 then (if bt167.2.2 = 3 then (some true) else (some false)) else (some false)) else (some false)) else (some false)) else (some false)) else (some false)) else (some false)) else (some false)) else (some false)) else (some false)) else (some false)) else (some false)) else (none)) else (some false)) else (none)) else (none)) else (some false)) else (some false)))) else (none))))))) else (none))) else (none)) else (none))) else (none)))) else (none))) else (none)) else (some false))) = some r := h
  clear h
  replace H := Option.bind_eq_some_iff.mp H
  obtain ⟨⟨t136, t137⟩, A10, H⟩ := H
  replace H : (if (t136.size : Int) = 12 then (if 16385 ≤ 281474976710656 then ((frame_Put.f k (strOfNums (List.replicate 16385 0))).bind fun bt141 => (if 16384 ≤ 281474976710656 then ((frame_Put.f k (strOfNums (List.replicate 16384 0))).bind fun bt146 => ((frame_Whole.f k t136).bind fun bt148 => (if t136.size + 1 ≤ 9223372036854775807 then ((frame_Whole.f k (t136 ++ (⟨#[120]⟩ : ByteArray))).bind fun bt150 => (if 0 ≤ (wrap64 ((t136.size : Int) - 1)) then (if (wrap64 ((t136.size : Int) - 1)) ≤ (t136.size : Int) then ((frame_Whole.f k (t136.extract 0 ((wrap64 ((t136.size : Int) - 1)) : Int).toNat)).bind fun bt152 => (if t136.size + t136.size ≤ 9223372036854775807 then ((frame_Next.f k (t136 ++ t136) 12).bind fun bt154 => ((frame_Next.f k (t136 ++ t136) 24).bind fun bt157 => ((frame_Next.f k (t136 ++ t136) 25).bind fun bt160 => ((meterref01_Crc.f k (⟨#[1, 64, 0, 0]⟩ : ByteArray)).bind fun t163 => ((some (([(t163) % 256, (t163 / 256) % 256, (t163 / 65536) % 256, (t163 / 16777216) % 256] : List Int) : List Int)).bind fun y164 => (if 4 + (strOfNums y164).size ≤ 9223372036854775807 then ((frame_Next.f k ((⟨#[1, 64, 0, 0]⟩ : ByteArray) ++ (strOfNums y164)) 0).bind fun bt167 => ((meterlaw03_awake.f k).bind fun t170 => (if t170 = true then (if t137 = 0 then (if 0 ≤ 4 then (if 4 ≤ (t136.size : Int) then (if (t136.extract 0 4).toList = ([0, 0, 0, 0] : List UInt8) then (if 8 ≤ (t136.size : Int) then (if (t136.extract 8 t136.size).toList = ([0, 0, 0, 0] : List UInt8) then (if bt141.2 = 3 then (if bt146.2 = 0 then (if bt148.1.toList = ([] : List UInt8) then (if bt148.2 = 0 then (if bt150.2 = 8 then (if bt152.2 = 7 then (if bt154.2.1 = 24 then (if bt154.2.2 = 0 then (if bt157.2.2 = 7 then (if bt160.2.2 = 1 then (if bt167.2.2 = 3 then (some true) else (some false)) else (some false)) else (some false)) else (some false)) else (some false)) else (some false)) else (some false)) else (some false)) else (some false)) else (some false)) else (some false)) else (some false)) else (none)) else (some false)) else (none)) else (none)) else (some false)) else (some false)))) else (none))))))) else (none))) else (none)) else (none))) else (none)))) else (none))) else (none)) else (some false)) = some r := H
  have A1 := Aside0.mk A10
  clear A10
  by_cases c2 : (t136.size : Int) = 12
  · rw [if_pos c2] at H
    have c2b0 : ((t136.size : Int) == 12) = true := beq_iff_eq.mpr c2
    have c2b1 : ((t136.size : Int) != 12) = false := bne_eq_false_iff_eq.mpr c2
    clear c2
    by_cases c3 : 16385 ≤ 281474976710656
    · rw [if_pos c3] at H
      have c3b0 := eq_true c3
      have c3b1 : decide (16385 ≤ 281474976710656) = true := decide_eq_true c3
      clear c3
      obtain ⟨y138, hy138⟩ : ∃ y_ : List Int, y_ = (List.replicate 16385 0) := ⟨_, rfl⟩
      replace H : ((frame_Put.f k (strOfNums y138)).bind fun bt141 => (if 16384 ≤ 281474976710656 then ((frame_Put.f k (strOfNums (List.replicate 16384 0))).bind fun bt146 => ((frame_Whole.f k t136).bind fun bt148 => (if t136.size + 1 ≤ 9223372036854775807 then ((frame_Whole.f k (t136 ++ (⟨#[120]⟩ : ByteArray))).bind fun bt150 => (if 0 ≤ (wrap64 ((t136.size : Int) - 1)) then (if (wrap64 ((t136.size : Int) - 1)) ≤ (t136.size : Int) then ((frame_Whole.f k (t136.extract 0 ((wrap64 ((t136.size : Int) - 1)) : Int).toNat)).bind fun bt152 => (if t136.size + t136.size ≤ 9223372036854775807 then ((frame_Next.f k (t136 ++ t136) 12).bind fun bt154 => ((frame_Next.f k (t136 ++ t136) 24).bind fun bt157 => ((frame_Next.f k (t136 ++ t136) 25).bind fun bt160 => ((meterref01_Crc.f k (⟨#[1, 64, 0, 0]⟩ : ByteArray)).bind fun t163 => ((some (([(t163) % 256, (t163 / 256) % 256, (t163 / 65536) % 256, (t163 / 16777216) % 256] : List Int) : List Int)).bind fun y164 => (if 4 + (strOfNums y164).size ≤ 9223372036854775807 then ((frame_Next.f k ((⟨#[1, 64, 0, 0]⟩ : ByteArray) ++ (strOfNums y164)) 0).bind fun bt167 => ((meterlaw03_awake.f k).bind fun t170 => (if t170 = true then (if t137 = 0 then (if 0 ≤ 4 then (if 4 ≤ (t136.size : Int) then (if (t136.extract 0 4).toList = ([0, 0, 0, 0] : List UInt8) then (if 8 ≤ (t136.size : Int) then (if (t136.extract 8 t136.size).toList = ([0, 0, 0, 0] : List UInt8) then (if bt141.2 = 3 then (if bt146.2 = 0 then (if bt148.1.toList = ([] : List UInt8) then (if bt148.2 = 0 then (if bt150.2 = 8 then (if bt152.2 = 7 then (if bt154.2.1 = 24 then (if bt154.2.2 = 0 then (if bt157.2.2 = 7 then (if bt160.2.2 = 1 then (if bt167.2.2 = 3 then (some true) else (some false)) else (some false)) else (some false)) else (some false)) else (some false)) else (some false)) else (some false)) else (some false)) else (some false)) else (some false)) else (some false)) else (some false)) else (none)) else (some false)) else (none)) else (none)) else (some false)) else (some false)))) else (none))))))) else (none))) else (none)) else (none))) else (none)))) else (none))) = some r := by first | (rw [hy138]; with_reducible exact H) | (have H2_ := (Option.bind_some _ _).symm.trans H; rw [hy138]; with_reducible exact H2_) | (have H2_ := (Option.bind_some _ _).symm.trans H; with_reducible exact H2_) | with_reducible exact H | (rw [hy138]; exact H) | exact H
      have Ny138 := Aside0.mk hy138
      clear hy138
      replace H := Option.bind_eq_some_iff.mp H
      obtain ⟨⟨t141, t142⟩, A40, H⟩ := H
      replace H : (if 16384 ≤ 281474976710656 then ((frame_Put.f k (strOfNums (List.replicate 16384 0))).bind fun bt146 => ((frame_Whole.f k t136).bind fun bt148 => (if t136.size + 1 ≤ 9223372036854775807 then ((frame_Whole.f k (t136 ++ (⟨#[120]⟩ : ByteArray))).bind fun bt150 => (if 0 ≤ (wrap64 ((t136.size : Int) - 1)) then (if (wrap64 ((t136.size : Int) - 1)) ≤ (t136.size : Int) then ((frame_Whole.f k (t136.extract 0 ((wrap64 ((t136.size : Int) - 1)) : Int).toNat)).bind fun bt152 => (if t136.size + t136.size ≤ 9223372036854775807 then ((frame_Next.f k (t136 ++ t136) 12).bind fun bt154 => ((frame_Next.f k (t136 ++ t136) 24).bind fun bt157 => ((frame_Next.f k (t136 ++ t136) 25).bind fun bt160 => ((meterref01_Crc.f k (⟨#[1, 64, 0, 0]⟩ : ByteArray)).bind fun t163 => ((some (([(t163) % 256, (t163 / 256) % 256, (t163 / 65536) % 256, (t163 / 16777216) % 256] : List Int) : List Int)).bind fun y164 => (if 4 + (strOfNums y164).size ≤ 9223372036854775807 then ((frame_Next.f k ((⟨#[1, 64, 0, 0]⟩ : ByteArray) ++ (strOfNums y164)) 0).bind fun bt167 => ((meterlaw03_awake.f k).bind fun t170 => (if t170 = true then (if t137 = 0 then (if 0 ≤ 4 then (if 4 ≤ (t136.size : Int) then (if (t136.extract 0 4).toList = ([0, 0, 0, 0] : List UInt8) then (if 8 ≤ (t136.size : Int) then (if (t136.extract 8 t136.size).toList = ([0, 0, 0, 0] : List UInt8) then (if t142 = 3 then (if bt146.2 = 0 then (if bt148.1.toList = ([] : List UInt8) then (if bt148.2 = 0 then (if bt150.2 = 8 then (if bt152.2 = 7 then (if bt154.2.1 = 24 then (if bt154.2.2 = 0 then (if bt157.2.2 = 7 then (if bt160.2.2 = 1 then (if bt167.2.2 = 3 then (some true) else (some false)) else (some false)) else (some false)) else (some false)) else (some false)) else (some false)) else (some false)) else (some false)) else (some false)) else (some false)) else (some false)) else (some false)) else (none)) else (some false)) else (none)) else (none)) else (some false)) else (some false)))) else (none))))))) else (none))) else (none)) else (none))) else (none)))) else (none)) = some r := H
      have A4 := Aside0.mk A40
      clear A40
      by_cases c5 : 16384 ≤ 281474976710656
      · rw [if_pos c5] at H
        have c5b0 := eq_true c5
        have c5b1 : decide (16384 ≤ 281474976710656) = true := decide_eq_true c5
        clear c5
        obtain ⟨y143, hy143⟩ : ∃ y_ : List Int, y_ = (List.replicate 16384 0) := ⟨_, rfl⟩
        replace H : ((frame_Put.f k (strOfNums y143)).bind fun bt146 => ((frame_Whole.f k t136).bind fun bt148 => (if t136.size + 1 ≤ 9223372036854775807 then ((frame_Whole.f k (t136 ++ (⟨#[120]⟩ : ByteArray))).bind fun bt150 => (if 0 ≤ (wrap64 ((t136.size : Int) - 1)) then (if (wrap64 ((t136.size : Int) - 1)) ≤ (t136.size : Int) then ((frame_Whole.f k (t136.extract 0 ((wrap64 ((t136.size : Int) - 1)) : Int).toNat)).bind fun bt152 => (if t136.size + t136.size ≤ 9223372036854775807 then ((frame_Next.f k (t136 ++ t136) 12).bind fun bt154 => ((frame_Next.f k (t136 ++ t136) 24).bind fun bt157 => ((frame_Next.f k (t136 ++ t136) 25).bind fun bt160 => ((meterref01_Crc.f k (⟨#[1, 64, 0, 0]⟩ : ByteArray)).bind fun t163 => ((some (([(t163) % 256, (t163 / 256) % 256, (t163 / 65536) % 256, (t163 / 16777216) % 256] : List Int) : List Int)).bind fun y164 => (if 4 + (strOfNums y164).size ≤ 9223372036854775807 then ((frame_Next.f k ((⟨#[1, 64, 0, 0]⟩ : ByteArray) ++ (strOfNums y164)) 0).bind fun bt167 => ((meterlaw03_awake.f k).bind fun t170 => (if t170 = true then (if t137 = 0 then (if 0 ≤ 4 then (if 4 ≤ (t136.size : Int) then (if (t136.extract 0 4).toList = ([0, 0, 0, 0] : List UInt8) then (if 8 ≤ (t136.size : Int) then (if (t136.extract 8 t136.size).toList = ([0, 0, 0, 0] : List UInt8) then (if t142 = 3 then (if bt146.2 = 0 then (if bt148.1.toList = ([] : List UInt8) then (if bt148.2 = 0 then (if bt150.2 = 8 then (if bt152.2 = 7 then (if bt154.2.1 = 24 then (if bt154.2.2 = 0 then (if bt157.2.2 = 7 then (if bt160.2.2 = 1 then (if bt167.2.2 = 3 then (some true) else (some false)) else (some false)) else (some false)) else (some false)) else (some false)) else (some false)) else (some false)) else (some false)) else (some false)) else (some false)) else (some false)) else (some false)) else (none)) else (some false)) else (none)) else (none)) else (some false)) else (some false)))) else (none))))))) else (none))) else (none)) else (none))) else (none)))) = some r := by first | (rw [hy143]; with_reducible exact H) | (have H2_ := (Option.bind_some _ _).symm.trans H; rw [hy143]; with_reducible exact H2_) | (have H2_ := (Option.bind_some _ _).symm.trans H; with_reducible exact H2_) | with_reducible exact H | (rw [hy143]; exact H) | exact H
        have Ny143 := Aside0.mk hy143
        clear hy143
        replace H := Option.bind_eq_some_iff.mp H
        obtain ⟨⟨t146, t147⟩, A60, H⟩ := H
        replace H : ((frame_Whole.f k t136).bind fun bt148 => (if t136.size + 1 ≤ 9223372036854775807 then ((frame_Whole.f k (t136 ++ (⟨#[120]⟩ : ByteArray))).bind fun bt150 => (if 0 ≤ (wrap64 ((t136.size : Int) - 1)) then (if (wrap64 ((t136.size : Int) - 1)) ≤ (t136.size : Int) then ((frame_Whole.f k (t136.extract 0 ((wrap64 ((t136.size : Int) - 1)) : Int).toNat)).bind fun bt152 => (if t136.size + t136.size ≤ 9223372036854775807 then ((frame_Next.f k (t136 ++ t136) 12).bind fun bt154 => ((frame_Next.f k (t136 ++ t136) 24).bind fun bt157 => ((frame_Next.f k (t136 ++ t136) 25).bind fun bt160 => ((meterref01_Crc.f k (⟨#[1, 64, 0, 0]⟩ : ByteArray)).bind fun t163 => ((some (([(t163) % 256, (t163 / 256) % 256, (t163 / 65536) % 256, (t163 / 16777216) % 256] : List Int) : List Int)).bind fun y164 => (if 4 + (strOfNums y164).size ≤ 9223372036854775807 then ((frame_Next.f k ((⟨#[1, 64, 0, 0]⟩ : ByteArray) ++ (strOfNums y164)) 0).bind fun bt167 => ((meterlaw03_awake.f k).bind fun t170 => (if t170 = true then (if t137 = 0 then (if 0 ≤ 4 then (if 4 ≤ (t136.size : Int) then (if (t136.extract 0 4).toList = ([0, 0, 0, 0] : List UInt8) then (if 8 ≤ (t136.size : Int) then (if (t136.extract 8 t136.size).toList = ([0, 0, 0, 0] : List UInt8) then (if t142 = 3 then (if t147 = 0 then (if bt148.1.toList = ([] : List UInt8) then (if bt148.2 = 0 then (if bt150.2 = 8 then (if bt152.2 = 7 then (if bt154.2.1 = 24 then (if bt154.2.2 = 0 then (if bt157.2.2 = 7 then (if bt160.2.2 = 1 then (if bt167.2.2 = 3 then (some true) else (some false)) else (some false)) else (some false)) else (some false)) else (some false)) else (some false)) else (some false)) else (some false)) else (some false)) else (some false)) else (some false)) else (some false)) else (none)) else (some false)) else (none)) else (none)) else (some false)) else (some false)))) else (none))))))) else (none))) else (none)) else (none))) else (none))) = some r := H
        have A6 := Aside0.mk A60
        clear A60
        replace H := Option.bind_eq_some_iff.mp H
        obtain ⟨⟨t148, t149⟩, A70, H⟩ := H
        replace H : (if t136.size + 1 ≤ 9223372036854775807 then ((frame_Whole.f k (t136 ++ (⟨#[120]⟩ : ByteArray))).bind fun bt150 => (if 0 ≤ (wrap64 ((t136.size : Int) - 1)) then (if (wrap64 ((t136.size : Int) - 1)) ≤ (t136.size : Int) then ((frame_Whole.f k (t136.extract 0 ((wrap64 ((t136.size : Int) - 1)) : Int).toNat)).bind fun bt152 => (if t136.size + t136.size ≤ 9223372036854775807 then ((frame_Next.f k (t136 ++ t136) 12).bind fun bt154 => ((frame_Next.f k (t136 ++ t136) 24).bind fun bt157 => ((frame_Next.f k (t136 ++ t136) 25).bind fun bt160 => ((meterref01_Crc.f k (⟨#[1, 64, 0, 0]⟩ : ByteArray)).bind fun t163 => ((some (([(t163) % 256, (t163 / 256) % 256, (t163 / 65536) % 256, (t163 / 16777216) % 256] : List Int) : List Int)).bind fun y164 => (if 4 + (strOfNums y164).size ≤ 9223372036854775807 then ((frame_Next.f k ((⟨#[1, 64, 0, 0]⟩ : ByteArray) ++ (strOfNums y164)) 0).bind fun bt167 => ((meterlaw03_awake.f k).bind fun t170 => (if t170 = true then (if t137 = 0 then (if 0 ≤ 4 then (if 4 ≤ (t136.size : Int) then (if (t136.extract 0 4).toList = ([0, 0, 0, 0] : List UInt8) then (if 8 ≤ (t136.size : Int) then (if (t136.extract 8 t136.size).toList = ([0, 0, 0, 0] : List UInt8) then (if t142 = 3 then (if t147 = 0 then (if t148.toList = ([] : List UInt8) then (if t149 = 0 then (if bt150.2 = 8 then (if bt152.2 = 7 then (if bt154.2.1 = 24 then (if bt154.2.2 = 0 then (if bt157.2.2 = 7 then (if bt160.2.2 = 1 then (if bt167.2.2 = 3 then (some true) else (some false)) else (some false)) else (some false)) else (some false)) else (some false)) else (some false)) else (some false)) else (some false)) else (some false)) else (some false)) else (some false)) else (some false)) else (none)) else (some false)) else (none)) else (none)) else (some false)) else (some false)))) else (none))))))) else (none))) else (none)) else (none))) else (none)) = some r := H
        have A7 := Aside0.mk A70
        clear A70
        by_cases c8 : t136.size + 1 ≤ 9223372036854775807
        · rw [if_pos c8] at H
          have c8b0 := eq_true c8
          have c8b1 : decide (t136.size + 1 ≤ 9223372036854775807) = true := decide_eq_true c8
          try have c8b2 : (9223372036854775807 < t136.size + 1) = False := eq_false (Nat.not_lt.2 c8)
          replace H := Option.bind_eq_some_iff.mp H
          obtain ⟨⟨t150, t151⟩, A90, H⟩ := H
          replace H : (if 0 ≤ (wrap64 ((t136.size : Int) - 1)) then (if (wrap64 ((t136.size : Int) - 1)) ≤ (t136.size : Int) then ((frame_Whole.f k (t136.extract 0 ((wrap64 ((t136.size : Int) - 1)) : Int).toNat)).bind fun bt152 => (if t136.size + t136.size ≤ 9223372036854775807 then ((frame_Next.f k (t136 ++ t136) 12).bind fun bt154 => ((frame_Next.f k (t136 ++ t136) 24).bind fun bt157 => ((frame_Next.f k (t136 ++ t136) 25).bind fun bt160 => ((meterref01_Crc.f k (⟨#[1, 64, 0, 0]⟩ : ByteArray)).bind fun t163 => ((some (([(t163) % 256, (t163 / 256) % 256, (t163 / 65536) % 256, (t163 / 16777216) % 256] : List Int) : List Int)).bind fun y164 => (if 4 + (strOfNums y164).size ≤ 9223372036854775807 then ((frame_Next.f k ((⟨#[1, 64, 0, 0]⟩ : ByteArray) ++ (strOfNums y164)) 0).bind fun bt167 => ((meterlaw03_awake.f k).bind fun t170 => (if t170 = true then (if t137 = 0 then (if 0 ≤ 4 then (if 4 ≤ (t136.size : Int) then (if (t136.extract 0 4).toList = ([0, 0, 0, 0] : List UInt8) then (if 8 ≤ (t136.size : Int) then (if (t136.extract 8 t136.size).toList = ([0, 0, 0, 0] : List UInt8) then (if t142 = 3 then (if t147 = 0 then (if t148.toList = ([] : List UInt8) then (if t149 = 0 then (if t151 = 8 then (if bt152.2 = 7 then (if bt154.2.1 = 24 then (if bt154.2.2 = 0 then (if bt157.2.2 = 7 then (if bt160.2.2 = 1 then (if bt167.2.2 = 3 then (some true) else (some false)) else (some false)) else (some false)) else (some false)) else (some false)) else (some false)) else (some false)) else (some false)) else (some false)) else (some false)) else (some false)) else (some false)) else (none)) else (some false)) else (none)) else (none)) else (some false)) else (some false)))) else (none))))))) else (none))) else (none)) else (none)) = some r := H
          have A9 := Aside0.mk A90
          clear A90
          obtain ⟨ji10, hji10⟩ : ∃ j_ : Int, (wrap64 ((t136.size : Int) - 1)) = j_ := ⟨_, rfl⟩
          replace H : (if 0 ≤ (ji10) then (if (ji10) ≤ (t136.size : Int) then ((frame_Whole.f k (t136.extract 0 ((ji10) : Int).toNat)).bind fun bt152 => (if t136.size + t136.size ≤ 9223372036854775807 then ((frame_Next.f k (t136 ++ t136) 12).bind fun bt154 => ((frame_Next.f k (t136 ++ t136) 24).bind fun bt157 => ((frame_Next.f k (t136 ++ t136) 25).bind fun bt160 => ((meterref01_Crc.f k (⟨#[1, 64, 0, 0]⟩ : ByteArray)).bind fun t163 => ((some (([(t163) % 256, (t163 / 256) % 256, (t163 / 65536) % 256, (t163 / 16777216) % 256] : List Int) : List Int)).bind fun y164 => (if 4 + (strOfNums y164).size ≤ 9223372036854775807 then ((frame_Next.f k ((⟨#[1, 64, 0, 0]⟩ : ByteArray) ++ (strOfNums y164)) 0).bind fun bt167 => ((meterlaw03_awake.f k).bind fun t170 => (if t170 = true then (if t137 = 0 then (if 0 ≤ 4 then (if 4 ≤ (t136.size : Int) then (if (t136.extract 0 4).toList = ([0, 0, 0, 0] : List UInt8) then (if 8 ≤ (t136.size : Int) then (if (t136.extract 8 t136.size).toList = ([0, 0, 0, 0] : List UInt8) then (if t142 = 3 then (if t147 = 0 then (if t148.toList = ([] : List UInt8) then (if t149 = 0 then (if t151 = 8 then (if bt152.2 = 7 then (if bt154.2.1 = 24 then (if bt154.2.2 = 0 then (if bt157.2.2 = 7 then (if bt160.2.2 = 1 then (if bt167.2.2 = 3 then (some true) else (some false)) else (some false)) else (some false)) else (some false)) else (some false)) else (some false)) else (some false)) else (some false)) else (some false)) else (some false)) else (some false)) else (some false)) else (none)) else (some false)) else (none)) else (none)) else (some false)) else (some false)))) else (none))))))) else (none))) else (none)) else (none)) = some r := by first | (rw [hji10] at H; exact H) | (simp only [hji10] at H ⊢; exact H)
          (try rw [hji10] at A1)
          (try rw [hji10] at A4)
          (try rw [hji10] at A6)
          (try rw [hji10] at A7)
          (try rw [hji10] at A9)
          have hji10w : (IntKind.i64.wrap ((t136.size : Int) - 1)) = ji10 := (i64_w _).trans hji10
          by_cases c11 : 0 ≤ (ji10)
          · rw [if_pos c11] at H
            have c11b0 := eq_true c11
            have c11b1 : decide (0 ≤ (ji10)) = true := decide_eq_true c11
            clear c11
            by_cases c12 : (ji10) ≤ (t136.size : Int)
            · rw [if_pos c12] at H
              have c12b0 := eq_true c12
              have c12b1 : decide ((ji10) ≤ (t136.size : Int)) = true := decide_eq_true c12
              clear c12
              replace H := Option.bind_eq_some_iff.mp H
              obtain ⟨⟨t152, t153⟩, A130, H⟩ := H
              replace H : (if t136.size + t136.size ≤ 9223372036854775807 then ((frame_Next.f k (t136 ++ t136) 12).bind fun bt154 => ((frame_Next.f k (t136 ++ t136) 24).bind fun bt157 => ((frame_Next.f k (t136 ++ t136) 25).bind fun bt160 => ((meterref01_Crc.f k (⟨#[1, 64, 0, 0]⟩ : ByteArray)).bind fun t163 => ((some (([(t163) % 256, (t163 / 256) % 256, (t163 / 65536) % 256, (t163 / 16777216) % 256] : List Int) : List Int)).bind fun y164 => (if 4 + (strOfNums y164).size ≤ 9223372036854775807 then ((frame_Next.f k ((⟨#[1, 64, 0, 0]⟩ : ByteArray) ++ (strOfNums y164)) 0).bind fun bt167 => ((meterlaw03_awake.f k).bind fun t170 => (if t170 = true then (if t137 = 0 then (if 0 ≤ 4 then (if 4 ≤ (t136.size : Int) then (if (t136.extract 0 4).toList = ([0, 0, 0, 0] : List UInt8) then (if 8 ≤ (t136.size : Int) then (if (t136.extract 8 t136.size).toList = ([0, 0, 0, 0] : List UInt8) then (if t142 = 3 then (if t147 = 0 then (if t148.toList = ([] : List UInt8) then (if t149 = 0 then (if t151 = 8 then (if t153 = 7 then (if bt154.2.1 = 24 then (if bt154.2.2 = 0 then (if bt157.2.2 = 7 then (if bt160.2.2 = 1 then (if bt167.2.2 = 3 then (some true) else (some false)) else (some false)) else (some false)) else (some false)) else (some false)) else (some false)) else (some false)) else (some false)) else (some false)) else (some false)) else (some false)) else (some false)) else (none)) else (some false)) else (none)) else (none)) else (some false)) else (some false)))) else (none))))))) else (none)) = some r := H
              have A13 := Aside0.mk A130
              clear A130
              by_cases c14 : t136.size + t136.size ≤ 9223372036854775807
              · rw [if_pos c14] at H
                have c14b0 := eq_true c14
                have c14b1 : decide (t136.size + t136.size ≤ 9223372036854775807) = true := decide_eq_true c14
                try have c14b2 : (9223372036854775807 < t136.size + t136.size) = False := eq_false (Nat.not_lt.2 c14)
                replace H := Option.bind_eq_some_iff.mp H
                obtain ⟨⟨t154, t155, t156⟩, A150, H⟩ := H
                replace H : ((frame_Next.f k (t136 ++ t136) 24).bind fun bt157 => ((frame_Next.f k (t136 ++ t136) 25).bind fun bt160 => ((meterref01_Crc.f k (⟨#[1, 64, 0, 0]⟩ : ByteArray)).bind fun t163 => ((some (([(t163) % 256, (t163 / 256) % 256, (t163 / 65536) % 256, (t163 / 16777216) % 256] : List Int) : List Int)).bind fun y164 => (if 4 + (strOfNums y164).size ≤ 9223372036854775807 then ((frame_Next.f k ((⟨#[1, 64, 0, 0]⟩ : ByteArray) ++ (strOfNums y164)) 0).bind fun bt167 => ((meterlaw03_awake.f k).bind fun t170 => (if t170 = true then (if t137 = 0 then (if 0 ≤ 4 then (if 4 ≤ (t136.size : Int) then (if (t136.extract 0 4).toList = ([0, 0, 0, 0] : List UInt8) then (if 8 ≤ (t136.size : Int) then (if (t136.extract 8 t136.size).toList = ([0, 0, 0, 0] : List UInt8) then (if t142 = 3 then (if t147 = 0 then (if t148.toList = ([] : List UInt8) then (if t149 = 0 then (if t151 = 8 then (if t153 = 7 then (if t155 = 24 then (if t156 = 0 then (if bt157.2.2 = 7 then (if bt160.2.2 = 1 then (if bt167.2.2 = 3 then (some true) else (some false)) else (some false)) else (some false)) else (some false)) else (some false)) else (some false)) else (some false)) else (some false)) else (some false)) else (some false)) else (some false)) else (some false)) else (none)) else (some false)) else (none)) else (none)) else (some false)) else (some false)))) else (none)))))) = some r := H
                have A15 := Aside0.mk A150
                clear A150
                replace H := Option.bind_eq_some_iff.mp H
                obtain ⟨⟨t157, t158, t159⟩, A160, H⟩ := H
                replace H : ((frame_Next.f k (t136 ++ t136) 25).bind fun bt160 => ((meterref01_Crc.f k (⟨#[1, 64, 0, 0]⟩ : ByteArray)).bind fun t163 => ((some (([(t163) % 256, (t163 / 256) % 256, (t163 / 65536) % 256, (t163 / 16777216) % 256] : List Int) : List Int)).bind fun y164 => (if 4 + (strOfNums y164).size ≤ 9223372036854775807 then ((frame_Next.f k ((⟨#[1, 64, 0, 0]⟩ : ByteArray) ++ (strOfNums y164)) 0).bind fun bt167 => ((meterlaw03_awake.f k).bind fun t170 => (if t170 = true then (if t137 = 0 then (if 0 ≤ 4 then (if 4 ≤ (t136.size : Int) then (if (t136.extract 0 4).toList = ([0, 0, 0, 0] : List UInt8) then (if 8 ≤ (t136.size : Int) then (if (t136.extract 8 t136.size).toList = ([0, 0, 0, 0] : List UInt8) then (if t142 = 3 then (if t147 = 0 then (if t148.toList = ([] : List UInt8) then (if t149 = 0 then (if t151 = 8 then (if t153 = 7 then (if t155 = 24 then (if t156 = 0 then (if t159 = 7 then (if bt160.2.2 = 1 then (if bt167.2.2 = 3 then (some true) else (some false)) else (some false)) else (some false)) else (some false)) else (some false)) else (some false)) else (some false)) else (some false)) else (some false)) else (some false)) else (some false)) else (some false)) else (none)) else (some false)) else (none)) else (none)) else (some false)) else (some false)))) else (none))))) = some r := H
                have A16 := Aside0.mk A160
                clear A160
                replace H := Option.bind_eq_some_iff.mp H
                obtain ⟨⟨t160, t161, t162⟩, A170, H⟩ := H
                replace H : ((meterref01_Crc.f k (⟨#[1, 64, 0, 0]⟩ : ByteArray)).bind fun t163 => ((some (([(t163) % 256, (t163 / 256) % 256, (t163 / 65536) % 256, (t163 / 16777216) % 256] : List Int) : List Int)).bind fun y164 => (if 4 + (strOfNums y164).size ≤ 9223372036854775807 then ((frame_Next.f k ((⟨#[1, 64, 0, 0]⟩ : ByteArray) ++ (strOfNums y164)) 0).bind fun bt167 => ((meterlaw03_awake.f k).bind fun t170 => (if t170 = true then (if t137 = 0 then (if 0 ≤ 4 then (if 4 ≤ (t136.size : Int) then (if (t136.extract 0 4).toList = ([0, 0, 0, 0] : List UInt8) then (if 8 ≤ (t136.size : Int) then (if (t136.extract 8 t136.size).toList = ([0, 0, 0, 0] : List UInt8) then (if t142 = 3 then (if t147 = 0 then (if t148.toList = ([] : List UInt8) then (if t149 = 0 then (if t151 = 8 then (if t153 = 7 then (if t155 = 24 then (if t156 = 0 then (if t159 = 7 then (if t162 = 1 then (if bt167.2.2 = 3 then (some true) else (some false)) else (some false)) else (some false)) else (some false)) else (some false)) else (some false)) else (some false)) else (some false)) else (some false)) else (some false)) else (some false)) else (some false)) else (none)) else (some false)) else (none)) else (none)) else (some false)) else (some false)))) else (none)))) = some r := H
                have A17 := Aside0.mk A170
                clear A170
                replace H := Option.bind_eq_some_iff.mp H
                obtain ⟨t163, A180, H⟩ := H
                replace H : ((some (([(t163) % 256, (t163 / 256) % 256, (t163 / 65536) % 256, (t163 / 16777216) % 256] : List Int) : List Int)).bind fun y164 => (if 4 + (strOfNums y164).size ≤ 9223372036854775807 then ((frame_Next.f k ((⟨#[1, 64, 0, 0]⟩ : ByteArray) ++ (strOfNums y164)) 0).bind fun bt167 => ((meterlaw03_awake.f k).bind fun t170 => (if t170 = true then (if t137 = 0 then (if 0 ≤ 4 then (if 4 ≤ (t136.size : Int) then (if (t136.extract 0 4).toList = ([0, 0, 0, 0] : List UInt8) then (if 8 ≤ (t136.size : Int) then (if (t136.extract 8 t136.size).toList = ([0, 0, 0, 0] : List UInt8) then (if t142 = 3 then (if t147 = 0 then (if t148.toList = ([] : List UInt8) then (if t149 = 0 then (if t151 = 8 then (if t153 = 7 then (if t155 = 24 then (if t156 = 0 then (if t159 = 7 then (if t162 = 1 then (if bt167.2.2 = 3 then (some true) else (some false)) else (some false)) else (some false)) else (some false)) else (some false)) else (some false)) else (some false)) else (some false)) else (some false)) else (some false)) else (some false)) else (some false)) else (none)) else (some false)) else (none)) else (none)) else (some false)) else (some false)))) else (none))) = some r := H
                have A18 := Aside0.mk A180
                clear A180
                obtain ⟨y164, hy164⟩ : ∃ y_ : List Int, y_ = (([(t163) % 256, (t163 / 256) % 256, (t163 / 65536) % 256, (t163 / 16777216) % 256] : List Int)) := ⟨_, rfl⟩
                replace H : (if 4 + (strOfNums y164).size ≤ 9223372036854775807 then ((frame_Next.f k ((⟨#[1, 64, 0, 0]⟩ : ByteArray) ++ (strOfNums y164)) 0).bind fun bt167 => ((meterlaw03_awake.f k).bind fun t170 => (if t170 = true then (if t137 = 0 then (if 0 ≤ 4 then (if 4 ≤ (t136.size : Int) then (if (t136.extract 0 4).toList = ([0, 0, 0, 0] : List UInt8) then (if 8 ≤ (t136.size : Int) then (if (t136.extract 8 t136.size).toList = ([0, 0, 0, 0] : List UInt8) then (if t142 = 3 then (if t147 = 0 then (if t148.toList = ([] : List UInt8) then (if t149 = 0 then (if t151 = 8 then (if t153 = 7 then (if t155 = 24 then (if t156 = 0 then (if t159 = 7 then (if t162 = 1 then (if bt167.2.2 = 3 then (some true) else (some false)) else (some false)) else (some false)) else (some false)) else (some false)) else (some false)) else (some false)) else (some false)) else (some false)) else (some false)) else (some false)) else (some false)) else (none)) else (some false)) else (none)) else (none)) else (some false)) else (some false)))) else (none)) = some r := by first | (rw [hy164]; with_reducible exact H) | (have H2_ := (Option.bind_some _ _).symm.trans H; rw [hy164]; with_reducible exact H2_) | (have H2_ := (Option.bind_some _ _).symm.trans H; with_reducible exact H2_) | with_reducible exact H | (rw [hy164]; exact H) | exact H
                have Ny164 := Aside0.mk hy164
                clear hy164
                by_cases c19 : 4 + (strOfNums y164).size ≤ 9223372036854775807
                · rw [if_pos c19] at H
                  have c19b0 := eq_true c19
                  have c19b1 : decide (4 + (strOfNums y164).size ≤ 9223372036854775807) = true := decide_eq_true c19
                  try have c19b2 : (9223372036854775807 < 4 + (strOfNums y164).size) = False := eq_false (Nat.not_lt.2 c19)
                  replace H := Option.bind_eq_some_iff.mp H
                  obtain ⟨⟨t167, t168, t169⟩, A200, H⟩ := H
                  replace H : ((meterlaw03_awake.f k).bind fun t170 => (if t170 = true then (if t137 = 0 then (if 0 ≤ 4 then (if 4 ≤ (t136.size : Int) then (if (t136.extract 0 4).toList = ([0, 0, 0, 0] : List UInt8) then (if 8 ≤ (t136.size : Int) then (if (t136.extract 8 t136.size).toList = ([0, 0, 0, 0] : List UInt8) then (if t142 = 3 then (if t147 = 0 then (if t148.toList = ([] : List UInt8) then (if t149 = 0 then (if t151 = 8 then (if t153 = 7 then (if t155 = 24 then (if t156 = 0 then (if t159 = 7 then (if t162 = 1 then (if t169 = 3 then (some true) else (some false)) else (some false)) else (some false)) else (some false)) else (some false)) else (some false)) else (some false)) else (some false)) else (some false)) else (some false)) else (some false)) else (some false)) else (none)) else (some false)) else (none)) else (none)) else (some false)) else (some false))) = some r := H
                  have A20 := Aside0.mk A200
                  clear A200
                  replace H := Option.bind_eq_some_iff.mp H
                  obtain ⟨t170, A210, H⟩ := H
                  replace H : (if t170 = true then (if t137 = 0 then (if 0 ≤ 4 then (if 4 ≤ (t136.size : Int) then (if (t136.extract 0 4).toList = ([0, 0, 0, 0] : List UInt8) then (if 8 ≤ (t136.size : Int) then (if (t136.extract 8 t136.size).toList = ([0, 0, 0, 0] : List UInt8) then (if t142 = 3 then (if t147 = 0 then (if t148.toList = ([] : List UInt8) then (if t149 = 0 then (if t151 = 8 then (if t153 = 7 then (if t155 = 24 then (if t156 = 0 then (if t159 = 7 then (if t162 = 1 then (if t169 = 3 then (some true) else (some false)) else (some false)) else (some false)) else (some false)) else (some false)) else (some false)) else (some false)) else (some false)) else (some false)) else (some false)) else (some false)) else (some false)) else (none)) else (some false)) else (none)) else (none)) else (some false)) else (some false)) = some r := H
                  have A21 := Aside0.mk A210
                  clear A210
                  by_cases c22 : t170 = true
                  · subst c22
                    have H1 : (if t137 = 0 then (if 0 ≤ 4 then (if 4 ≤ (t136.size : Int) then (if (t136.extract 0 4).toList = ([0, 0, 0, 0] : List UInt8) then (if 8 ≤ (t136.size : Int) then (if (t136.extract 8 t136.size).toList = ([0, 0, 0, 0] : List UInt8) then (if t142 = 3 then (if t147 = 0 then (if t148.toList = ([] : List UInt8) then (if t149 = 0 then (if t151 = 8 then (if t153 = 7 then (if t155 = 24 then (if t156 = 0 then (if t159 = 7 then (if t162 = 1 then (if t169 = 3 then (some true) else (some false)) else (some false)) else (some false)) else (some false)) else (some false)) else (some false)) else (some false)) else (some false)) else (some false)) else (some false)) else (some false)) else (some false)) else (none)) else (some false)) else (none)) else (none)) else (some false)) = some r := by rw [if_pos rfl] at H; exact H
                    clear H
                    have H := H1
                    clear H1
                    by_cases c23 : t137 = 0
                    · rw [if_pos c23] at H
                      have c23b0 : (t137 == 0) = true := beq_iff_eq.mpr c23
                      have c23b1 : (t137 != 0) = false := bne_eq_false_iff_eq.mpr c23
                      clear c23
                      by_cases c24 : 0 ≤ 4
                      · rw [if_pos c24] at H
                        have c24b0 := eq_true c24
                        have c24b1 : decide (0 ≤ 4) = true := decide_eq_true c24
                        clear c24
                        by_cases c25 : 4 ≤ (t136.size : Int)
                        · rw [if_pos c25] at H
                          have c25b0 := eq_true c25
                          have c25b1 : decide (4 ≤ (t136.size : Int)) = true := decide_eq_true c25
                          clear c25
                          by_cases c26 : (t136.extract 0 4).toList = ([0, 0, 0, 0] : List UInt8)
                          · rw [if_pos c26] at H
                            have c26b0 : ((t136.extract 0 4).toList == ([0, 0, 0, 0] : List UInt8)) = true := beq_iff_eq.mpr c26
                            have c26b1 : ((t136.extract 0 4).toList != ([0, 0, 0, 0] : List UInt8)) = false := bne_eq_false_iff_eq.mpr c26
                            clear c26
                            by_cases c27 : 8 ≤ (t136.size : Int)
                            · rw [if_pos c27] at H
                              have c27b0 := eq_true c27
                              have c27b1 : decide (8 ≤ (t136.size : Int)) = true := decide_eq_true c27
                              clear c27
                              by_cases c28 : (t136.extract 8 t136.size).toList = ([0, 0, 0, 0] : List UInt8)
                              · rw [if_pos c28] at H
                                have c28b0 : ((t136.extract 8 t136.size).toList == ([0, 0, 0, 0] : List UInt8)) = true := beq_iff_eq.mpr c28
                                try (have c28x0 := c28b0; simp only [ByteArray.size_extract, Nat.min_self] at c28x0)
                                have c28b1 : ((t136.extract 8 t136.size).toList != ([0, 0, 0, 0] : List UInt8)) = false := bne_eq_false_iff_eq.mpr c28
                                try (have c28x1 := c28b1; simp only [ByteArray.size_extract, Nat.min_self] at c28x1)
                                clear c28
                                by_cases c29 : t142 = 3
                                · rw [if_pos c29] at H
                                  have c29b0 : (t142 == 3) = true := beq_iff_eq.mpr c29
                                  have c29b1 : (t142 != 3) = false := bne_eq_false_iff_eq.mpr c29
                                  clear c29
                                  by_cases c30 : t147 = 0
                                  · rw [if_pos c30] at H
                                    have c30b0 : (t147 == 0) = true := beq_iff_eq.mpr c30
                                    have c30b1 : (t147 != 0) = false := bne_eq_false_iff_eq.mpr c30
                                    clear c30
                                    by_cases c31 : t148.toList = ([] : List UInt8)
                                    · rw [if_pos c31] at H
                                      have c31b0 : (t148.toList == ([] : List UInt8)) = true := beq_iff_eq.mpr c31
                                      have c31b1 : (t148.toList != ([] : List UInt8)) = false := bne_eq_false_iff_eq.mpr c31
                                      clear c31
                                      by_cases c32 : t149 = 0
                                      · rw [if_pos c32] at H
                                        have c32b0 : (t149 == 0) = true := beq_iff_eq.mpr c32
                                        have c32b1 : (t149 != 0) = false := bne_eq_false_iff_eq.mpr c32
                                        clear c32
                                        by_cases c33 : t151 = 8
                                        · rw [if_pos c33] at H
                                          have c33b0 : (t151 == 8) = true := beq_iff_eq.mpr c33
                                          have c33b1 : (t151 != 8) = false := bne_eq_false_iff_eq.mpr c33
                                          clear c33
                                          by_cases c34 : t153 = 7
                                          · rw [if_pos c34] at H
                                            have c34b0 : (t153 == 7) = true := beq_iff_eq.mpr c34
                                            have c34b1 : (t153 != 7) = false := bne_eq_false_iff_eq.mpr c34
                                            clear c34
                                            by_cases c35 : t155 = 24
                                            · rw [if_pos c35] at H
                                              have c35b0 : (t155 == 24) = true := beq_iff_eq.mpr c35
                                              have c35b1 : (t155 != 24) = false := bne_eq_false_iff_eq.mpr c35
                                              clear c35
                                              by_cases c36 : t156 = 0
                                              · rw [if_pos c36] at H
                                                have c36b0 : (t156 == 0) = true := beq_iff_eq.mpr c36
                                                have c36b1 : (t156 != 0) = false := bne_eq_false_iff_eq.mpr c36
                                                clear c36
                                                by_cases c37 : t159 = 7
                                                · rw [if_pos c37] at H
                                                  have c37b0 : (t159 == 7) = true := beq_iff_eq.mpr c37
                                                  have c37b1 : (t159 != 7) = false := bne_eq_false_iff_eq.mpr c37
                                                  clear c37
                                                  by_cases c38 : t162 = 1
                                                  · rw [if_pos c38] at H
                                                    have c38b0 : (t162 == 1) = true := beq_iff_eq.mpr c38
                                                    have c38b1 : (t162 != 1) = false := bne_eq_false_iff_eq.mpr c38
                                                    clear c38
                                                    by_cases c39 : t169 = 3
                                                    · rw [if_pos c39] at H
                                                      have c39b0 : (t169 == 3) = true := beq_iff_eq.mpr c39
                                                      have c39b1 : (t169 != 3) = false := bne_eq_false_iff_eq.mpr c39
                                                      clear c39
                                                      obtain rfl := Option.some.inj H
                                                      go_enter Try.func3, Try.ntmps3
                                                      go_wp2_with (first | ((with_reducible refine gate_callee (f := 9) rfl ?_); refine goesL_ (some 28) rfl rfl Try.func9 (by kernel_rfl) rfl #[.string (⟨#[]⟩ : ByteArray)] rfl (by (try simp only [List.map_toArray, List.map_cons, List.map_nil]); first | done | rfl | (simp only [List.length_drop, List.length_take]; rfl)) ?_; (with_reducible refine (frame_Put.calls k (⟨#[]⟩ : ByteArray) t136 t137 _ A1.out).mono ?_); rintro e w40 ⟨rfl, hb⟩; refine ⟨_, rfl, ?_⟩; have n0_ := Aside0.mk (below_step (by repeat (first | (with_reducible first | exact HB.out | apply below_alloc | apply pw_below_drewN | apply below_drew1) | exact HB.out)) hb); clear HB; have HB := n0_; clear n0_; (try clear hb); (try clear hb2); (try clear hk); (try clear hi)) | ((with_reducible refine gate_dst (N := 35) rfl ?_); (try (refine gate_guard (by rfl) ?_; dsimp only)); refine Kd.R_make (Kd.int .u8) _ 5 rfl (N := 35) rfl 25 _ _ rfl 16385 rfl rfl Try.underlying25 (.int .u8 0) 1 info5 rfl (by decide) (by omega) 0 (ok := fun _ => True) (okp := fun _ => True) rfl (fun _ hk => hk) trivial (by omega) (by omega) (Below.refl _ _) (Nat.le_refl _) ?_; intro v139 w41 ho42 hb hg_ hnew_; clear hg_ hnew_; (first | rw [← Ny138.out] at ho42 | (simp only [Int.reduceToNat] at ho42; rw [← Ny138.out] at ho42)); have n0_ := Aside0.mk (Kd.R_lower ho42 (below_size (by repeat (first | (with_reducible first | exact HB.out | apply below_alloc | apply pw_below_drewN | apply below_drew1) | exact HB.out)))); have n1_ := Aside0.mk (below_step (by repeat (first | (with_reducible first | exact HB.out | apply below_alloc | apply pw_below_drewN | apply below_drew1) | exact HB.out)) hb); clear HB; have HO140 := n0_; have HB := n1_; clear n0_ n1_; clear hb ho42; have hcv43 := own_string (P := Try.prog) Try.underlying25 Try.underlying5 Try.underlying9 (Kd.own_of_R HO140.out)) | ((with_reducible refine gate_callee (f := 9) rfl ?_); refine goesL_ (some 37) rfl rfl Try.func9 (by kernel_rfl) rfl #[.string (strOfNums y138)] rfl (by (try simp only [List.map_toArray, List.map_cons, List.map_nil]); first | done | rfl | (simp only [List.length_drop, List.length_take]; rfl)) ?_; (with_reducible refine (frame_Put.calls k (strOfNums y138) t141 t142 _ A4.out).mono ?_); rintro e w44 ⟨rfl, hb⟩; refine ⟨_, rfl, ?_⟩; have n0_ := Aside0.mk (Kd.R_below (by (with_reducible repeat (first | apply Kd.R_alloc | apply Kd.R_drewN | apply Kd.R_drew)); exact HO140.out) hb); have n1_ := Aside0.mk (below_step (by repeat (first | (with_reducible first | exact HB.out | apply below_alloc | apply pw_below_drewN | apply below_drew1) | exact HB.out)) hb); clear HO140; clear HB; have HO140 := n0_; have HB := n1_; clear n0_ n1_; (try clear hb); (try clear hb2); (try clear hk); (try clear hi)) | ((with_reducible refine gate_dst (N := 41) rfl ?_); (try (refine gate_guard (by rfl) ?_; dsimp only)); refine Kd.R_make (Kd.int .u8) _ 5 rfl (N := 41) rfl 25 _ _ rfl 16384 rfl rfl Try.underlying25 (.int .u8 0) 1 info5 rfl (by decide) (by omega) 0 (ok := fun _ => True) (okp := fun _ => True) rfl (fun _ hk => hk) trivial (by omega) (by omega) (Below.refl _ _) (Nat.le_refl _) ?_; intro v144 w45 ho46 hb hg_ hnew_; clear hg_ hnew_; (first | rw [← Ny143.out] at ho46 | (simp only [Int.reduceToNat] at ho46; rw [← Ny143.out] at ho46)); have n0_ := Aside0.mk (Kd.R_elder' (by (with_reducible repeat (first | apply Kd.R_alloc | apply Kd.R_drewN | apply Kd.R_drew)); exact HO140.out) (Kd.R_base ho46) hb); have n1_ := Aside0.mk (Kd.R_lower (Kd.R_new' ho46 (Kd.R_lt (by (with_reducible repeat (first | apply Kd.R_alloc | apply Kd.R_drewN | apply Kd.R_drew)); exact HO140.out))) (below_size (by repeat (first | (with_reducible first | exact HB.out | apply below_alloc | apply pw_below_drewN | apply below_drew1) | exact HB.out)))); have n2_ := Aside0.mk (below_step (by repeat (first | (with_reducible first | exact HB.out | apply below_alloc | apply pw_below_drewN | apply below_drew1) | exact HB.out)) hb); clear HO140; clear HB; have HO140 := n0_; have HO145 := n1_; have HB := n2_; clear n0_ n1_ n2_; clear hb ho46; have hcv47 := own_string (P := Try.prog) Try.underlying25 Try.underlying5 Try.underlying9 (Kd.own_of_R HO145.out)) | ((with_reducible refine gate_callee (f := 9) rfl ?_); refine goesL_ (some 43) rfl rfl Try.func9 (by kernel_rfl) rfl #[.string (strOfNums y143)] rfl (by (try simp only [List.map_toArray, List.map_cons, List.map_nil]); first | done | rfl | (simp only [List.length_drop, List.length_take]; rfl)) ?_; (with_reducible refine (frame_Put.calls k (strOfNums y143) t146 t147 _ A6.out).mono ?_); rintro e w48 ⟨rfl, hb⟩; refine ⟨_, rfl, ?_⟩; have n0_ := Aside0.mk (Kd.R_below (by (with_reducible repeat (first | apply Kd.R_alloc | apply Kd.R_drewN | apply Kd.R_drew)); exact HO140.out) hb); have n1_ := Aside0.mk (Kd.R_below (by (with_reducible repeat (first | apply Kd.R_alloc | apply Kd.R_drewN | apply Kd.R_drew)); exact HO145.out) hb); have n2_ := Aside0.mk (below_step (by repeat (first | (with_reducible first | exact HB.out | apply below_alloc | apply pw_below_drewN | apply below_drew1) | exact HB.out)) hb); clear HO140; clear HO145; clear HB; have HO140 := n0_; have HO145 := n1_; have HB := n2_; clear n0_ n1_ n2_; (try clear hb); (try clear hb2); (try clear hk); (try clear hi)) | ((with_reducible refine gate_callee (f := 10) rfl ?_); refine goesL_ (some 48) rfl rfl Try.func10 (by kernel_rfl) rfl #[.string t136] rfl (by (try simp only [List.map_toArray, List.map_cons, List.map_nil]); first | done | rfl | (simp only [List.length_drop, List.length_take]; rfl)) ?_; (with_reducible refine (frame_Whole.calls k t136 t148 t149 _ A7.out).mono ?_); rintro e w49 ⟨rfl, hb⟩; refine ⟨_, rfl, ?_⟩; have n0_ := Aside0.mk (Kd.R_below (by (with_reducible repeat (first | apply Kd.R_alloc | apply Kd.R_drewN | apply Kd.R_drew)); exact HO140.out) hb); have n1_ := Aside0.mk (Kd.R_below (by (with_reducible repeat (first | apply Kd.R_alloc | apply Kd.R_drewN | apply Kd.R_drew)); exact HO145.out) hb); have n2_ := Aside0.mk (below_step (by repeat (first | (with_reducible first | exact HB.out | apply below_alloc | apply pw_below_drewN | apply below_drew1) | exact HB.out)) hb); clear HO140; clear HO145; clear HB; have HO140 := n0_; have HO145 := n1_; have HB := n2_; clear n0_ n1_ n2_; (try clear hb); (try clear hb2); (try clear hk); (try clear hi)) | ((with_reducible refine gate_callee (f := 10) rfl ?_); refine goesL_ (some 54) rfl rfl Try.func10 (by kernel_rfl) rfl #[.string (t136 ++ (⟨#[120]⟩ : ByteArray))] rfl (by (try simp only [List.map_toArray, List.map_cons, List.map_nil]); first | done | rfl | (simp only [List.length_drop, List.length_take]; rfl)) ?_; (with_reducible refine (frame_Whole.calls k (t136 ++ (⟨#[120]⟩ : ByteArray)) t150 t151 _ A9.out).mono ?_); rintro e w50 ⟨rfl, hb⟩; refine ⟨_, rfl, ?_⟩; have n0_ := Aside0.mk (Kd.R_below (by (with_reducible repeat (first | apply Kd.R_alloc | apply Kd.R_drewN | apply Kd.R_drew)); exact HO140.out) hb); have n1_ := Aside0.mk (Kd.R_below (by (with_reducible repeat (first | apply Kd.R_alloc | apply Kd.R_drewN | apply Kd.R_drew)); exact HO145.out) hb); have n2_ := Aside0.mk (below_step (by repeat (first | (with_reducible first | exact HB.out | apply below_alloc | apply pw_below_drewN | apply below_drew1) | exact HB.out)) hb); clear HO140; clear HO145; clear HB; have HO140 := n0_; have HO145 := n1_; have HB := n2_; clear n0_ n1_ n2_; (try clear hb); (try clear hb2); (try clear hk); (try clear hi)) | ((with_reducible refine gate_callee (f := 10) rfl ?_); refine goesL_ (some 63) rfl rfl Try.func10 (by kernel_rfl) rfl #[.string (t136.extract 0 ((ji10) : Int).toNat)] rfl (by (try simp only [List.map_toArray, List.map_cons, List.map_nil]); first | done | (simp only [hji10]; rfl) | rfl | (simp only [List.length_drop, List.length_take]; rfl)) ?_; (with_reducible refine (frame_Whole.calls k (t136.extract 0 ((ji10) : Int).toNat) t152 t153 _ A13.out).mono ?_); rintro e w51 ⟨rfl, hb⟩; refine ⟨_, rfl, ?_⟩; have n0_ := Aside0.mk (Kd.R_below (by (with_reducible repeat (first | apply Kd.R_alloc | apply Kd.R_drewN | apply Kd.R_drew)); exact HO140.out) hb); have n1_ := Aside0.mk (Kd.R_below (by (with_reducible repeat (first | apply Kd.R_alloc | apply Kd.R_drewN | apply Kd.R_drew)); exact HO145.out) hb); have n2_ := Aside0.mk (below_step (by repeat (first | (with_reducible first | exact HB.out | apply below_alloc | apply pw_below_drewN | apply below_drew1) | exact HB.out)) hb); clear HO140; clear HO145; clear HB; have HO140 := n0_; have HO145 := n1_; have HB := n2_; clear n0_ n1_ n2_; (try clear hb); (try clear hb2); (try clear hk); (try clear hi)) | ((with_reducible refine gate_callee (f := 11) rfl ?_); refine goesL_ (some 70) rfl rfl Try.func11 (by kernel_rfl) rfl #[.string (t136 ++ t136), .int .i64 12] rfl (by (try simp only [List.map_toArray, List.map_cons, List.map_nil]); first | done | rfl | (simp only [List.length_drop, List.length_take]; rfl)) ?_; (with_reducible refine (frame_Next.calls k (t136 ++ t136) 12 t154 t155 t156 _ A15.out).mono ?_); rintro e w52 ⟨rfl, hb⟩; refine ⟨_, rfl, ?_⟩; have n0_ := Aside0.mk (Kd.R_below (by (with_reducible repeat (first | apply Kd.R_alloc | apply Kd.R_drewN | apply Kd.R_drew)); exact HO140.out) hb); have n1_ := Aside0.mk (Kd.R_below (by (with_reducible repeat (first | apply Kd.R_alloc | apply Kd.R_drewN | apply Kd.R_drew)); exact HO145.out) hb); have n2_ := Aside0.mk (below_step (by repeat (first | (with_reducible first | exact HB.out | apply below_alloc | apply pw_below_drewN | apply below_drew1) | exact HB.out)) hb); clear HO140; clear HO145; clear HB; have HO140 := n0_; have HO145 := n1_; have HB := n2_; clear n0_ n1_ n2_; (try clear hb); (try clear hb2); (try clear hk); (try clear hi)) | ((with_reducible refine gate_callee (f := 11) rfl ?_); refine goesL_ (some 78) rfl rfl Try.func11 (by kernel_rfl) rfl #[.string (t136 ++ t136), .int .i64 24] rfl (by (try simp only [List.map_toArray, List.map_cons, List.map_nil]); first | done | rfl | (simp only [List.length_drop, List.length_take]; rfl)) ?_; (with_reducible refine (frame_Next.calls k (t136 ++ t136) 24 t157 t158 t159 _ A16.out).mono ?_); rintro e w53 ⟨rfl, hb⟩; refine ⟨_, rfl, ?_⟩; have n0_ := Aside0.mk (Kd.R_below (by (with_reducible repeat (first | apply Kd.R_alloc | apply Kd.R_drewN | apply Kd.R_drew)); exact HO140.out) hb); have n1_ := Aside0.mk (Kd.R_below (by (with_reducible repeat (first | apply Kd.R_alloc | apply Kd.R_drewN | apply Kd.R_drew)); exact HO145.out) hb); have n2_ := Aside0.mk (below_step (by repeat (first | (with_reducible first | exact HB.out | apply below_alloc | apply pw_below_drewN | apply below_drew1) | exact HB.out)) hb); clear HO140; clear HO145; clear HB; have HO140 := n0_; have HO145 := n1_; have HB := n2_; clear n0_ n1_ n2_; (try clear hb); (try clear hb2); (try clear hk); (try clear hi)) | ((with_reducible refine gate_callee (f := 11) rfl ?_); refine goesL_ (some 86) rfl rfl Try.func11 (by kernel_rfl) rfl #[.string (t136 ++ t136), .int .i64 25] rfl (by (try simp only [List.map_toArray, List.map_cons, List.map_nil]); first | done | rfl | (simp only [List.length_drop, List.length_take]; rfl)) ?_; (with_reducible refine (frame_Next.calls k (t136 ++ t136) 25 t160 t161 t162 _ A17.out).mono ?_); rintro e w54 ⟨rfl, hb⟩; refine ⟨_, rfl, ?_⟩; have n0_ := Aside0.mk (Kd.R_below (by (with_reducible repeat (first | apply Kd.R_alloc | apply Kd.R_drewN | apply Kd.R_drew)); exact HO140.out) hb); have n1_ := Aside0.mk (Kd.R_below (by (with_reducible repeat (first | apply Kd.R_alloc | apply Kd.R_drewN | apply Kd.R_drew)); exact HO145.out) hb); have n2_ := Aside0.mk (below_step (by repeat (first | (with_reducible first | exact HB.out | apply below_alloc | apply pw_below_drewN | apply below_drew1) | exact HB.out)) hb); clear HO140; clear HO145; clear HB; have HO140 := n0_; have HO145 := n1_; have HB := n2_; clear n0_ n1_ n2_; (try clear hb); (try clear hb2); (try clear hk); (try clear hi)) | ((with_reducible refine gate_callee (f := 12) rfl ?_); refine goesL_ (some 91) rfl rfl Try.func12 (by kernel_rfl) rfl #[.string (⟨#[1, 64, 0, 0]⟩ : ByteArray)] rfl (by (try simp only [List.map_toArray, List.map_cons, List.map_nil]); first | done | rfl | (simp only [List.length_drop, List.length_take]; rfl)) ?_; (with_reducible refine (meterref01_Crc.calls k (⟨#[1, 64, 0, 0]⟩ : ByteArray) t163 _ A18.out).mono ?_); rintro e w' ⟨rfl, ⟨nd, rfl⟩⟩; refine ⟨_, rfl, ?_⟩) | ((with_reducible refine gate_dst (N := 105) rfl ?_); (try (refine gate_guard (by rfl) ?_; dsimp only)); refine Kd.R_lit (Kd.int .u8) _ 5 ?hg (N := 105) ?hd (xs := ([(t163) % 256, (t163 / 256) % 256, (t163 / 65536) % 256, (t163 / 16777216) % 256] : List Int)) (inner := [.int .u8 ((t163) % 256), .int .u8 ((t163 / 256) % 256), .int .u8 ((t163 / 65536) % 256), .int .u8 ((t163 / 16777216) % 256)]) (ok := fun _ => True) (okp := fun _ => True) ?hr ?hp (fun _ hk => hk) trivial (Below.refl _ _) (Nat.le_refl _) (by simp) ?_; (case hd => rfl); (case hg => rfl); (case hr => first | (go_simp; done) | (go_simp; rfl)); (case hp => exact (Reps.one (show Kd.M (Kd.int .u8) _ _ _ ((t163) % 256) [.int .u8 ((t163) % 256)] from rfl) (Reps.one (show Kd.M (Kd.int .u8) _ _ _ ((t163 / 256) % 256) [.int .u8 ((t163 / 256) % 256)] from rfl) (Reps.one (show Kd.M (Kd.int .u8) _ _ _ ((t163 / 65536) % 256) [.int .u8 ((t163 / 65536) % 256)] from rfl) (Reps.one (show Kd.M (Kd.int .u8) _ _ _ ((t163 / 16777216) % 256) [.int .u8 ((t163 / 16777216) % 256)] from rfl) (Reps.none _ _)))))); intro v165 w55 ho56 hb hg_ hnew_; clear hg_ hnew_; (first | rw [← Ny164.out] at ho56 | (simp only [Int.reduceToNat] at ho56; rw [← Ny164.out] at ho56)); have n0_ := Aside0.mk (Kd.R_elder' (by (with_reducible repeat (first | apply Kd.R_alloc | apply Kd.R_drewN | apply Kd.R_drew)); exact HO140.out) (Kd.R_base ho56) hb); have n1_ := Aside0.mk (Kd.R_elder' (by (with_reducible repeat (first | apply Kd.R_alloc | apply Kd.R_drewN | apply Kd.R_drew)); exact HO145.out) (Kd.R_base ho56) hb); have n2_ := Aside0.mk (Kd.R_lower (Kd.R_new' (Kd.R_new' ho56 (Kd.R_lt (by (with_reducible repeat (first | apply Kd.R_alloc | apply Kd.R_drewN | apply Kd.R_drew)); exact HO140.out))) (Kd.R_lt (by (with_reducible repeat (first | apply Kd.R_alloc | apply Kd.R_drewN | apply Kd.R_drew)); exact HO145.out))) (below_size (by repeat (first | (with_reducible first | exact HB.out | apply below_alloc | apply pw_below_drewN | apply below_drew1) | exact HB.out)))); have n3_ := Aside0.mk (below_step (by repeat (first | (with_reducible first | exact HB.out | apply below_alloc | apply pw_below_drewN | apply below_drew1) | exact HB.out)) hb); clear HO140; clear HO145; clear HB; have HO140 := n0_; have HO145 := n1_; have HO166 := n2_; have HB := n3_; clear n0_ n1_ n2_ n3_; clear hb ho56; have hcv57 := own_string (P := Try.prog) Try.underlying25 Try.underlying5 Try.underlying9 (Kd.own_of_R HO166.out)) | ((with_reducible refine gate_callee (f := 11) rfl ?_); refine goesL_ (some 108) rfl rfl Try.func11 (by kernel_rfl) rfl #[.string ((⟨#[1, 64, 0, 0]⟩ : ByteArray) ++ (strOfNums y164)), .int .i64 0] rfl (by (try simp only [List.map_toArray, List.map_cons, List.map_nil]); first | done | rfl | (simp only [List.length_drop, List.length_take]; rfl)) ?_; (with_reducible refine (frame_Next.calls k ((⟨#[1, 64, 0, 0]⟩ : ByteArray) ++ (strOfNums y164)) 0 t167 t168 t169 _ A20.out).mono ?_); rintro e w58 ⟨rfl, hb⟩; refine ⟨_, rfl, ?_⟩; have n0_ := Aside0.mk (Kd.R_below (by (with_reducible repeat (first | apply Kd.R_alloc | apply Kd.R_drewN | apply Kd.R_drew)); exact HO140.out) hb); have n1_ := Aside0.mk (Kd.R_below (by (with_reducible repeat (first | apply Kd.R_alloc | apply Kd.R_drewN | apply Kd.R_drew)); exact HO145.out) hb); have n2_ := Aside0.mk (Kd.R_below (by (with_reducible repeat (first | apply Kd.R_alloc | apply Kd.R_drewN | apply Kd.R_drew)); exact HO166.out) hb); have n3_ := Aside0.mk (below_step (by repeat (first | (with_reducible first | exact HB.out | apply below_alloc | apply pw_below_drewN | apply below_drew1) | exact HB.out)) hb); clear HO140; clear HO145; clear HO166; clear HB; have HO140 := n0_; have HO145 := n1_; have HO166 := n2_; have HB := n3_; clear n0_ n1_ n2_ n3_; (try clear hb); (try clear hb2); (try clear hk); (try clear hi)) | ((with_reducible refine gate_callee (f := 13) rfl ?_); refine goesL_ (some 112) rfl rfl Try.func13 (by kernel_rfl) rfl #[] rfl (by (try simp only [List.map_toArray, List.map_cons, List.map_nil]); first | done | rfl | (simp only [List.length_drop, List.length_take]; rfl)) ?_; (with_reducible refine (meterlaw03_awake.calls k  true _ A21.out).mono ?_); rintro e w59 ⟨rfl, hb⟩; refine ⟨_, rfl, ?_⟩; have n0_ := Aside0.mk (Kd.R_below (by (with_reducible repeat (first | apply Kd.R_alloc | apply Kd.R_drewN | apply Kd.R_drew)); exact HO140.out) hb); have n1_ := Aside0.mk (Kd.R_below (by (with_reducible repeat (first | apply Kd.R_alloc | apply Kd.R_drewN | apply Kd.R_drew)); exact HO145.out) hb); have n2_ := Aside0.mk (Kd.R_below (by (with_reducible repeat (first | apply Kd.R_alloc | apply Kd.R_drewN | apply Kd.R_drew)); exact HO166.out) hb); have n3_ := Aside0.mk (below_step (by repeat (first | (with_reducible first | exact HB.out | apply below_alloc | apply pw_below_drewN | apply below_drew1) | exact HB.out)) hb); clear HO140; clear HO145; clear HO166; clear HB; have HO140 := n0_; have HO145 := n1_; have HO166 := n2_; have HB := n3_; clear n0_ n1_ n2_ n3_; (try clear hb); (try clear hb2); (try clear hk); (try clear hi)))
                                                      refine (meterlaw03_awake.calls k  true _ A21.out).mono ?_
                                                      rintro e w59 ⟨rfl, hb⟩; have n0_ := Aside0.mk (Kd.R_below (by (with_reducible repeat (first | apply Kd.R_alloc | apply Kd.R_drewN | apply Kd.R_drew)); exact HO140.out) hb); have n1_ := Aside0.mk (Kd.R_below (by (with_reducible repeat (first | apply Kd.R_alloc | apply Kd.R_drewN | apply Kd.R_drew)); exact HO145.out) hb); have n2_ := Aside0.mk (Kd.R_below (by (with_reducible repeat (first | apply Kd.R_alloc | apply Kd.R_drewN | apply Kd.R_drew)); exact HO166.out) hb); have n3_ := Aside0.mk (below_step (by repeat (first | (with_reducible first | exact HB.out | apply below_alloc | apply pw_below_drewN | apply below_drew1) | exact HB.out)) hb); clear HO140; clear HO145; clear HO166; clear HB; have HO140 := n0_; have HO145 := n1_; have HO166 := n2_; have HB := n3_; clear n0_ n1_ n2_ n3_; (try clear hb); (try clear hb2); (try clear hk); (try clear hi)
                                                      go_wp2
                                                      go_ret
                                                      exact ⟨by first | rfl | (simp [errW_none, errW_some] <;> rfl) | (simp only [← hji10]; first | rfl | (simp [errW_none, errW_some] <;> rfl)) | (simp [*, errW_none, errW_some] <;> rfl), by repeat (first | (with_reducible first | exact HB.out | apply below_alloc | apply pw_below_drewN | apply below_drew1) | exact HB.out)⟩
                                                    · rw [if_neg c39] at H
                                                      have c39b0 : (t169 == 3) = false := beq_eq_false_iff_ne.mpr c39
                                                      have c39b1 : (t169 != 3) = true := bne_iff_ne.mpr c39
                                                      exact absurd (H.trans (congrArg some HRT.out)) (by simp)
                                                  · rw [if_neg c38] at H
                                                    have c38b0 : (t162 == 1) = false := beq_eq_false_iff_ne.mpr c38
                                                    have c38b1 : (t162 != 1) = true := bne_iff_ne.mpr c38
                                                    exact absurd (H.trans (congrArg some HRT.out)) (by simp)
                                                · rw [if_neg c37] at H
                                                  have c37b0 : (t159 == 7) = false := beq_eq_false_iff_ne.mpr c37
                                                  have c37b1 : (t159 != 7) = true := bne_iff_ne.mpr c37
                                                  exact absurd (H.trans (congrArg some HRT.out)) (by simp)
                                              · rw [if_neg c36] at H
                                                have c36b0 : (t156 == 0) = false := beq_eq_false_iff_ne.mpr c36
                                                have c36b1 : (t156 != 0) = true := bne_iff_ne.mpr c36
                                                exact absurd (H.trans (congrArg some HRT.out)) (by simp)
                                            · rw [if_neg c35] at H
                                              have c35b0 : (t155 == 24) = false := beq_eq_false_iff_ne.mpr c35
                                              have c35b1 : (t155 != 24) = true := bne_iff_ne.mpr c35
                                              exact absurd (H.trans (congrArg some HRT.out)) (by simp)
                                          · rw [if_neg c34] at H
                                            have c34b0 : (t153 == 7) = false := beq_eq_false_iff_ne.mpr c34
                                            have c34b1 : (t153 != 7) = true := bne_iff_ne.mpr c34
                                            exact absurd (H.trans (congrArg some HRT.out)) (by simp)
                                        · rw [if_neg c33] at H
                                          have c33b0 : (t151 == 8) = false := beq_eq_false_iff_ne.mpr c33
                                          have c33b1 : (t151 != 8) = true := bne_iff_ne.mpr c33
                                          exact absurd (H.trans (congrArg some HRT.out)) (by simp)
                                      · rw [if_neg c32] at H
                                        have c32b0 : (t149 == 0) = false := beq_eq_false_iff_ne.mpr c32
                                        have c32b1 : (t149 != 0) = true := bne_iff_ne.mpr c32
                                        exact absurd (H.trans (congrArg some HRT.out)) (by simp)
                                    · rw [if_neg c31] at H
                                      have c31b0 : (t148.toList == ([] : List UInt8)) = false := beq_eq_false_iff_ne.mpr c31
                                      have c31b1 : (t148.toList != ([] : List UInt8)) = true := bne_iff_ne.mpr c31
                                      exact absurd (H.trans (congrArg some HRT.out)) (by simp)
                                  · rw [if_neg c30] at H
                                    have c30b0 : (t147 == 0) = false := beq_eq_false_iff_ne.mpr c30
                                    have c30b1 : (t147 != 0) = true := bne_iff_ne.mpr c30
                                    exact absurd (H.trans (congrArg some HRT.out)) (by simp)
                                · rw [if_neg c29] at H
                                  have c29b0 : (t142 == 3) = false := beq_eq_false_iff_ne.mpr c29
                                  have c29b1 : (t142 != 3) = true := bne_iff_ne.mpr c29
                                  exact absurd (H.trans (congrArg some HRT.out)) (by simp)
                              · rw [if_neg c28] at H
                                have c28b0 : ((t136.extract 8 t136.size).toList == ([0, 0, 0, 0] : List UInt8)) = false := beq_eq_false_iff_ne.mpr c28
                                try (have c28x0 := c28b0; simp only [ByteArray.size_extract, Nat.min_self] at c28x0)
                                have c28b1 : ((t136.extract 8 t136.size).toList != ([0, 0, 0, 0] : List UInt8)) = true := bne_iff_ne.mpr c28
                                try (have c28x1 := c28b1; simp only [ByteArray.size_extract, Nat.min_self] at c28x1)
                                exact absurd (H.trans (congrArg some HRT.out)) (by simp)
                            · rw [if_neg c27] at H
                              exact absurd H (by simp)
                          · rw [if_neg c26] at H
                            have c26b0 : ((t136.extract 0 4).toList == ([0, 0, 0, 0] : List UInt8)) = false := beq_eq_false_iff_ne.mpr c26
                            have c26b1 : ((t136.extract 0 4).toList != ([0, 0, 0, 0] : List UInt8)) = true := bne_iff_ne.mpr c26
                            exact absurd (H.trans (congrArg some HRT.out)) (by simp)
                        · rw [if_neg c25] at H
                          exact absurd H (by simp)
                      · rw [if_neg c24] at H
                        exact absurd H (by simp)
                    · rw [if_neg c23] at H
                      have c23b0 : (t137 == 0) = false := beq_eq_false_iff_ne.mpr c23
                      have c23b1 : (t137 != 0) = true := bne_iff_ne.mpr c23
                      exact absurd (H.trans (congrArg some HRT.out)) (by simp)
                  · replace c22 := Bool.eq_false_iff.mpr c22
                    subst c22
                    have H1 : (some false) = some r := by rw [if_neg (show ¬ (false = true) by decide)] at H; exact H
                    clear H
                    have H := H1
                    clear H1
                    exact absurd (H.trans (congrArg some HRT.out)) (by simp)
                · rw [if_neg c19] at H
                  exact absurd H (by simp)
              · rw [if_neg c14] at H
                exact absurd H (by simp)
            · rw [if_neg c12] at H
              exact absurd H (by simp)
          · rw [if_neg c11] at H
            exact absurd H (by simp)
        · rw [if_neg c8] at H
          exact absurd H (by simp)
      · rw [if_neg c5] at H
        exact absurd H (by simp)
    · rw [if_neg c3] at H
      exact absurd H (by simp)
  · rw [if_neg c2] at H
    have c2b0 : ((t136.size : Int) == 12) = false := beq_eq_false_iff_ne.mpr c2
    have c2b1 : ((t136.size : Int) != 12) = true := bne_iff_ne.mpr c2
    exact absurd (H.trans (congrArg some HRT.out)) (by simp)

/-- THE ONE PURE STATEMENT of meterlaw03_FrameKnown: yours. -/
def meterlaw03_FrameKnown.Pure : Prop := ∃ k, meterlaw03_FrameKnown.f k  = some true
theorem meterlaw03_FrameKnown.walk (P : meterlaw03_FrameKnown.Pure)  (w : World)  :
    Calls Try.prog 3 #[] w fun e w' => e = .returned (.bool true) ∧ Below w.heap.size w w' := by
  obtain ⟨k, h⟩ := P  
  refine (meterlaw03_FrameKnown.calls k  true w h rfl).mono ?_
  rintro e w' ⟨rfl, hd⟩
  exact ⟨rfl, hd⟩

end Go.Proofs.Ytpfipeopacjkjaa.PFrameKnown
