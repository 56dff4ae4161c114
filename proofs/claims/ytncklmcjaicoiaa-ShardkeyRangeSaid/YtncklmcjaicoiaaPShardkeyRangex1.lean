-- PRINTED BY print.sh 35421559b90ae4d0a3588c463048766b98c2df88dd9212a6774a882060cdf62d: not written by this session
import Derived.Test.YtncklmcjaicoiaaPShardkeyRangex0
namespace Go.Proofs.Ytncklmcjaicoiaa.PShardkeyRange
open Go.RowKit Go.Proofs.YtncklmcjaicoiaaW.PrintWords Go.Proofs.YtncklmcjaicoiaaW.PrintLast Go.Proofs.YtncklmcjaicoiaaW.PrintMore
attribute [local go_sem] max2_int min2_int max_two min_two max_three min_three max_four min_four   -- for this text's walks alone
set_option linter.unusedVariables false
set_option linter.unusedSimpArgs false

/-! ### shardkey_Print: function 9 -/
def shardkey_Print.l0 : Nat → ByteArray → Int → Int → Int → Option (Int)
  | 0, _, _, _, _ => none
  | k + 1, x0, x3, x6, x7 => if x7 < x6 then (if 0 ≤ x7 then (if x7 < (x0.size : Int) then (shardkey_Print.l0 k x0 (IntKind.u64.wrap ((Go.bits .xor .u64 x3 (IntKind.u64.wrap (bt x0 x7))) * 1099511628211)) x6 (wrap64 (x7 + 1))) else (none)) else (none)) else (some x3)
def shardkey_Print.f (k : Nat) (a0 : ByteArray) : Option (Int) := shardkey_Print.l0 k a0 14695981039346656037 (a0.size : Int) 0
theorem shardkey_Print.mono_l : ∀ k, (∀ y0 y1 y2 y3, LeO (shardkey_Print.l0 k y0 y1 y2 y3) (shardkey_Print.l0 (k + 1) y0 y1 y2 y3))
  | 0 => fun _ _ _ _ r h => by simp [shardkey_Print.l0] at h
  | k + 1 => by
    have ih0 := shardkey_Print.mono_l k
    · intro y0 y1 y2 y3
      unfold shardkey_Print.l0
      repeat' first
      | (with_reducible exact ih0 _ _ _ _)
      | (with_reducible exact LeO.refl _)
      | (with_reducible exact LeO.none _)
      | (with_reducible refine LeO.ite ?_ ?_)
      | (with_reducible refine LeO.bind ?_ (fun _ => ?_))
      | exact ih0 _ _ _ _
      | exact LeO.none _
      | refine LeO.ite ?_ ?_
      | refine LeO.bind ?_ (fun _ => ?_)
theorem shardkey_Print.mono : ∀ a0 k, LeO (shardkey_Print.f k a0) (shardkey_Print.f (k + 1) a0) := by
  intro a0 k
  have ih0 := shardkey_Print.mono_l k
  unfold shardkey_Print.f
  repeat' first
      | (with_reducible exact ih0 _ _ _ _)
      | (with_reducible exact LeO.refl _)
      | (with_reducible exact LeO.none _)
      | (with_reducible refine LeO.ite ?_ ?_)
      | (with_reducible refine LeO.bind ?_ (fun _ => ?_))
      | exact ih0 _ _ _ _
      | exact LeO.none _
      | refine LeO.ite ?_ ?_
      | refine LeO.bind ?_ (fun _ => ?_)
set_option maxHeartbeats 8000000 in
set_option maxRecDepth 100000 in
theorem shardkey_Print.calls (k : Nat) (a0 : ByteArray) (r : Int) (w : World) (h : shardkey_Print.f k a0 = some r) :
    Calls Try.prog 9 #[.string a0] w fun e w' => e = .returned (.int .u64 r) ∧ Drawn0 w w' := by
  have H : (shardkey_Print.l0 k a0 14695981039346656037 (a0.size : Int) 0) = some r := h
  clear h
  have H' := Aside0.mk H
  clear H
  go_enter Try.func9, Try.ntmps9
  go_wp2
  go_loopg [3, 7] k (fun kq v3 v7 w' => ∃ (x3_1 : Int) (x7_1 : Int), v3 = .int .u64 x3_1 ∧ v7 = .int .i64 x7_1 ∧ Aside0 (shardkey_Print.l0 kq a0 x3_1 (a0.size : Int) x7_1 = some r) ∧ Aside0 (kq ≤ k) ∧ Drawn0 w w')
  case atStart => exact ⟨(14695981039346656037), (0), (by first | rfl | (simp; done) | (simp [*]; done)), (by first | rfl | (simp; done) | (simp [*]; done)), H', ⟨Nat.le_refl _⟩, by repeat (first | exact Drawn0.refl _ | apply Drawn0.step)⟩
  case round =>
    clear H'
    obtain ⟨x3_1, x7_1, rfl, rfl, HA, HK1, ⟨m1, rfl⟩⟩ := hrel
    cases gk with
    | zero => exact absurd HA.out (by simp [shardkey_Print.l0])
    | succ k1 =>
      have H := HA.out
      clear HA
      simp only [shardkey_Print.l0] at H
      by_cases c2 : x7_1 < (a0.size : Int)
      · rw [if_pos c2] at H
        have c2b0 : decide (x7_1 < (a0.size : Int)) = true := decide_eq_true c2
        clear c2
        by_cases c3 : 0 ≤ x7_1
        · rw [if_pos c3] at H
          have c3b0 : decide (0 ≤ x7_1) = true := decide_eq_true c3
          clear c3
          by_cases c4 : x7_1 < (a0.size : Int)
          · rw [if_pos c4] at H
            have c4b0 : decide (x7_1 < (a0.size : Int)) = true := decide_eq_true c4
            clear c4
            have H' := Aside0.mk H
            clear H
            have p5 : 0 ≤ (x7_1 : Int) := of_decide_eq_true (by first | (with_reducible assumption) | assumption)
            have q5 : x7_1 < (a0.size : Int) := of_decide_eq_true (by first | (with_reducible assumption) | assumption)
            have hx5 := bt_at a0 x7_1
            replace p5 := eq_true p5
            replace q5 := eq_true q5
            go_wp2
            go_roundg k1
            case measure => have := HK1.out; omega
            case rel => exact ⟨(IntKind.u64.wrap ((Go.bits .xor .u64 x3_1 (IntKind.u64.wrap (bt a0 x7_1))) * 1099511628211)), (wrap64 (x7_1 + 1)), (by first | rfl | (simp; done) | (simp [*]; done)), (by first | rfl | (simp; done) | (simp [*]; done)), H', ⟨by have := HK1.out; omega⟩, by repeat (first | exact Drawn0.refl _ | apply Drawn0.step)⟩
          · rw [if_neg c4] at H
            exact absurd H (by simp)
        · rw [if_neg c3] at H
          exact absurd H (by simp)
      · rw [if_neg c2] at H
        have c2b0 : decide (x7_1 < (a0.size : Int)) = false := decide_eq_false c2
        clear c2
        obtain rfl := Option.some.inj H
        go_wp2
        go_ret
        exact ⟨by first | rfl | (simp; done) | (simp [*]; done), by repeat (first | exact Drawn0.refl _ | apply Drawn0.step)⟩

/-! ### meterlaw06_awake: function 8 -/
def meterlaw06_awake.f (k : Nat)  : Option (Bool) := (shardkey_Print.f k (⟨#[97]⟩ : ByteArray)).bind fun t101 => (some (t101 == 12638187200555641996))
theorem meterlaw06_awake.mono : ∀ k, LeO (meterlaw06_awake.f k ) (meterlaw06_awake.f (k + 1) ) := by
  intro  k
  unfold meterlaw06_awake.f
  repeat' first
      | (with_reducible exact shardkey_Print.mono _ _)
      | (with_reducible exact LeO.refl _)
      | (with_reducible exact LeO.none _)
      | (with_reducible refine LeO.ite ?_ ?_)
      | (with_reducible refine LeO.bind ?_ (fun _ => ?_))
      | exact shardkey_Print.mono _ _
      | exact LeO.none _
      | refine LeO.ite ?_ ?_
      | refine LeO.bind ?_ (fun _ => ?_)
set_option maxHeartbeats 8000000 in
set_option maxRecDepth 100000 in
theorem meterlaw06_awake.calls (k : Nat)  (r : Bool) (w : World) (h : meterlaw06_awake.f k  = some r) :
    Calls Try.prog 8 #[] w fun e w' => e = .returned (.bool r) ∧ Drawn0 w w' := by
  have H : ((shardkey_Print.f k (⟨#[97]⟩ : ByteArray)).bind fun t101 => (some (t101 == 12638187200555641996))) = some r := h
  clear h
  replace H := Option.bind_eq_some_iff.mp H
  obtain ⟨t101, A10, H⟩ := H
  replace H : (some (t101 == 12638187200555641996)) = some r := H
  have A1 := Aside0.mk A10
  clear A10
  obtain rfl := Option.some.inj H
  go_enter Try.func8, Try.ntmps8
  go_wp2_with (first | ((with_reducible refine gate_callee (f := 9) rfl ?_); refine goesL_ (some 1) rfl rfl Try.func9 (by kernel_rfl) rfl #[.string (⟨#[97]⟩ : ByteArray)] rfl (by (try simp only [List.map_toArray, List.map_cons, List.map_nil]); first | done | rfl | (simp only [List.length_drop, List.length_take]; rfl)) ?_; (with_reducible refine (shardkey_Print.calls k (⟨#[97]⟩ : ByteArray) t101 _ A1.out).mono ?_); rintro e w' ⟨rfl, ⟨nd, rfl⟩⟩; refine ⟨_, rfl, ?_⟩))
  go_ret
  exact ⟨by first | rfl | (simp; done) | (simp [*]; done), by repeat (first | exact Drawn0.refl _ | apply Drawn0.step)⟩

/-! ### shardkey_Of: function 10 -/
def shardkey_Of.f (k : Nat) (a0 : ByteArray) (a1 : Int) : Option (Int) := if a1 < 1 then (some 0) else ((shardkey_Print.f k a0).bind fun t102 => (if (IntKind.u64.wrap (a1)) = 0 then (none) else (some (wrap64 (Int.tmod t102 (IntKind.u64.wrap (a1)))))))
theorem shardkey_Of.mono : ∀ a0 a1 k, LeO (shardkey_Of.f k a0 a1) (shardkey_Of.f (k + 1) a0 a1) := by
  intro a0 a1 k
  unfold shardkey_Of.f
  repeat' first
      | (with_reducible exact shardkey_Print.mono _ _)
      | (with_reducible exact LeO.refl _)
      | (with_reducible exact LeO.none _)
      | (with_reducible refine LeO.ite ?_ ?_)
      | (with_reducible refine LeO.bind ?_ (fun _ => ?_))
      | exact shardkey_Print.mono _ _
      | exact LeO.none _
      | refine LeO.ite ?_ ?_
      | refine LeO.bind ?_ (fun _ => ?_)
set_option maxHeartbeats 8000000 in
set_option maxRecDepth 100000 in
theorem shardkey_Of.calls (k : Nat) (a0 : ByteArray) (a1 : Int) (r : Int) (w : World) (h : shardkey_Of.f k a0 a1 = some r) :
    Calls Try.prog 10 #[.string a0, .int .i64 a1] w fun e w' => e = .returned (.int .i64 r) ∧ Drawn0 w w' := by
  have H : (if a1 < 1 then (some 0) else ((shardkey_Print.f k a0).bind fun t102 => (if (IntKind.u64.wrap (a1)) = 0 then (none) else (some (wrap64 (Int.tmod t102 (IntKind.u64.wrap (a1)))))))) = some r := h
  clear h
  by_cases c3 : a1 < 1
  · rw [if_pos c3] at H
    have c3b0 : decide (a1 < 1) = true := decide_eq_true c3
    clear c3
    obtain rfl := Option.some.inj H
    go_enter Try.func10, Try.ntmps10
    go_wp2
    go_ret
    exact ⟨by first | rfl | (simp; done) | (simp [*]; done), by repeat (first | exact Drawn0.refl _ | apply Drawn0.step)⟩
  · rw [if_neg c3] at H
    have c3b0 : decide (a1 < 1) = false := decide_eq_false c3
    clear c3
    replace H := Option.bind_eq_some_iff.mp H
    obtain ⟨t102, A40, H⟩ := H
    replace H : (if (IntKind.u64.wrap (a1)) = 0 then (none) else (some (wrap64 (Int.tmod t102 (IntKind.u64.wrap (a1)))))) = some r := H
    have A4 := Aside0.mk A40
    clear A40
    by_cases c5 : (IntKind.u64.wrap (a1)) = 0
    · rw [if_pos c5] at H
      exact absurd H (by simp)
    · rw [if_neg c5] at H
      have c5b0 : ((IntKind.u64.wrap (a1)) == 0) = false := beq_eq_false_iff_ne.mpr c5
      have c5b1 : ((IntKind.u64.wrap (a1)) != 0) = true := bne_iff_ne.mpr c5
      obtain rfl := Option.some.inj H
      go_enter Try.func10, Try.ntmps10
      go_wp2_with (first | ((with_reducible refine gate_callee (f := 9) rfl ?_); refine goesL_ (some 8) rfl rfl Try.func9 (by kernel_rfl) rfl #[.string a0] rfl (by (try simp only [List.map_toArray, List.map_cons, List.map_nil]); first | done | rfl | (simp only [List.length_drop, List.length_take]; rfl)) ?_; (with_reducible refine (shardkey_Print.calls k a0 t102 _ A4.out).mono ?_); rintro e w' ⟨rfl, ⟨nd, rfl⟩⟩; refine ⟨_, rfl, ?_⟩))
      go_ret
      exact ⟨by first | rfl | (simp; done) | (simp [*]; done), by repeat (first | exact Drawn0.refl _ | apply Drawn0.step)⟩

/-! ### meterlaw06_ShardkeyRange: function 7 -/
def meterlaw06_ShardkeyRange.j0 : Nat → ByteArray → Int → Int → Int → Bool → Option (Bool)
  | 0, _, _, _, _, _ => none
  | k + 1, x0, x1, x2, x7, x41 => if x41 = true then (some false) else (if x1 < 1 then (some true) else (if x1 > 1000 then (some true) else (if x2 < 1 then (some true) else (if x2 > 1000 then (some true) else ((shardkey_Of.f k x0 (wrap64 (x1 * x2))).bind fun t106 => (if x1 = 0 then (none) else (some ((Int.tmod t106 x1) == x7))))))))
def meterlaw06_ShardkeyRange.f (k : Nat) (a0 : ByteArray) (a1 : Int) (a2 : Int) : Option (Bool) := (meterlaw06_awake.f k).bind fun t103 => (if t103 = true then (if (a0.size : Int) > 100000 then (some true) else ((shardkey_Of.f k a0 a1).bind fun t104 => ((shardkey_Of.f k a0 a1).bind fun t105 => (if t104 = t105 then (if t104 < 0 then (meterlaw06_ShardkeyRange.j0 k a0 a1 a2 t104 true) else (if a1 < 1 then (if t104 = 0 then (if a1 ≥ 1 then (meterlaw06_ShardkeyRange.j0 k a0 a1 a2 t104 (decide (t104 ≥ a1))) else (meterlaw06_ShardkeyRange.j0 k a0 a1 a2 t104 false)) else (meterlaw06_ShardkeyRange.j0 k a0 a1 a2 t104 true)) else (if a1 ≥ 1 then (meterlaw06_ShardkeyRange.j0 k a0 a1 a2 t104 (decide (t104 ≥ a1))) else (meterlaw06_ShardkeyRange.j0 k a0 a1 a2 t104 false)))) else (meterlaw06_ShardkeyRange.j0 k a0 a1 a2 t104 true))))) else (some false))
theorem meterlaw06_ShardkeyRange.mono_l : ∀ k, (∀ y0 y1 y2 y3 y4, LeO (meterlaw06_ShardkeyRange.j0 k y0 y1 y2 y3 y4) (meterlaw06_ShardkeyRange.j0 (k + 1) y0 y1 y2 y3 y4))
  | 0 => fun _ _ _ _ _ r h => by simp [meterlaw06_ShardkeyRange.j0] at h
  | k + 1 => by
    have ih0 := meterlaw06_ShardkeyRange.mono_l k
    · intro y0 y1 y2 y3 y4
      unfold meterlaw06_ShardkeyRange.j0
      repeat' first
      | (with_reducible exact ih0 _ _ _ _ _)
      | (with_reducible exact meterlaw06_awake.mono _)
      | (with_reducible exact shardkey_Of.mono _ _ _)
      | (with_reducible exact LeO.refl _)
      | (with_reducible exact LeO.none _)
      | (with_reducible refine LeO.ite ?_ ?_)
      | (with_reducible refine LeO.bind ?_ (fun _ => ?_))
      | exact ih0 _ _ _ _ _
      | exact meterlaw06_awake.mono _
      | exact shardkey_Of.mono _ _ _
      | exact LeO.none _
      | refine LeO.ite ?_ ?_
      | refine LeO.bind ?_ (fun _ => ?_)
theorem meterlaw06_ShardkeyRange.mono : ∀ a0 a1 a2 k, LeO (meterlaw06_ShardkeyRange.f k a0 a1 a2) (meterlaw06_ShardkeyRange.f (k + 1) a0 a1 a2) := by
  intro a0 a1 a2 k
  have ih0 := meterlaw06_ShardkeyRange.mono_l k
  unfold meterlaw06_ShardkeyRange.f
  repeat' first
      | (with_reducible exact ih0 _ _ _ _ _)
      | (with_reducible exact meterlaw06_awake.mono _)
      | (with_reducible exact shardkey_Of.mono _ _ _)
      | (with_reducible exact LeO.refl _)
      | (with_reducible exact LeO.none _)
      | (with_reducible refine LeO.ite ?_ ?_)
      | (with_reducible refine LeO.bind ?_ (fun _ => ?_))
      | exact ih0 _ _ _ _ _
      | exact meterlaw06_awake.mono _
      | exact shardkey_Of.mono _ _ _
      | exact LeO.none _
      | refine LeO.ite ?_ ?_
      | refine LeO.bind ?_ (fun _ => ?_)
set_option maxHeartbeats 8000000 in
set_option maxRecDepth 100000 in
theorem meterlaw06_ShardkeyRange.calls (k : Nat) (a0 : ByteArray) (a1 : Int) (a2 : Int) (r : Bool) (w : World) (h : meterlaw06_ShardkeyRange.f k a0 a1 a2 = some r) :
    Calls Try.prog 7 #[.string a0, .int .i64 a1, .int .i64 a2] w fun e w' => e = .returned (.bool r) ∧ Drawn0 w w' := by
  have H : ((meterlaw06_awake.f k).bind fun t103 => (if t103 = true then (if (a0.size : Int) > 100000 then (some true) else ((shardkey_Of.f k a0 a1).bind fun t104 => ((shardkey_Of.f k a0 a1).bind fun t105 => (if t104 = t105 then (if t104 < 0 then (meterlaw06_ShardkeyRange.j0 k a0 a1 a2 t104 true) else (if a1 < 1 then (if t104 = 0 then (if a1 ≥ 1 then (meterlaw06_ShardkeyRange.j0 k a0 a1 a2 t104 (decide (t104 ≥ a1))) else (meterlaw06_ShardkeyRange.j0 k a0 a1 a2 t104 false)) else (meterlaw06_ShardkeyRange.j0 k a0 a1 a2 t104 true)) else (if a1 ≥ 1 then (meterlaw06_ShardkeyRange.j0 k a0 a1 a2 t104 (decide (t104 ≥ a1))) else (meterlaw06_ShardkeyRange.j0 k a0 a1 a2 t104 false)))) else (meterlaw06_ShardkeyRange.j0 k a0 a1 a2 t104 true))))) else (some false))) = some r := h
  clear h
  replace H := Option.bind_eq_some_iff.mp H
  obtain ⟨t103, A40, H⟩ := H
  replace H : (if t103 = true then (if (a0.size : Int) > 100000 then (some true) else ((shardkey_Of.f k a0 a1).bind fun t104 => ((shardkey_Of.f k a0 a1).bind fun t105 => (if t104 = t105 then (if t104 < 0 then (meterlaw06_ShardkeyRange.j0 k a0 a1 a2 t104 true) else (if a1 < 1 then (if t104 = 0 then (if a1 ≥ 1 then (meterlaw06_ShardkeyRange.j0 k a0 a1 a2 t104 (decide (t104 ≥ a1))) else (meterlaw06_ShardkeyRange.j0 k a0 a1 a2 t104 false)) else (meterlaw06_ShardkeyRange.j0 k a0 a1 a2 t104 true)) else (if a1 ≥ 1 then (meterlaw06_ShardkeyRange.j0 k a0 a1 a2 t104 (decide (t104 ≥ a1))) else (meterlaw06_ShardkeyRange.j0 k a0 a1 a2 t104 false)))) else (meterlaw06_ShardkeyRange.j0 k a0 a1 a2 t104 true))))) else (some false)) = some r := H
  have A4 := Aside0.mk A40
  clear A40
  by_cases c5 : t103 = true
  · subst c5
    have H1 : (if (a0.size : Int) > 100000 then (some true) else ((shardkey_Of.f k a0 a1).bind fun t104 => ((shardkey_Of.f k a0 a1).bind fun t105 => (if t104 = t105 then (if t104 < 0 then (meterlaw06_ShardkeyRange.j0 k a0 a1 a2 t104 true) else (if a1 < 1 then (if t104 = 0 then (if a1 ≥ 1 then (meterlaw06_ShardkeyRange.j0 k a0 a1 a2 t104 (decide (t104 ≥ a1))) else (meterlaw06_ShardkeyRange.j0 k a0 a1 a2 t104 false)) else (meterlaw06_ShardkeyRange.j0 k a0 a1 a2 t104 true)) else (if a1 ≥ 1 then (meterlaw06_ShardkeyRange.j0 k a0 a1 a2 t104 (decide (t104 ≥ a1))) else (meterlaw06_ShardkeyRange.j0 k a0 a1 a2 t104 false)))) else (meterlaw06_ShardkeyRange.j0 k a0 a1 a2 t104 true))))) = some r := by rw [if_pos rfl] at H; exact H
    clear H
    have H := H1
    clear H1
    by_cases c6 : (a0.size : Int) > 100000
    · rw [if_pos c6] at H
      have c6b0 : decide (100000 < (a0.size : Int)) = true := decide_eq_true c6
      have c6b1 : decide (100000 < a0.size) = true := decide_eq_true (by omega)
      clear c6
      obtain rfl := Option.some.inj H
      go_enter Try.func7, Try.ntmps7
      go_wp2_with (first | ((with_reducible refine gate_callee (f := 8) rfl ?_); refine goesL_ (some 8) rfl rfl Try.func8 (by kernel_rfl) rfl #[] rfl (by (try simp only [List.map_toArray, List.map_cons, List.map_nil]); first | done | rfl | (simp only [List.length_drop, List.length_take]; rfl)) ?_; (with_reducible refine (meterlaw06_awake.calls k  true _ A4.out).mono ?_); rintro e w' ⟨rfl, ⟨nd, rfl⟩⟩; refine ⟨_, rfl, ?_⟩))
      go_ret
      exact ⟨by first | rfl | (simp; done) | (simp [*]; done), by repeat (first | exact Drawn0.refl _ | apply Drawn0.step)⟩
    · rw [if_neg c6] at H
      have c6b0 : decide (100000 < (a0.size : Int)) = false := decide_eq_false c6
      have c6b1 : decide (100000 < a0.size) = false := decide_eq_false (by omega)
      clear c6
      replace H := Option.bind_eq_some_iff.mp H
      obtain ⟨t104, A70, H⟩ := H
      replace H : ((shardkey_Of.f k a0 a1).bind fun t105 => (if t104 = t105 then (if t104 < 0 then (meterlaw06_ShardkeyRange.j0 k a0 a1 a2 t104 true) else (if a1 < 1 then (if t104 = 0 then (if a1 ≥ 1 then (meterlaw06_ShardkeyRange.j0 k a0 a1 a2 t104 (decide (t104 ≥ a1))) else (meterlaw06_ShardkeyRange.j0 k a0 a1 a2 t104 false)) else (meterlaw06_ShardkeyRange.j0 k a0 a1 a2 t104 true)) else (if a1 ≥ 1 then (meterlaw06_ShardkeyRange.j0 k a0 a1 a2 t104 (decide (t104 ≥ a1))) else (meterlaw06_ShardkeyRange.j0 k a0 a1 a2 t104 false)))) else (meterlaw06_ShardkeyRange.j0 k a0 a1 a2 t104 true))) = some r := H
      have A7 := Aside0.mk A70
      clear A70
      have HC8 := Aside0.mk H
      clear H
      go_enter Try.func7, Try.ntmps7
      go_upto_region 6 with (first | ((with_reducible refine gate_callee (f := 8) rfl ?_); refine goesL_ (some 8) rfl rfl Try.func8 (by kernel_rfl) rfl #[] rfl (by (try simp only [List.map_toArray, List.map_cons, List.map_nil]); first | done | rfl | (simp only [List.length_drop, List.length_take]; rfl)) ?_; (with_reducible refine (meterlaw06_awake.calls k  true _ A4.out).mono ?_); rintro e w' ⟨rfl, ⟨nd, rfl⟩⟩; refine ⟨_, rfl, ?_⟩) | ((with_reducible refine gate_callee (f := 10) rfl ?_); refine goesL_ (some 15) rfl rfl Try.func10 (by kernel_rfl) rfl #[.string a0, .int .i64 a1] rfl (by (try simp only [List.map_toArray, List.map_cons, List.map_nil]); first | done | rfl | (simp only [List.length_drop, List.length_take]; rfl)) ?_; (with_reducible refine (shardkey_Of.calls k a0 a1 t104 _ A7.out).mono ?_); rintro e w' ⟨rfl, ⟨nd, rfl⟩⟩; refine ⟨_, rfl, ?_⟩))
      (try simp only [Act.put, List.setIfInBounds_toArray, List.set_cons_zero, List.set_cons_succ])
      go_cut [41] (fun v41 wc => ∃ (kq : Nat) (x41_7 : Bool), v41 = .bool x41_7 ∧ Aside0 (meterlaw06_ShardkeyRange.j0 kq a0 a1 a2 t104 x41_7 = some r) ∧ Aside0 (kq ≤ k) ∧ Drawn0 w wc)
      case first =>
        have H := HC8.out
        clear HC8
        replace H := Option.bind_eq_some_iff.mp H
        obtain ⟨t105, A90, H⟩ := H
        replace H : (if t104 = t105 then (if t104 < 0 then (meterlaw06_ShardkeyRange.j0 k a0 a1 a2 t104 true) else (if a1 < 1 then (if t104 = 0 then (if a1 ≥ 1 then (meterlaw06_ShardkeyRange.j0 k a0 a1 a2 t104 (decide (t104 ≥ a1))) else (meterlaw06_ShardkeyRange.j0 k a0 a1 a2 t104 false)) else (meterlaw06_ShardkeyRange.j0 k a0 a1 a2 t104 true)) else (if a1 ≥ 1 then (meterlaw06_ShardkeyRange.j0 k a0 a1 a2 t104 (decide (t104 ≥ a1))) else (meterlaw06_ShardkeyRange.j0 k a0 a1 a2 t104 false)))) else (meterlaw06_ShardkeyRange.j0 k a0 a1 a2 t104 true)) = some r := H
        have A9 := Aside0.mk A90
        clear A90
        by_cases c10 : t104 = t105
        · rw [if_pos c10] at H
          have c10b0 : (t104 == t105) = true := beq_iff_eq.mpr c10
          have c10b1 : (t104 != t105) = false := bne_eq_false_iff_eq.mpr c10
          clear c10
          (first | rw [c10b0] | (simp only [i64_w, i32_w]; rw [c10b0]) | skip)
          by_cases c11 : t104 < 0
          · rw [if_pos c11] at H
            have c11b0 : decide (t104 < 0) = true := decide_eq_true c11
            clear c11
            have H' := Aside0.mk H
            clear H
            go_wp2_with (first | ((with_reducible refine gate_callee (f := 10) rfl ?_); refine goesL_ (some 19) rfl rfl Try.func10 (by kernel_rfl) rfl #[.string a0, .int .i64 a1] rfl (by (try simp only [List.map_toArray, List.map_cons, List.map_nil]); first | done | rfl | (simp only [List.length_drop, List.length_take]; rfl)) ?_; (with_reducible refine (shardkey_Of.calls k a0 a1 t105 _ A9.out).mono ?_); rintro e w' ⟨rfl, ⟨nd, rfl⟩⟩; refine ⟨_, rfl, ?_⟩))
            go_meet
            case rel => exact ⟨_, (true), (by first | rfl | (simp; done) | (simp [*]; done)), H', ⟨by first | omega | exact Nat.le_refl _⟩, by repeat (first | exact Drawn0.refl _ | apply Drawn0.step)⟩
          · rw [if_neg c11] at H
            have c11b0 : decide (t104 < 0) = false := decide_eq_false c11
            clear c11
            by_cases c12 : a1 < 1
            · rw [if_pos c12] at H
              have c12b0 : decide (a1 < 1) = true := decide_eq_true c12
              clear c12
              by_cases c13 : t104 = 0
              · rw [if_pos c13] at H
                have c13b0 : (t104 == 0) = true := beq_iff_eq.mpr c13
                have c13b1 : (t104 != 0) = false := bne_eq_false_iff_eq.mpr c13
                clear c13
                by_cases c14 : a1 ≥ 1
                · rw [if_pos c14] at H
                  have c14b0 : decide (1 ≤ a1) = true := decide_eq_true c14
                  clear c14
                  have H' := Aside0.mk H
                  clear H
                  go_wp2_with (first | ((with_reducible refine gate_callee (f := 10) rfl ?_); refine goesL_ (some 19) rfl rfl Try.func10 (by kernel_rfl) rfl #[.string a0, .int .i64 a1] rfl (by (try simp only [List.map_toArray, List.map_cons, List.map_nil]); first | done | rfl | (simp only [List.length_drop, List.length_take]; rfl)) ?_; (with_reducible refine (shardkey_Of.calls k a0 a1 t105 _ A9.out).mono ?_); rintro e w' ⟨rfl, ⟨nd, rfl⟩⟩; refine ⟨_, rfl, ?_⟩))
                  go_meet
                  case rel => exact ⟨_, (decide (t104 ≥ a1)), (by first | rfl | (simp; done) | (simp [*]; done)), H', ⟨by first | omega | exact Nat.le_refl _⟩, by repeat (first | exact Drawn0.refl _ | apply Drawn0.step)⟩
                · rw [if_neg c14] at H
                  have c14b0 : decide (1 ≤ a1) = false := decide_eq_false c14
                  clear c14
                  have H' := Aside0.mk H
                  clear H
                  go_wp2_with (first | ((with_reducible refine gate_callee (f := 10) rfl ?_); refine goesL_ (some 19) rfl rfl Try.func10 (by kernel_rfl) rfl #[.string a0, .int .i64 a1] rfl (by (try simp only [List.map_toArray, List.map_cons, List.map_nil]); first | done | rfl | (simp only [List.length_drop, List.length_take]; rfl)) ?_; (with_reducible refine (shardkey_Of.calls k a0 a1 t105 _ A9.out).mono ?_); rintro e w' ⟨rfl, ⟨nd, rfl⟩⟩; refine ⟨_, rfl, ?_⟩))
                  go_meet
                  case rel => exact ⟨_, (false), (by first | rfl | (simp; done) | (simp [*]; done)), H', ⟨by first | omega | exact Nat.le_refl _⟩, by repeat (first | exact Drawn0.refl _ | apply Drawn0.step)⟩
              · rw [if_neg c13] at H
                have c13b0 : (t104 == 0) = false := beq_eq_false_iff_ne.mpr c13
                have c13b1 : (t104 != 0) = true := bne_iff_ne.mpr c13
                have H' := Aside0.mk H
                clear H
                go_wp2_with (first | ((with_reducible refine gate_callee (f := 10) rfl ?_); refine goesL_ (some 19) rfl rfl Try.func10 (by kernel_rfl) rfl #[.string a0, .int .i64 a1] rfl (by (try simp only [List.map_toArray, List.map_cons, List.map_nil]); first | done | rfl | (simp only [List.length_drop, List.length_take]; rfl)) ?_; (with_reducible refine (shardkey_Of.calls k a0 a1 t105 _ A9.out).mono ?_); rintro e w' ⟨rfl, ⟨nd, rfl⟩⟩; refine ⟨_, rfl, ?_⟩))
                go_meet
                case rel => exact ⟨_, (true), (by first | rfl | (simp; done) | (simp [*]; done)), H', ⟨by first | omega | exact Nat.le_refl _⟩, by repeat (first | exact Drawn0.refl _ | apply Drawn0.step)⟩
            · rw [if_neg c12] at H
              have c12b0 : decide (a1 < 1) = false := decide_eq_false c12
              clear c12
              by_cases c15 : a1 ≥ 1
              · rw [if_pos c15] at H
                have c15b0 : decide (1 ≤ a1) = true := decide_eq_true c15
                clear c15
                have H' := Aside0.mk H
                clear H
                go_wp2_with (first | ((with_reducible refine gate_callee (f := 10) rfl ?_); refine goesL_ (some 19) rfl rfl Try.func10 (by kernel_rfl) rfl #[.string a0, .int .i64 a1] rfl (by (try simp only [List.map_toArray, List.map_cons, List.map_nil]); first | done | rfl | (simp only [List.length_drop, List.length_take]; rfl)) ?_; (with_reducible refine (shardkey_Of.calls k a0 a1 t105 _ A9.out).mono ?_); rintro e w' ⟨rfl, ⟨nd, rfl⟩⟩; refine ⟨_, rfl, ?_⟩))
                go_meet
                case rel => exact ⟨_, (decide (t104 ≥ a1)), (by first | rfl | (simp; done) | (simp [*]; done)), H', ⟨by first | omega | exact Nat.le_refl _⟩, by repeat (first | exact Drawn0.refl _ | apply Drawn0.step)⟩
              · rw [if_neg c15] at H
                have c15b0 : decide (1 ≤ a1) = false := decide_eq_false c15
                clear c15
                have H' := Aside0.mk H
                clear H
                go_wp2_with (first | ((with_reducible refine gate_callee (f := 10) rfl ?_); refine goesL_ (some 19) rfl rfl Try.func10 (by kernel_rfl) rfl #[.string a0, .int .i64 a1] rfl (by (try simp only [List.map_toArray, List.map_cons, List.map_nil]); first | done | rfl | (simp only [List.length_drop, List.length_take]; rfl)) ?_; (with_reducible refine (shardkey_Of.calls k a0 a1 t105 _ A9.out).mono ?_); rintro e w' ⟨rfl, ⟨nd, rfl⟩⟩; refine ⟨_, rfl, ?_⟩))
                go_meet
                case rel => exact ⟨_, (false), (by first | rfl | (simp; done) | (simp [*]; done)), H', ⟨by first | omega | exact Nat.le_refl _⟩, by repeat (first | exact Drawn0.refl _ | apply Drawn0.step)⟩
        · rw [if_neg c10] at H
          have c10b0 : (t104 == t105) = false := beq_eq_false_iff_ne.mpr c10
          have c10b1 : (t104 != t105) = true := bne_iff_ne.mpr c10
          (first | rw [c10b0] | (simp only [i64_w, i32_w]; rw [c10b0]) | skip)
          have H' := Aside0.mk H
          clear H
          go_wp2_with (first | ((with_reducible refine gate_callee (f := 10) rfl ?_); refine goesL_ (some 19) rfl rfl Try.func10 (by kernel_rfl) rfl #[.string a0, .int .i64 a1] rfl (by (try simp only [List.map_toArray, List.map_cons, List.map_nil]); first | done | rfl | (simp only [List.length_drop, List.length_take]; rfl)) ?_; (with_reducible refine (shardkey_Of.calls k a0 a1 t105 _ A9.out).mono ?_); rintro e w' ⟨rfl, ⟨nd, rfl⟩⟩; refine ⟨_, rfl, ?_⟩))
          go_meet
          case rel => exact ⟨_, (true), (by first | rfl | (simp; done) | (simp [*]; done)), H', ⟨by first | omega | exact Nat.le_refl _⟩, by repeat (first | exact Drawn0.refl _ | apply Drawn0.step)⟩
      case rest =>
        clear HC8
        try clear c1
        try clear p2
        try clear c5
        try clear c6
        try clear c6b0
        try clear c6b1
        try clear c7
        try clear c8
        try clear c10
        try clear c10b0
        try clear c10b1
        try clear c11
        try clear c11b0
        try clear c12
        try clear c12b0
        try clear c13
        try clear c13b0
        try clear c13b1
        try clear c14
        try clear c14b0
        try clear c15
        try clear c15b0
        obtain ⟨kq, x41_7, rfl, HA, HJ7, ⟨mc7, rfl⟩⟩ := hcut
        cases kq with
        | zero => exact absurd HA.out (by simp [meterlaw06_ShardkeyRange.j0])
        | succ kj7 =>
          have H := HA.out
          clear HA
          simp only [meterlaw06_ShardkeyRange.j0] at H
          by_cases c16 : x41_7 = true
          · subst c16
            have H1 : (some false) = some r := by rw [if_pos rfl] at H; exact H
            clear H
            have H := H1
            clear H1
            obtain rfl := Option.some.inj H
            go_wp2
            go_ret
            exact ⟨by first | rfl | (simp; done) | (simp [*]; done), by repeat (first | exact Drawn0.refl _ | apply Drawn0.step)⟩
          · replace c16 := Bool.eq_false_iff.mpr c16
            subst c16
            have H1 : (if a1 < 1 then (some true) else (if a1 > 1000 then (some true) else (if a2 < 1 then (some true) else (if a2 > 1000 then (some true) else ((shardkey_Of.f kj7 a0 (wrap64 (a1 * a2))).bind fun t106 => (if a1 = 0 then (none) else (some ((Int.tmod t106 a1) == t104)))))))) = some r := by rw [if_neg (show ¬ (false = true) by decide)] at H; exact H
            clear H
            have H := H1
            clear H1
            by_cases c17 : a1 < 1
            · rw [if_pos c17] at H
              have c17b0 : decide (a1 < 1) = true := decide_eq_true c17
              clear c17
              obtain rfl := Option.some.inj H
              go_wp2
              go_ret
              exact ⟨by first | rfl | (simp; done) | (simp [*]; done), by repeat (first | exact Drawn0.refl _ | apply Drawn0.step)⟩
            · rw [if_neg c17] at H
              have c17b0 : decide (a1 < 1) = false := decide_eq_false c17
              clear c17
              by_cases c18 : a1 > 1000
              · rw [if_pos c18] at H
                have c18b0 : decide (1000 < a1) = true := decide_eq_true c18
                clear c18
                obtain rfl := Option.some.inj H
                go_wp2
                go_ret
                exact ⟨by first | rfl | (simp; done) | (simp [*]; done), by repeat (first | exact Drawn0.refl _ | apply Drawn0.step)⟩
              · rw [if_neg c18] at H
                have c18b0 : decide (1000 < a1) = false := decide_eq_false c18
                clear c18
                by_cases c19 : a2 < 1
                · rw [if_pos c19] at H
                  have c19b0 : decide (a2 < 1) = true := decide_eq_true c19
                  clear c19
                  obtain rfl := Option.some.inj H
                  go_wp2
                  go_ret
                  exact ⟨by first | rfl | (simp; done) | (simp [*]; done), by repeat (first | exact Drawn0.refl _ | apply Drawn0.step)⟩
                · rw [if_neg c19] at H
                  have c19b0 : decide (a2 < 1) = false := decide_eq_false c19
                  clear c19
                  by_cases c20 : a2 > 1000
                  · rw [if_pos c20] at H
                    have c20b0 : decide (1000 < a2) = true := decide_eq_true c20
                    clear c20
                    obtain rfl := Option.some.inj H
                    go_wp2
                    go_ret
                    exact ⟨by first | rfl | (simp; done) | (simp [*]; done), by repeat (first | exact Drawn0.refl _ | apply Drawn0.step)⟩
                  · rw [if_neg c20] at H
                    have c20b0 : decide (1000 < a2) = false := decide_eq_false c20
                    clear c20
                    replace H := Option.bind_eq_some_iff.mp H
                    obtain ⟨t106, A210, H⟩ := H
                    replace H : (if a1 = 0 then (none) else (some ((Int.tmod t106 a1) == t104))) = some r := H
                    have A21 := Aside0.mk A210
                    clear A210
                    by_cases c22 : a1 = 0
                    · rw [if_pos c22] at H
                      exact absurd H (by simp)
                    · rw [if_neg c22] at H
                      have c22b0 : (a1 == 0) = false := beq_eq_false_iff_ne.mpr c22
                      have c22b1 : (a1 != 0) = true := bne_iff_ne.mpr c22
                      obtain rfl := Option.some.inj H
                      go_wp2_with (first | ((with_reducible refine gate_callee (f := 10) rfl ?_); refine goesL_ (some 60) rfl rfl Try.func10 (by kernel_rfl) rfl #[.string a0, .int .i64 (wrap64 (a1 * a2))] rfl (by (try simp only [List.map_toArray, List.map_cons, List.map_nil]); first | done | rfl | (simp only [List.length_drop, List.length_take]; rfl)) ?_; (with_reducible refine (shardkey_Of.calls kj7 a0 (wrap64 (a1 * a2)) t106 _ A21.out).mono ?_); rintro e w' ⟨rfl, ⟨nd, rfl⟩⟩; refine ⟨_, rfl, ?_⟩))
                      go_ret
                      exact ⟨by first | rfl | (simp; done) | (simp [*]; done), by repeat (first | exact Drawn0.refl _ | apply Drawn0.step)⟩
  · replace c5 := Bool.eq_false_iff.mpr c5
    subst c5
    have H1 : (some false) = some r := by rw [if_neg (show ¬ (false = true) by decide)] at H; exact H
    clear H
    have H := H1
    clear H1
    obtain rfl := Option.some.inj H
    go_enter Try.func7, Try.ntmps7
    go_wp2_with (first | ((with_reducible refine gate_callee (f := 8) rfl ?_); refine goesL_ (some 8) rfl rfl Try.func8 (by kernel_rfl) rfl #[] rfl (by (try simp only [List.map_toArray, List.map_cons, List.map_nil]); first | done | rfl | (simp only [List.length_drop, List.length_take]; rfl)) ?_; (with_reducible refine (meterlaw06_awake.calls k  false _ A4.out).mono ?_); rintro e w' ⟨rfl, ⟨nd, rfl⟩⟩; refine ⟨_, rfl, ?_⟩))
    go_ret
    exact ⟨by first | rfl | (simp; done) | (simp [*]; done), by repeat (first | exact Drawn0.refl _ | apply Drawn0.step)⟩

/-- THE ONE PURE STATEMENT of meterlaw06_ShardkeyRange: yours. -/
def meterlaw06_ShardkeyRange.Pure : Prop := ∀ (a0 : ByteArray) (a1 : Int) (a2 : Int), a0.size ≤ 140737488351232 → (Lit.int .i64 a1).wf = true → (Lit.int .i64 a2).wf = true → ∃ k, meterlaw06_ShardkeyRange.f k a0 a1 a2 = some true
theorem meterlaw06_ShardkeyRange.walk (P : meterlaw06_ShardkeyRange.Pure) (a0 : ByteArray) (a1 : Int) (a2 : Int) (w : World) (w0 : a0.size ≤ 140737488351232) (w1 : (Lit.int .i64 a1).wf = true) (w2 : (Lit.int .i64 a2).wf = true) :
    Calls Try.prog 7 #[.string a0, .int .i64 a1, .int .i64 a2] w fun e w' => e = .returned (.bool true) ∧ Below w.heap.size w w' := by
  obtain ⟨k, h⟩ := P a0 a1 a2 w0 w1 w2
  refine (meterlaw06_ShardkeyRange.calls k a0 a1 a2 true w h).mono ?_
  rintro e w' ⟨rfl, hd⟩
  exact ⟨rfl, hd.below⟩

end Go.Proofs.Ytncklmcjaicoiaa.PShardkeyRange
