-- Written by a program of this session's (wip/gprint.py): the kit's print, with functions given by hand.
import Derived.Test.YtpfipeopacjkjaaPFrameSpoiltx0
namespace Go.Proofs.Ytpfipeopacjkjaa.PFrameSpoilt
open Go.RowKit Go.Proofs.YtpfipeopacjkjaaW.PrintWords Go.Proofs.YtpfipeopacjkjaaW.PrintLast Go.Proofs.YtpfipeopacjkjaaW.PrintMore
attribute [local go_sem] max2_int min2_int max_two min_two max_three min_three max_four min_four   -- for this text's walks alone
set_option linter.unusedVariables false
set_option linter.unusedSimpArgs false

/-! ### frame_putLittle: function 21 -/
def frame_putLittle.l0 : Nat → List Int → Int → Int → Int → Option (List Int)
  | 0, _, _, _, _ => none
  | k + 1, x0, x1, x8, x9 => if x9 < x8 then (if 0 ≤ (wrap64 (8 * x9)) then (if x0.length < 140737488355328 then (frame_putLittle.l0 k (x0 ++ [(shr .u64 x1 (wrap64 (8 * x9))) % 256]) x1 x8 (wrap64 (x9 + 1))) else (none)) else (none)) else (some x0)
def frame_putLittle.f (k : Nat) (l0 : List Int) (a1 : Int) (a2 : Int) : Option (List Int) := frame_putLittle.l0 k l0 a1 a2 0
theorem frame_putLittle.mono_l : ∀ k, (∀ y0 y1 y2 y3, LeO (frame_putLittle.l0 k y0 y1 y2 y3) (frame_putLittle.l0 (k + 1) y0 y1 y2 y3))
  | 0 => fun _ _ _ _ r h => by simp [frame_putLittle.l0] at h
  | k + 1 => by
    have ih0 := frame_putLittle.mono_l k
    · intro y0 y1 y2 y3
      unfold frame_putLittle.l0
      repeat' first
      | (with_reducible exact ih0 _ _ _ _)
      | (with_reducible exact LeO.refl _)
      | (with_reducible exact LeO.none _)
      | (with_reducible refine LeO.ite ?_ ?_)
      | (with_reducible refine LeO.bind ?_ (fun _ => ?_))
      | exact ih0 _ _ _ _
      | exact LeO.none _
      | refine LeO.ite ?_ ?_
      | refine LeO.bind ?_ (fun _ => ?_)
theorem frame_putLittle.mono : ∀ a0 a1 a2 k, LeO (frame_putLittle.f k a0 a1 a2) (frame_putLittle.f (k + 1) a0 a1 a2) := by
  intro a0 a1 a2 k
  have ih0 := frame_putLittle.mono_l k
  unfold frame_putLittle.f
  repeat' first
      | (with_reducible exact ih0 _ _ _ _)
      | (with_reducible exact LeO.refl _)
      | (with_reducible exact LeO.none _)
      | (with_reducible refine LeO.ite ?_ ?_)
      | (with_reducible refine LeO.bind ?_ (fun _ => ?_))
      | exact ih0 _ _ _ _
      | exact LeO.none _
      | refine LeO.ite ?_ ?_
      | refine LeO.bind ?_ (fun _ => ?_)
set_option maxHeartbeats 8000000 in
set_option maxRecDepth 100000 in
theorem frame_putLittle.calls (k : Nat) (P0_ : Nat → Prop) (u9000_ : Value) (l0 : List Int) (a1 : Int) (a2 : Int) (r : List Int) (w0 w : World) (hB : Below w0.heap.size w0 w) (ho0 : Kd.R (Kd.int .u8) 5 w w0.heap.size P0_ u9000_ l0) (h : frame_putLittle.f k l0 a1 a2 = some r) :
    Calls Try.prog 21 #[u9000_, .int .u64 a1, .int .i64 a2] w fun e w' => ∃ v0_ : Value, e = .returned (v0_) ∧ Kd.R (Kd.int .u8) 5 w' w0.heap.size (fun k_ => (P0_ k_ ∨ w.heap.size ≤ k_)) v0_ r ∧ Below w0.heap.size w0 w' ∧ Kept w w' (fun k_ => P0_ k_) := by
  have HO0 := Aside0.mk (show Kd.R (Kd.int .u8) 5 w w0.heap.size (fun k_ => (P0_ k_ ∨ w.heap.size ≤ k_)) u9000_ l0 from Kd.R_mono ho0 (fun k_ hk => (.inl hk)))
  have HK := Aside0.mk (Kept.refl w (fun k_ => P0_ k_))
  have HW0 := Aside0.mk hB.size
  have HB := Aside0.mk hB
  clear hB
  have H : (frame_putLittle.l0 k l0 a1 a2 0) = some r := h
  clear h
  have H' := Aside0.mk H
  clear H
  go_enter Try.func21, Try.ntmps21
  go_wp2
  go_loopg [0, 9] k (fun kq v0 v9 w' => ∃ (x0_1 : List Int) (x9_1 : Int), v9 = .int .i64 x9_1 ∧ Aside0 (frame_putLittle.l0 kq x0_1 a1 a2 x9_1 = some r) ∧ Aside0 (kq ≤ k) ∧ Aside0 (Kd.R (Kd.int .u8) 5 w' w0.heap.size (fun k_ => (P0_ k_ ∨ w.heap.size ≤ k_)) v0 x0_1) ∧ Aside0 (Kept w w' (fun k_ => P0_ k_)) ∧ Aside0 (Below w0.heap.size w0 w'))
  case atStart => exact ⟨(l0), (0), (by first | rfl | (simp; done) | (simp [*]; done) | (congr 1; simp only [eq_iff_iff, iff_true, ByteArray.size_append] at *; unfold wrap64; omega) | (congr 2; simp only [eq_iff_iff, iff_true, ByteArray.size_append] at *; unfold wrap64; omega)), H', ⟨Nat.le_refl _⟩, ⟨by (with_reducible repeat (first | apply Kd.R_alloc | apply Kd.R_drewN | apply Kd.R_drew)); exact HO0.out⟩, ⟨by repeat (first | (with_reducible first | exact HK.out | apply Kept.alloc | apply Kept.drewN | apply Kept.drew) | exact HK.out)⟩, ⟨by repeat (first | (with_reducible first | exact HB.out | apply below_alloc | apply pw_below_drewN | apply below_drew1) | exact HB.out)⟩⟩
  case round =>
    clear H'
    try clear c2
    try clear p2
    obtain ⟨x0_1, x9_1, rfl, HA, HK1, HO_0, HK, HB⟩ := hrel
    cases gk with
    | zero => exact absurd HA.out (by simp [frame_putLittle.l0])
    | succ k1 =>
      have H := HA.out
      clear HA
      simp only [frame_putLittle.l0] at H
      by_cases c4 : x9_1 < a2
      · rw [if_pos c4] at H
        have c4b0 : decide (x9_1 < a2) = true := decide_eq_true c4
        clear c4
        obtain ⟨ji5, hji5⟩ : ∃ j_ : Int, (wrap64 (8 * x9_1)) = j_ := ⟨_, rfl⟩
        replace H : (if 0 ≤ (ji5) then (if x0_1.length < 140737488355328 then (frame_putLittle.l0 k1 (x0_1 ++ [(shr .u64 a1 (ji5)) % 256]) a1 a2 (wrap64 (x9_1 + 1))) else (none)) else (none)) = some r := by first | (rw [hji5] at H; exact H) | (simp only [hji5] at H ⊢; exact H)
        have hji5w : (IntKind.i64.wrap (8 * x9_1)) = ji5 := (i64_w _).trans hji5
        by_cases c6 : 0 ≤ (ji5)
        · rw [if_pos c6] at H
          have c6b0 := eq_true c6
          have c6b1 : decide (0 ≤ (ji5)) = true := decide_eq_true c6
          clear c6
          obtain ⟨ji7, hji7⟩ : ∃ j_ : Int, (shr .u64 a1 (ji5)) = j_ := ⟨_, rfl⟩
          replace H : (if x0_1.length < 140737488355328 then (frame_putLittle.l0 k1 (x0_1 ++ [(ji7) % 256]) a1 a2 (wrap64 (x9_1 + 1))) else (none)) = some r := by first | (rw [hji7] at H; exact H) | (simp only [hji7] at H ⊢; exact H)
          have hji7_ : (a1 / 2 ^ min (ji5).toNat 64) = ji7 := hji7
          have hji7z : (ji5) ≤ 64 → (a1 / 2 ^ (ji5).toNat) = ji7 := shr_small hji7
          by_cases c8 : x0_1.length < 140737488355328
          · rw [if_pos c8] at H
            have LMc8 := Aside0.mk c8
            clear c8
            obtain ⟨y101, hy101⟩ : ∃ y_ : List Int, y_ = (x0_1 ++ [(ji7) % 256]) := ⟨_, rfl⟩
            replace H : (frame_putLittle.l0 k1 y101 a1 a2 (wrap64 (x9_1 + 1))) = some r := by first | (rw [hy101]; with_reducible exact H) | (have H2_ := (Option.bind_some _ _).symm.trans H; rw [hy101]; with_reducible exact H2_) | (have H2_ := (Option.bind_some _ _).symm.trans H; with_reducible exact H2_) | with_reducible exact H | (rw [hy101]; exact H) | exact H
            have Ny101 := Aside0.mk hy101
            clear hy101
            have H' := Aside0.mk H
            clear H
            go_wp2_with (first | ((with_reducible refine gate_builtin (b := .append) (xs := #[.tmp 12, .tmp 18]) rfl ?_); at_builtin; refine Kd.R_append (Kd.int .u8) (w0 := w0) w0.heap.size rfl (.tmp 12) (.tmp 18) 25 5 (.int .u8 0) 1 rfl Try.underlying25 info5 rfl (by decide) (by omega) u0 x0_1 ((ji7) % 256) [.int .u8 ((ji7) % 256)] (fun k_ => (P0_ k_ ∨ w.heap.size ≤ k_)) (fun _ => False) rfl rfl ?aP (fun _ hk => hk.elim) ?aF ?aO ?aB ?aS ?aL ?_; (case aP => exact rfl); (case aB => exact (by repeat (first | (with_reducible first | exact HB.out | apply below_alloc | apply pw_below_drewN | apply below_drew1) | exact HB.out))); (case aF => exact (fun k_ hk => (.inr (Nat.le_trans (by first | exact HK.out.1 | exact (show Kept w _ (fun k_ => P0_ k_) from by repeat (first | (with_reducible first | exact HK.out | apply Kept.alloc | apply Kept.drewN | apply Kept.drew) | exact HK.out)).1) hk)))); (case aO => exact (by (with_reducible repeat (first | apply Kd.R_alloc | apply Kd.R_drewN | apply Kd.R_drew)); exact HO_0.out)); (case aS => exact (below_size (by repeat (first | (with_reducible first | exact HB.out | apply below_alloc | apply pw_below_drewN | apply below_drew1) | exact HB.out)))); (case aL => have := LMc8.out; omega); intro v102 w9 ho hb hg hat; rw [← Ny101.out] at ho; have n0_ := Aside0.mk (hb); have n1_ := Aside0.mk (Kept.of_grown (S := (fun k_ => P0_ k_)) hg (by repeat (first | (with_reducible first | exact HK.out | apply Kept.alloc | apply Kept.drewN | apply Kept.drew) | exact HK.out)) (fun k_ e_ => (HO_0.out.1 k_ e_))); have n2_ := Aside0.mk (ho); clear HB; clear HK; clear HO_0; have HB := n0_; have HK := n1_; have HO103 := n2_; clear n0_ n1_ n2_; clear ho hb hg hat))
            go_roundg k1
            case measure => have := HK1.out; omega
            case rel => exact ⟨(y101), (wrap64 (x9_1 + 1)), (by first | rfl | (simp; done) | (simp [*]; done) | (congr 1; simp only [eq_iff_iff, iff_true, ByteArray.size_append] at *; unfold wrap64; omega) | (congr 2; simp only [eq_iff_iff, iff_true, ByteArray.size_append] at *; unfold wrap64; omega)), H', ⟨by have := HK1.out; omega⟩, ⟨by (with_reducible repeat (first | apply Kd.R_alloc | apply Kd.R_drewN | apply Kd.R_drew)); exact HO103.out⟩, ⟨by repeat (first | (with_reducible first | exact HK.out | apply Kept.alloc | apply Kept.drewN | apply Kept.drew) | exact HK.out)⟩, ⟨by repeat (first | (with_reducible first | exact HB.out | apply below_alloc | apply pw_below_drewN | apply below_drew1) | exact HB.out)⟩⟩
          · rw [if_neg c8] at H
            exact absurd H (by simp)
        · rw [if_neg c6] at H
          exact absurd H (by simp)
      · rw [if_neg c4] at H
        have c4b0 : decide (x9_1 < a2) = false := decide_eq_false c4
        clear c4
        obtain rfl := Option.some.inj H
        go_wp2
        go_ret
        exact ⟨_, by first | rfl | (simp [errW_none, errW_some] <;> rfl) | (simp [*, errW_none, errW_some] <;> rfl), by (with_reducible repeat (first | apply Kd.R_alloc | apply Kd.R_drewN | apply Kd.R_drew)); exact HO_0.out, by repeat (first | (with_reducible first | exact HB.out | apply below_alloc | apply pw_below_drewN | apply below_drew1) | exact HB.out), by repeat (first | (with_reducible first | exact HK.out | apply Kept.alloc | apply Kept.drewN | apply Kept.drew) | exact HK.out)⟩

/-! ### frame_put: function 16 -/
def frame_put.f (k : Nat) (l0 : List Int) (a1 : Int) : Option (List Int) := (frame_putLittle.f k l0 (IntKind.u64.wrap (a1)) 4).bind fun t104 => (some t104)
theorem frame_put.mono : ∀ a0 a1 k, LeO (frame_put.f k a0 a1) (frame_put.f (k + 1) a0 a1) := by
  intro a0 a1 k
  unfold frame_put.f
  repeat' first
      | (with_reducible exact frame_putLittle.mono _ _ _ _)
      | (with_reducible exact LeO.refl _)
      | (with_reducible exact LeO.none _)
      | (with_reducible refine LeO.ite ?_ ?_)
      | (with_reducible refine LeO.bind ?_ (fun _ => ?_))
      | exact frame_putLittle.mono _ _ _ _
      | exact LeO.none _
      | refine LeO.ite ?_ ?_
      | refine LeO.bind ?_ (fun _ => ?_)
set_option maxHeartbeats 8000000 in
set_option maxRecDepth 100000 in
theorem frame_put.calls (k : Nat) (P0_ : Nat → Prop) (u9000_ : Value) (l0 : List Int) (a1 : Int) (r : List Int) (w0 w : World) (hB : Below w0.heap.size w0 w) (ho0 : Kd.R (Kd.int .u8) 5 w w0.heap.size P0_ u9000_ l0) (h : frame_put.f k l0 a1 = some r) :
    Calls Try.prog 16 #[u9000_, .int .u32 a1] w fun e w' => ∃ v0_ : Value, e = .returned (v0_) ∧ Kd.R (Kd.int .u8) 5 w' w0.heap.size (fun k_ => (P0_ k_ ∨ w.heap.size ≤ k_)) v0_ r ∧ Below w0.heap.size w0 w' ∧ Kept w w' (fun k_ => P0_ k_) := by
  have HO0 := Aside0.mk (show Kd.R (Kd.int .u8) 5 w w0.heap.size (fun k_ => (P0_ k_ ∨ w.heap.size ≤ k_)) u9000_ l0 from Kd.R_mono ho0 (fun k_ hk => (.inl hk)))
  have HK := Aside0.mk (Kept.refl w (fun k_ => P0_ k_))
  have HW0 := Aside0.mk hB.size
  have HB := Aside0.mk hB
  clear hB
  have H : ((frame_putLittle.f k l0 (IntKind.u64.wrap (a1)) 4).bind fun t104 => (some t104)) = some r := h
  clear h
  replace H := Option.bind_eq_some_iff.mp H
  obtain ⟨t104, A30, H⟩ := H
  replace H : (some t104) = some r := H
  have A3 := Aside0.mk A30
  clear A30
  obtain rfl := Option.some.inj H
  obtain ⟨Ao4, co4, eo4⟩ := Kd.R_slice HO0.out
  subst eo4
  go_enter Try.func16, Try.ntmps16
  go_wp2_with (first | ((with_reducible refine gate_callee (f := 21) rfl ?_); refine goesL_ (some 8) rfl rfl Try.func21 (by kernel_rfl) rfl #[.slice Ao4 l0.length co4, .int .u64 (IntKind.u64.wrap (a1)), .int .i64 4] rfl (by (try simp only [List.map_toArray, List.map_cons, List.map_nil]); first | done | rfl | (simp only [List.length_drop, List.length_take]; rfl)) ?_; (with_reducible refine (frame_putLittle.calls k (fun k_ => some k_ = (.slice Ao4 l0.length co4 : Value).ownBlock) (.slice Ao4 l0.length co4) l0 (IntKind.u64.wrap (a1)) 4 t104 w0 _ ?side1 ?side2 A3.out).mono ?_); (case side1 => repeat (first | (with_reducible first | exact HB.out | apply below_alloc | apply pw_below_drewN | apply below_drew1) | exact HB.out)); (case side2 => exact Kd.R_tight rfl HO0.out); rintro e w5 ⟨v105, rfl, ho0, hb, hkp⟩; refine ⟨_, rfl, ?_⟩; have n0_ := Aside0.mk (Kd.R_mono (ok' := fun k_ => (P0_ k_ ∨ w.heap.size ≤ k_)) ho0 (fun k_ hk_ => Or.elim hk_ (fun hs_ => (HO0.out.1 k_ (hs_).symm)) (fun hn_ => (.inr (Nat.le_trans (by first | exact HK.out.1 | exact (show Kept w _ (fun k_ => P0_ k_) from by repeat (first | (with_reducible first | exact HK.out | apply Kept.alloc | apply Kept.drewN | apply Kept.drew) | exact HK.out)).1) hn_))))); have n1_ := Aside0.mk (Kept.then_ (S := (fun k_ => P0_ k_)) (by repeat (first | (with_reducible first | exact HK.out | apply Kept.alloc | apply Kept.drewN | apply Kept.drew) | exact HK.out)) hkp (fun k_ hs_ => (fun e_ => (HO0.out.1 k_ e_.symm)) hs_)); have n2_ := Aside0.mk (hb); clear HK; clear HB; clear HO0; have HO106 := n0_; have HK := n1_; have HB := n2_; clear n0_ n1_ n2_; (try clear hb); (try clear hkp); (try clear ho0)))
  go_ret
  exact ⟨_, by first | rfl | (simp [errW_none, errW_some] <;> rfl) | (simp [*, errW_none, errW_some] <;> rfl), by (with_reducible repeat (first | apply Kd.R_alloc | apply Kd.R_drewN | apply Kd.R_drew)); exact HO106.out, by repeat (first | (with_reducible first | exact HB.out | apply below_alloc | apply pw_below_drewN | apply below_drew1) | exact HB.out), by repeat (first | (with_reducible first | exact HK.out | apply Kept.alloc | apply Kept.drewN | apply Kept.drew) | exact HK.out)⟩

/-! ### sum_More: function 22 -/
def sx (c : Int) : Int := if (Go.bits .and .u32 c 1 == 1) = true then Go.bits .xor .u32 (c / 2) 2197175160 else c / 2
def sxN (c : Int) : Nat → Int
  | 0 => c
  | n + 1 => sx (sxN c n)
def tabF (k : Nat) : Int := sxN k 4
def tabArr (k : Nat) : Array Value := ((List.range 16).map fun j => Value.int .u32 (if j < k then tabF j else 0)).toArray
theorem tabArr_size (k : Nat) : (tabArr k).size = 16 := by simp [tabArr]
theorem tabArr_get (k j : Nat) (h : j < 16) : (tabArr k)[j]? = some (.int .u32 (if j < k then tabF j else 0)) := by
  simp [tabArr, h]
theorem tabArr_set (k : Nat) (h : k < 16) : (tabArr k).setIfInBounds k (.int .u32 (tabF k)) = tabArr (k + 1) := by
  apply Array.ext_getElem?
  intro j
  rw [Array.getElem?_setIfInBounds]
  by_cases e : k = j
  · subst e
    rw [if_pos rfl, if_pos (by rw [tabArr_size]; exact h), tabArr_get _ _ h, if_pos (by omega)]
  · rw [if_neg e]
    by_cases hj : j < 16
    · rw [tabArr_get _ _ hj, tabArr_get _ _ hj]
      by_cases hk : j < k
      · rw [if_pos hk, if_pos (by omega)]
      · rw [if_neg hk, if_neg (by omega)]
    · rw [Array.getElem?_eq_none (by rw [tabArr_size]; omega), Array.getElem?_eq_none (by rw [tabArr_size]; omega)]
theorem tabArr_zero : tabArr 0 = #[.int .u32 0, .int .u32 0, .int .u32 0, .int .u32 0, .int .u32 0, .int .u32 0, .int .u32 0, .int .u32 0, .int .u32 0, .int .u32 0, .int .u32 0, .int .u32 0, .int .u32 0, .int .u32 0, .int .u32 0, .int .u32 0] := rfl
theorem sx_true {c : Int} (h : (Go.bits .and .u32 c 1 == 1) = true) : sx c = Go.bits .xor .u32 (c / 2) 2197175160 := by unfold sx; rw [if_pos h]
theorem sx_false {c : Int} (h : (Go.bits .and .u32 c 1 == 1) = false) : sx c = c / 2 := by unfold sx; rw [if_neg (by simp [h])]

set_option maxHeartbeats 4000000 in
set_option maxRecDepth 100000 in
theorem made_calls (w : World) : Calls Try.prog 24 #[] w fun e w' => e = .returned (.agg (tabArr 16)) ∧ Below w.heap.size w w' := by
  go_enter Try.func24, Try.ntmps24
  go_wp2
  go_loopw [3] (fun v3 wr => ∃ k : Nat, k ≤ 16 ∧ v3 = .int .i64 k ∧ wr.heap[w.heap.size]? = some (.cells (tabArr k) 49 (0, 0)) ∧ Below w.heap.size w wr) (fun v3 _ => 16 - (intOf v3).toNat)
  case atStart => exact ⟨0, Nat.zero_le _, rfl, by rw [tabArr_zero]; exact heap_alloc_new w _, below_alloc (Below.refl _ _) _⟩
  case round =>
    obtain ⟨k, hk, rfl, hg, hb⟩ := hrel
    have HG := Lib.hid hg
    have hc0 := blk_cell hg k
    have hfr := blk_frozen hg k
    clear hg
    by_cases hlt : k < 16
    · rw [tabArr_get k k hlt, if_neg (by omega)] at hc0
      go_wp2
      go_loop [2, 8] (fun v2 v8 => ∃ j : Nat, j ≤ 4 ∧ v2 = .int .u32 (sxN k j) ∧ v8 = .int .i64 j) (fun _ v8 => 4 - (intOf v8).toNat)
      case atStart => exact ⟨0, Nat.zero_le _, rfl, rfl⟩
      case round =>
        obtain ⟨j, hj, rfl, rfl⟩ := hrel
        go_wp2
        · go_round
          case rel => exact ⟨j + 1, by omega, by rw [sxN, sx_true ‹_›], by go_num⟩
          case measure => simp [intOf]; omega
        · go_round
          case rel => exact ⟨j + 1, by omega, by rw [sxN, sx_false ‹_›], by go_num⟩
          case measure => simp [intOf]; omega
        · have e4 : j = 4 := by omega
          subst e4
          go_roundw
          case rel => exact ⟨k + 1, by omega, by go_num, by rw [blk_set HG.out]; rw [← tabArr_set k hlt]; rfl, hb.setCell (Nat.le_refl _) _⟩
          case measure => simp [intOf]; omega
    · have : k = 16 := by omega
      subst this
      go_wp2_with (first | (refine wpList_load_row rfl 49 (.tmp 0) rfl w.heap.size rfl 49 (tabArr 16) (0, 0) _ HG.out Try.underlying49 rfl (by kernel_rfl) ?_) | (refine wpList_store_mid rfl 49 (.tmp 0) (.tmp 23) rfl w.heap.size 0 (tabArr 16) rfl rfl ?_ (by kernel_rfl) (by kernel_rfl) ?_))
      · intro j hj
        rw [tabArr_size] at hj
        rw [Nat.zero_add, blk_cell HG.out, blk_frozen HG.out, tabArr_get 16 j hj]
        exact ⟨rfl, rfl⟩
      · obtain ⟨s1, s2, s3, s4⟩ := setCells_same w.heap.size (tabArr 16).toList 0 wr
        obtain ⟨cur, c1, c2, c3⟩ := setCells_row (tabArr 16).toList 0 wr (tabArr 16) HG.out (by simp)
        have c4 : cur = tabArr 16 := by
          apply Array.toList_inj.1
          rw [c3]
          simp
        rw [c4] at c1
        refine bodyPost_ret (v := .agg (tabArr 16)) ?_ rfl ⟨rfl, ⟨s1.trans hb.os, s2.trans hb.tape, s3.trans hb.output, by rw [s4]; exact hb.size, fun q hq => (setCells_far _ 0 q (by omega)).trans (hb.block q hq)⟩⟩
        exact results_cell_row (p := 0) (ty := 49) (by kernel_rfl) _ _ w.heap.size 49 (tabArr 16) (0, 0) _ rfl c1 Try.underlying49 rfl (by kernel_rfl)


/-- Half a byte goes through the register. -/
def half (c : Int) : Int := Go.bits .xor .u32 (c / 16) (tabF (Go.bits .and .u32 c 15).toNat)
def crcB (c b : Int) : Int := half (half (Go.bits .xor .u32 c (b % 4294967296)))
theorem and15 (x : Int) : 0 ≤ Go.bits .and .u32 x 15 ∧ Go.bits .and .u32 x 15 < 16 := by
  unfold Go.bits
  simp only
  rw [IntKind.wrap_u32]
  have h1 : (BitVec.ofInt IntKind.u32.bits x &&& BitVec.ofInt IntKind.u32.bits 15).toNat < 16 := by
    rw [BitVec.toNat_and]
    exact Nat.lt_of_le_of_lt Nat.and_le_right (by decide)
  omega
def crcW (c : Int) (s : ByteArray) : Nat → Int
  | 0 => c
  | i + 1 => crcB (crcW c s i) (bt s i)
theorem fill_new (w w1 : World) (hb : Below w.heap.size w w1) (t : TypeId) (cs : Array Value) (vs : List Value) (hl : cs.size = vs.length) :
    (((w1.alloc (.cells cs t)).setCells w1.heap.size 0 vs).heap[w1.heap.size]? = some (.cells vs.toArray t (0, 0))) ∧ Below w.heap.size w ((w1.alloc (.cells cs t)).setCells w1.heap.size 0 vs) := by
  obtain ⟨s1, s2, s3, s4⟩ := setCells_same w1.heap.size vs 0 (w1.alloc (.cells cs t))
  obtain ⟨cur, c1, c2, c3⟩ := setCells_row vs 0 (w1.alloc (.cells cs t)) cs (heap_alloc_new w1 _) (by omega)
  have c4 : cur = vs.toArray := by
    apply Array.toList_inj.1
    rw [c3]
    simp [hl]
  have ha := below_alloc hb (.cells cs t)
  rw [c4] at c1
  have hsz := hb.size
  exact ⟨c1, ⟨s1.trans ha.os, s2.trans ha.tape, s3.trans ha.output, by rw [s4]; exact ha.size, fun q hq => (setCells_far _ 0 q (by omega)).trans (ha.block q hq)⟩⟩
theorem tab_cell {w : World} {g : Nat} (h : w.heap[g]? = some (.cells (tabArr 16) 49 (0, 0))) (q : Nat) (hq : q < 16) : w.cell? ⟨g, q, none⟩ = some (.int .u32 (tabF q)) := by
  rw [blk_cell h, tabArr_get 16 q hq, if_pos hq]
set_option maxHeartbeats 4000000 in
set_option maxRecDepth 100000 in
theorem more_calls (c : Int) (s : ByteArray) (w : World) (hs : s.size ≤ 9223372036854775807) : Calls Try.prog 22 #[.int .u32 c, .string s] w fun e w' => e = .returned (.int .u32 (Go.bits .xor .u32 IntKind.u32.max (crcW (Go.bits .xor .u32 IntKind.u32.max c) s s.size))) ∧ Below w.heap.size w w' := by
  go_enter Try.func22, Try.ntmps22
  go_wp2_with (first | (go_at_call 24; refine (made_calls _).mono ?_; rintro e w1 ⟨rfl, hb1⟩) | (refine wpList_store_mid rfl 49 (.tmp 5) (.tmp 8) rfl w1.heap.size 0 (tabArr 16) rfl rfl ?c1 (by kernel_rfl) (by kernel_rfl) ?_; (case c1 => intro j hj; rw [tabArr_size] at hj; rw [Nat.zero_add, blk_cell (heap_alloc_new w1 _), blk_frozen (heap_alloc_new w1 _)]; exact ⟨by simp; omega, rfl⟩); obtain ⟨hg, hb⟩ := fill_new w w1 hb1 49 #[.int .u32 0, .int .u32 0, .int .u32 0, .int .u32 0, .int .u32 0, .int .u32 0, .int .u32 0, .int .u32 0, .int .u32 0, .int .u32 0, .int .u32 0, .int .u32 0, .int .u32 0, .int .u32 0, .int .u32 0, .int .u32 0] (tabArr 16).toList rfl; generalize hwt : (World.setCells _ _ _ _) = wt at *; clear hwt; have HG := Lib.hid hg; clear hg))
  obtain ⟨c2, hc2⟩ : ∃ c2, c2 = Go.bits .xor .u32 IntKind.u32.max c := ⟨_, rfl⟩
  rw [← hc2]
  have HC := Lib.hid hc2
  clear hc2
  go_loop [6, 13] (fun v6 v13 => ∃ i : Nat, i ≤ s.size ∧ v6 = .int .u32 (crcW c2 s i) ∧ v13 = .int .i64 i) (fun _ v13 => s.size - (intOf v13).toNat)
  case atStart => exact ⟨0, Nat.zero_le _, rfl, rfl⟩
  case round =>
    obtain ⟨i, hi, rfl, rfl⟩ := hrel
    by_cases hlt : i < s.size
    · have b1 := and15 (Go.bits .xor .u32 (crcW c2 s i) ((s[i].toNat : Int) % 4294967296))
      have b2 := and15 (half (Go.bits .xor .u32 (crcW c2 s i) ((s[i].toNat : Int) % 4294967296)))
      have d1 : wt.cell? ⟨w1.heap.size, (Go.bits .and .u32 (Go.bits .xor .u32 (crcW c2 s i) ((s[i].toNat : Int) % 4294967296)) 15).toNat, none⟩ = some (.int .u32 (tabF (Go.bits .and .u32 (Go.bits .xor .u32 (crcW c2 s i) ((s[i].toNat : Int) % 4294967296)) 15).toNat)) := tab_cell HG.out _ (by omega)
      have d2 : wt.cell? ⟨w1.heap.size, (Go.bits .and .u32 (half (Go.bits .xor .u32 (crcW c2 s i) ((s[i].toNat : Int) % 4294967296))) 15).toNat, none⟩ = some (.int .u32 (tabF (Go.bits .and .u32 (half (Go.bits .xor .u32 (crcW c2 s i) ((s[i].toNat : Int) % 4294967296))) 15).toNat)) := tab_cell HG.out _ (by omega)
      simp only [half] at b2 d2
      have hbt : bt s i = (s[i].toNat : Int) := (bt_at s i (by simpa using hlt)).symm
      have HBT := Lib.hid hbt
      clear hbt
      go_wp2
      go_round
      case rel => exact ⟨i + 1, by omega, by rw [crcW, HBT.out]; rfl, by go_num⟩
      case measure => simp [intOf]; omega
    · have e : i = s.size := by omega
      subst e
      go_wp2
      go_ret
      exact ⟨by rw [HC.out]; rfl, hb⟩

def sum_More.f (a0 : Int) (a1 : ByteArray) : Option (Int) := if a1.size ≤ 9223372036854775807 then some (Go.bits .xor .u32 IntKind.u32.max (crcW (Go.bits .xor .u32 IntKind.u32.max a0) a1 a1.size)) else none
theorem sum_More.calls (a0 : Int) (a1 : ByteArray) (r : Int) (w : World) (h : sum_More.f a0 a1 = some r) :
    Calls Try.prog 22 #[.int .u32 a0, .string a1] w fun e w' => e = .returned (.int .u32 r) ∧ Below w.heap.size w w' := by
  unfold sum_More.f at h
  by_cases hs : a1.size ≤ 9223372036854775807
  · rw [if_pos hs] at h
    obtain rfl := Option.some.inj h
    exact more_calls a0 a1 w hs
  · rw [if_neg hs] at h
    exact absurd h (by simp)

/-! ### sum_Crc: function 17 -/
def sum_Crc.f (a0 : ByteArray) : Option (Int) := (sum_More.f 0 a0).bind fun t107 => (some t107)
set_option maxHeartbeats 8000000 in
set_option maxRecDepth 100000 in
theorem sum_Crc.calls (a0 : ByteArray) (r : Int) (w : World) (h : sum_Crc.f a0 = some r) :
    Calls Try.prog 17 #[.string a0] w fun e w' => e = .returned (.int .u32 r) ∧ Below w.heap.size w w' := by
  have HB := Aside0.mk (Below.refl w.heap.size w)
  have H : ((sum_More.f 0 a0).bind fun t107 => (some t107)) = some r := h
  clear h
  replace H := Option.bind_eq_some_iff.mp H
  obtain ⟨t107, A20, H⟩ := H
  replace H : (some t107) = some r := H
  have A2 := Aside0.mk A20
  clear A20
  obtain rfl := Option.some.inj H
  go_enter Try.func17, Try.ntmps17
  go_wp2_with (first | ((with_reducible refine gate_callee (f := 22) rfl ?_); refine goesL_ (some 4) rfl rfl Try.func22 (by kernel_rfl) rfl #[.int .u32 0, .string a0] rfl (by (try simp only [List.map_toArray, List.map_cons, List.map_nil]); first | done | rfl | (simp only [List.length_drop, List.length_take]; rfl)) ?_; (with_reducible refine (sum_More.calls 0 a0 t107 _ A2.out).mono ?_); rintro e w3 ⟨rfl, hb⟩; refine ⟨_, rfl, ?_⟩; have n0_ := Aside0.mk (below_step (by repeat (first | (with_reducible first | exact HB.out | apply below_alloc | apply pw_below_drewN | apply below_drew1) | exact HB.out)) hb); clear HB; have HB := n0_; clear n0_; (try clear hb); (try clear hb2); (try clear hk); (try clear hi)))
  go_ret
  exact ⟨by first | rfl | (simp [errW_none, errW_some] <;> rfl) | (simp [*, errW_none, errW_some] <;> rfl), by repeat (first | (with_reducible first | exact HB.out | apply below_alloc | apply pw_below_drewN | apply below_drew1) | exact HB.out)⟩

/-! ### frame_Put: function 9 -/
def frame_Put.f (k : Nat) (a0 : ByteArray) : Option (ByteArray × Int) := if (a0.size : Int) > 16384 then (some ((⟨#[]⟩ : ByteArray), 3)) else ((frame_put.f k ([] : List Int) (((a0.size : Int)) % 4294967296)).bind fun t108 => ((sum_Crc.f (strOfNums t108)).bind fun t111 => ((frame_put.f k t108 t111).bind fun t112 => (if t112.length + a0.size < 140737488355328 then ((sum_Crc.f a0).bind fun t118 => ((frame_put.f k (t112 ++ bytesOf a0) t118).bind fun t119 => (some (strOfNums t119, 0)))) else (none)))))
theorem frame_Put.mono : ∀ a0 k, LeO (frame_Put.f k a0) (frame_Put.f (k + 1) a0) := by
  intro a0 k
  unfold frame_Put.f
  repeat' first
      | (with_reducible exact frame_put.mono _ _ _)
      | (with_reducible exact LeO.refl _)
      | (with_reducible exact LeO.none _)
      | (with_reducible refine LeO.ite ?_ ?_)
      | (with_reducible refine LeO.bind ?_ (fun _ => ?_))
      | exact frame_put.mono _ _ _
      | exact LeO.none _
      | refine LeO.ite ?_ ?_
      | refine LeO.bind ?_ (fun _ => ?_)
set_option maxHeartbeats 8000000 in
set_option maxRecDepth 100000 in
theorem frame_Put.calls (k : Nat) (a0 : ByteArray) (r1 : ByteArray) (r2 : Int) (w : World) (h : frame_Put.f k a0 = some (r1, r2)) :
    Calls Try.prog 9 #[.string a0] w fun e w' => e = .returned (.tuple #[.string r1, .int .i64 r2]) ∧ Below w.heap.size w w' := by
  have HB := Aside0.mk (Below.refl w.heap.size w)
  have H : (if (a0.size : Int) > 16384 then (some ((⟨#[]⟩ : ByteArray), 3)) else ((frame_put.f k ([] : List Int) (((a0.size : Int)) % 4294967296)).bind fun t108 => ((sum_Crc.f (strOfNums t108)).bind fun t111 => ((frame_put.f k t108 t111).bind fun t112 => (if t112.length + a0.size < 140737488355328 then ((sum_Crc.f a0).bind fun t118 => ((frame_put.f k (t112 ++ bytesOf a0) t118).bind fun t119 => (some (strOfNums t119, 0)))) else (none)))))) = some (r1, r2) := h
  clear h
  by_cases c2 : (a0.size : Int) > 16384
  · rw [if_pos c2] at H
    have c2b0 : decide (16384 < (a0.size : Int)) = true := decide_eq_true c2
    have c2b1 : decide (16384 < a0.size) = true := decide_eq_true (by omega)
    clear c2
    simp only [Option.some.injEq, Prod.mk.injEq] at H
    obtain ⟨rfl, rfl⟩ := H
    go_enter Try.func9, Try.ntmps9
    go_wp2
    go_ret2
    exact ⟨by first | rfl | (simp [errW_none, errW_some] <;> rfl) | (simp [*, errW_none, errW_some] <;> rfl), by repeat (first | (with_reducible first | exact HB.out | apply below_alloc | apply pw_below_drewN | apply below_drew1) | exact HB.out)⟩
  · rw [if_neg c2] at H
    have c2b0 : decide (16384 < (a0.size : Int)) = false := decide_eq_false c2
    have c2b1 : decide (16384 < a0.size) = false := decide_eq_false (by omega)
    clear c2
    replace H := Option.bind_eq_some_iff.mp H
    obtain ⟨t108, A30, H⟩ := H
    replace H : ((sum_Crc.f (strOfNums t108)).bind fun t111 => ((frame_put.f k t108 t111).bind fun t112 => (if t112.length + a0.size < 140737488355328 then ((sum_Crc.f a0).bind fun t118 => ((frame_put.f k (t112 ++ bytesOf a0) t118).bind fun t119 => (some (strOfNums t119, 0)))) else (none)))) = some (r1, r2) := H
    have A3 := Aside0.mk A30
    clear A30
    replace H := Option.bind_eq_some_iff.mp H
    obtain ⟨t111, A40, H⟩ := H
    replace H : ((frame_put.f k t108 t111).bind fun t112 => (if t112.length + a0.size < 140737488355328 then ((sum_Crc.f a0).bind fun t118 => ((frame_put.f k (t112 ++ bytesOf a0) t118).bind fun t119 => (some (strOfNums t119, 0)))) else (none))) = some (r1, r2) := H
    have A4 := Aside0.mk A40
    clear A40
    replace H := Option.bind_eq_some_iff.mp H
    obtain ⟨t112, A50, H⟩ := H
    replace H : (if t112.length + a0.size < 140737488355328 then ((sum_Crc.f a0).bind fun t118 => ((frame_put.f k (t112 ++ bytesOf a0) t118).bind fun t119 => (some (strOfNums t119, 0)))) else (none)) = some (r1, r2) := H
    have A5 := Aside0.mk A50
    clear A50
    by_cases c6 : t112.length + a0.size < 140737488355328
    · rw [if_pos c6] at H
      have LMc6 := Aside0.mk c6
      clear c6
      obtain ⟨y115, hy115⟩ : ∃ y_ : List Int, y_ = (t112 ++ bytesOf a0) := ⟨_, rfl⟩
      replace H : ((sum_Crc.f a0).bind fun t118 => ((frame_put.f k y115 t118).bind fun t119 => (some (strOfNums t119, 0)))) = some (r1, r2) := by first | (rw [hy115]; with_reducible exact H) | (have H2_ := (Option.bind_some _ _).symm.trans H; rw [hy115]; with_reducible exact H2_) | (have H2_ := (Option.bind_some _ _).symm.trans H; with_reducible exact H2_) | with_reducible exact H | (rw [hy115]; exact H) | exact H
      have Ny115 := Aside0.mk hy115
      clear hy115
      replace H := Option.bind_eq_some_iff.mp H
      obtain ⟨t118, A70, H⟩ := H
      replace H : ((frame_put.f k y115 t118).bind fun t119 => (some (strOfNums t119, 0))) = some (r1, r2) := H
      have A7 := Aside0.mk A70
      clear A70
      replace H := Option.bind_eq_some_iff.mp H
      obtain ⟨t119, A80, H⟩ := H
      replace H : (some (strOfNums t119, 0)) = some (r1, r2) := H
      have A8 := Aside0.mk A80
      clear A80
      simp only [Option.some.injEq, Prod.mk.injEq] at H
      obtain ⟨rfl, rfl⟩ := H
      go_enter Try.func9, Try.ntmps9
      go_wp2_with (first | ((with_reducible refine gate_callee (f := 16) rfl ?_); refine goesL_ (some 11) rfl rfl Try.func16 (by kernel_rfl) rfl #[.slice none 0 0, .int .u32 (((a0.size : Int)) % 4294967296)] rfl (by (try simp only [List.map_toArray, List.map_cons, List.map_nil]); first | done | rfl | (simp only [List.length_drop, List.length_take]; rfl)) ?_; (refine (frame_put.calls k (fun k_ => some k_ = (.slice none 0 0 : Value).ownBlock) (.slice none 0 0) ([] : List Int) (((a0.size : Int)) % 4294967296) t108 w _ ?side1 ?side2 A3.out).mono ?_); (case side1 => repeat (first | (with_reducible first | exact HB.out | apply below_alloc | apply pw_below_drewN | apply below_drew1) | exact HB.out)); (case side2 => exact Kd.R_nil _ _ _ _ _); rintro e w9 ⟨v109, rfl, ho0, hb, hkp⟩; refine ⟨_, rfl, ?_⟩; have n0_ := Aside0.mk (Kd.R_mono (ok' := fun k_ => True) ho0 (fun k_ hk_ => trivial)); have n1_ := Aside0.mk (hb); clear HB; have HO110 := n0_; have HB := n1_; clear n0_ n1_; (try clear hb); (try clear hkp); (try clear ho0); have hcv10 := own_string (P := Try.prog) Try.underlying25 Try.underlying5 Try.underlying9 (Kd.own_of_R HO110.out)) | ((with_reducible refine gate_callee (f := 17) rfl ?_); refine goesL_ (some 15) rfl rfl Try.func17 (by kernel_rfl) rfl #[.string (strOfNums t108)] rfl (by (try simp only [List.map_toArray, List.map_cons, List.map_nil]); first | done | rfl | (simp only [List.length_drop, List.length_take]; rfl)) ?_; (with_reducible refine (sum_Crc.calls (strOfNums t108) t111 _ A4.out).mono ?_); rintro e w11 ⟨rfl, hb⟩; refine ⟨_, rfl, ?_⟩; have n0_ := Aside0.mk (Kd.R_below (by (with_reducible repeat (first | apply Kd.R_alloc | apply Kd.R_drewN | apply Kd.R_drew)); exact HO110.out) hb); have n1_ := Aside0.mk (below_step (by repeat (first | (with_reducible first | exact HB.out | apply below_alloc | apply pw_below_drewN | apply below_drew1) | exact HB.out)) hb); clear HO110; clear HB; have HO110 := n0_; have HB := n1_; clear n0_ n1_; (try clear hb); (try clear hb2); (try clear hk); (try clear hi); obtain ⟨Ao12, co12, eo12⟩ := Kd.R_slice HO110.out; subst eo12) | ((with_reducible refine gate_callee (f := 16) rfl ?_); refine goesL_ (some 16) rfl rfl Try.func16 (by kernel_rfl) rfl #[.slice Ao12 t108.length co12, .int .u32 t111] rfl (by (try simp only [List.map_toArray, List.map_cons, List.map_nil]); first | done | rfl | (simp only [List.length_drop, List.length_take]; rfl)) ?_; (with_reducible refine (frame_put.calls k (fun k_ => some k_ = (.slice Ao12 t108.length co12 : Value).ownBlock) (.slice Ao12 t108.length co12) t108 t111 t112 w _ ?side1 ?side2 A5.out).mono ?_); (case side1 => repeat (first | (with_reducible first | exact HB.out | apply below_alloc | apply pw_below_drewN | apply below_drew1) | exact HB.out)); (case side2 => exact Kd.R_tight rfl HO110.out); rintro e w13 ⟨v113, rfl, ho0, hb, hkp⟩; refine ⟨_, rfl, ?_⟩; have n0_ := Aside0.mk (Kd.R_mono (ok' := fun k_ => True) ho0 (fun k_ hk_ => trivial)); have n1_ := Aside0.mk (hb); clear HB; clear HO110; have HO114 := n0_; have HB := n1_; clear n0_ n1_; (try clear hb); (try clear hkp); (try clear ho0)) | (at_builtin; refine print_append_str (w0 := w) w.heap.size rfl (.tmp 17) _ 25 9 5 rfl Try.underlying25 Try.underlying9 info5 v113 t112 a0 rfl rfl ?aO ?aB ?aS ?aL ?_; (case aB => exact (by repeat (first | (with_reducible first | exact HB.out | apply below_alloc | apply pw_below_drewN | apply below_drew1) | exact HB.out))); (case aO => exact (Kd.own_of_R (by (with_reducible repeat (first | apply Kd.R_alloc | apply Kd.R_drewN | apply Kd.R_drew)); exact HO114.out))); (case aS => exact (below_size (by repeat (first | (with_reducible first | exact HB.out | apply below_alloc | apply pw_below_drewN | apply below_drew1) | exact HB.out)))); (case aL => have := LMc6.out; omega); intro v116 w14 ho0 hb hg; have ho := Kd.R_of_own (h1 := fun _ => rfl) (ok := fun _ => True) ho0 (fun _ _ => trivial); clear ho0; have hat := True.intro; rw [← Ny115.out] at ho; change Kd.R (Kd.int .u8) 5 w14 w.heap.size (fun _ => True) v116 y115 at ho; have n0_ := Aside0.mk (hb); have n1_ := Aside0.mk (ho); clear HB; clear HO114; have HB := n0_; have HO117 := n1_; clear n0_ n1_; clear ho hb hg hat) | ((with_reducible refine gate_callee (f := 17) rfl ?_); refine goesL_ (some 22) rfl rfl Try.func17 (by kernel_rfl) rfl #[.string a0] rfl (by (try simp only [List.map_toArray, List.map_cons, List.map_nil]); first | done | rfl | (simp only [List.length_drop, List.length_take]; rfl)) ?_; (with_reducible refine (sum_Crc.calls a0 t118 _ A7.out).mono ?_); rintro e w15 ⟨rfl, hb⟩; refine ⟨_, rfl, ?_⟩; have n0_ := Aside0.mk (Kd.R_below (by (with_reducible repeat (first | apply Kd.R_alloc | apply Kd.R_drewN | apply Kd.R_drew)); exact HO117.out) hb); have n1_ := Aside0.mk (below_step (by repeat (first | (with_reducible first | exact HB.out | apply below_alloc | apply pw_below_drewN | apply below_drew1) | exact HB.out)) hb); clear HO117; clear HB; have HO117 := n0_; have HB := n1_; clear n0_ n1_; (try clear hb); (try clear hb2); (try clear hk); (try clear hi); obtain ⟨Ao16, co16, eo16⟩ := Kd.R_slice HO117.out; subst eo16) | ((with_reducible refine gate_callee (f := 16) rfl ?_); refine goesL_ (some 23) rfl rfl Try.func16 (by kernel_rfl) rfl #[.slice Ao16 y115.length co16, .int .u32 t118] rfl (by (try simp only [List.map_toArray, List.map_cons, List.map_nil]); first | done | rfl | (simp only [List.length_drop, List.length_take]; rfl)) ?_; (with_reducible refine (frame_put.calls k (fun k_ => some k_ = (.slice Ao16 y115.length co16 : Value).ownBlock) (.slice Ao16 y115.length co16) y115 t118 t119 w _ ?side1 ?side2 A8.out).mono ?_); (case side1 => repeat (first | (with_reducible first | exact HB.out | apply below_alloc | apply pw_below_drewN | apply below_drew1) | exact HB.out)); (case side2 => exact Kd.R_tight rfl HO117.out); rintro e w17 ⟨v120, rfl, ho0, hb, hkp⟩; refine ⟨_, rfl, ?_⟩; have n0_ := Aside0.mk (Kd.R_mono (ok' := fun k_ => True) ho0 (fun k_ hk_ => trivial)); have n1_ := Aside0.mk (hb); clear HB; clear HO117; have HO121 := n0_; have HB := n1_; clear n0_ n1_; (try clear hb); (try clear hkp); (try clear ho0); have hcv18 := own_string (P := Try.prog) Try.underlying25 Try.underlying5 Try.underlying9 (Kd.own_of_R HO121.out)))
      go_ret2
      exact ⟨by first | rfl | (simp [errW_none, errW_some] <;> rfl) | (simp [*, errW_none, errW_some] <;> rfl), by repeat (first | (with_reducible first | exact HB.out | apply below_alloc | apply pw_below_drewN | apply below_drew1) | exact HB.out)⟩
    · rw [if_neg c6] at H
      exact absurd H (by simp)

/-! ### frame_getLittle: function 23 -/
def frame_getLittle.l0 : Nat → ByteArray → Int → Int → Int → Option (Int)
  | 0, _, _, _, _ => none
  | k + 1, x0, x4, x6, x7 => if x7 < x6 then (if 0 ≤ x7 then (if x7 < (x0.size : Int) then (if 0 ≤ (wrap64 (8 * x7)) then (frame_getLittle.l0 k x0 (Go.bits .or .u64 x4 (shl .u64 (IntKind.u64.wrap (bt x0 x7)) (wrap64 (8 * x7)))) x6 (wrap64 (x7 + 1))) else (none)) else (none)) else (none)) else (some x4)
def frame_getLittle.f (k : Nat) (a0 : ByteArray) (a1 : Int) : Option (Int) := frame_getLittle.l0 k a0 0 a1 0
theorem frame_getLittle.mono_l : ∀ k, (∀ y0 y1 y2 y3, LeO (frame_getLittle.l0 k y0 y1 y2 y3) (frame_getLittle.l0 (k + 1) y0 y1 y2 y3))
  | 0 => fun _ _ _ _ r h => by simp [frame_getLittle.l0] at h
  | k + 1 => by
    have ih0 := frame_getLittle.mono_l k
    · intro y0 y1 y2 y3
      unfold frame_getLittle.l0
      repeat' first
      | (with_reducible exact ih0 _ _ _ _)
      | (with_reducible exact LeO.refl _)
      | (with_reducible exact LeO.none _)
      | (with_reducible refine LeO.ite ?_ ?_)
      | (with_reducible refine LeO.bind ?_ (fun _ => ?_))
      | exact ih0 _ _ _ _
      | exact LeO.none _
      | refine LeO.ite ?_ ?_
      | refine LeO.bind ?_ (fun _ => ?_)
theorem frame_getLittle.mono : ∀ a0 a1 k, LeO (frame_getLittle.f k a0 a1) (frame_getLittle.f (k + 1) a0 a1) := by
  intro a0 a1 k
  have ih0 := frame_getLittle.mono_l k
  unfold frame_getLittle.f
  repeat' first
      | (with_reducible exact ih0 _ _ _ _)
      | (with_reducible exact LeO.refl _)
      | (with_reducible exact LeO.none _)
      | (with_reducible refine LeO.ite ?_ ?_)
      | (with_reducible refine LeO.bind ?_ (fun _ => ?_))
      | exact ih0 _ _ _ _
      | exact LeO.none _
      | refine LeO.ite ?_ ?_
      | refine LeO.bind ?_ (fun _ => ?_)
set_option maxHeartbeats 8000000 in
set_option maxRecDepth 100000 in
theorem frame_getLittle.calls (k : Nat) (a0 : ByteArray) (a1 : Int) (r : Int) (w : World) (h : frame_getLittle.f k a0 a1 = some r) :
    Calls Try.prog 23 #[.string a0, .int .i64 a1] w fun e w' => e = .returned (.int .u64 r) ∧ Drawn0 w w' := by
  have H : (frame_getLittle.l0 k a0 0 a1 0) = some r := h
  clear h
  have H' := Aside0.mk H
  clear H
  go_enter Try.func23, Try.ntmps23
  go_wp2
  go_loopg [4, 7] k (fun kq v4 v7 w' => ∃ (x4_1 : Int) (x7_1 : Int), v4 = .int .u64 x4_1 ∧ v7 = .int .i64 x7_1 ∧ Aside0 (frame_getLittle.l0 kq a0 x4_1 a1 x7_1 = some r) ∧ Aside0 (kq ≤ k) ∧ Drawn0 w w')
  case atStart => exact ⟨(0), (0), (by first | rfl | (simp; done) | (simp [*]; done) | (congr 1; simp only [eq_iff_iff, iff_true, ByteArray.size_append] at *; unfold wrap64; omega) | (congr 2; simp only [eq_iff_iff, iff_true, ByteArray.size_append] at *; unfold wrap64; omega)), (by first | rfl | (simp; done) | (simp [*]; done) | (congr 1; simp only [eq_iff_iff, iff_true, ByteArray.size_append] at *; unfold wrap64; omega) | (congr 2; simp only [eq_iff_iff, iff_true, ByteArray.size_append] at *; unfold wrap64; omega)), H', ⟨Nat.le_refl _⟩, by repeat (first | exact Drawn0.refl _ | apply Drawn0.step)⟩
  case round =>
    clear H'
    try clear c2
    try clear p2
    obtain ⟨x4_1, x7_1, rfl, rfl, HA, HK1, ⟨m1, rfl⟩⟩ := hrel
    cases gk with
    | zero => exact absurd HA.out (by simp [frame_getLittle.l0])
    | succ k1 =>
      have H := HA.out
      clear HA
      simp only [frame_getLittle.l0] at H
      by_cases c3 : x7_1 < a1
      · rw [if_pos c3] at H
        have c3b0 : decide (x7_1 < a1) = true := decide_eq_true c3
        clear c3
        by_cases c4 : 0 ≤ x7_1
        · rw [if_pos c4] at H
          have c4b0 : decide (0 ≤ x7_1) = true := decide_eq_true c4
          clear c4
          by_cases c5 : x7_1 < (a0.size : Int)
          · rw [if_pos c5] at H
            have c5b0 : decide (x7_1 < (a0.size : Int)) = true := decide_eq_true c5
            clear c5
            obtain ⟨ji7, hji7⟩ : ∃ j_ : Int, (wrap64 (8 * x7_1)) = j_ := ⟨_, rfl⟩
            replace H : (if 0 ≤ (ji7) then (frame_getLittle.l0 k1 a0 (Go.bits .or .u64 x4_1 (shl .u64 (IntKind.u64.wrap (bt a0 x7_1)) (ji7))) a1 (wrap64 (x7_1 + 1))) else (none)) = some r := by first | (rw [hji7] at H; exact H) | (simp only [hji7] at H ⊢; exact H)
            have hji7w : (IntKind.i64.wrap (8 * x7_1)) = ji7 := (i64_w _).trans hji7
            by_cases c8 : 0 ≤ (ji7)
            · rw [if_pos c8] at H
              have c8b0 := eq_true c8
              have c8b1 : decide (0 ≤ (ji7)) = true := decide_eq_true c8
              clear c8
              obtain ⟨ji9, hji9⟩ : ∃ j_ : Int, (shl .u64 (IntKind.u64.wrap (bt a0 x7_1)) (ji7)) = j_ := ⟨_, rfl⟩
              replace H : (frame_getLittle.l0 k1 a0 (Go.bits .or .u64 x4_1 (ji9)) a1 (wrap64 (x7_1 + 1))) = some r := by first | (rw [hji9] at H; exact H) | (simp only [hji9] at H ⊢; exact H)
              have hji9_ : (IntKind.u64.wrap ((IntKind.u64.wrap (bt a0 x7_1)) * 2 ^ min (ji7).toNat 64)) = ji9 := hji9
              have hji9z : (ji7) ≤ 64 → (IntKind.u64.wrap ((IntKind.u64.wrap (bt a0 x7_1)) * 2 ^ (ji7).toNat)) = ji9 := shl_small hji9
              have H' := Aside0.mk H
              clear H
              have p6 : 0 ≤ (x7_1 : Int) := of_decide_eq_true (by first | (with_reducible assumption) | assumption)
              have q6 : x7_1 < (a0.size : Int) := of_decide_eq_true (by first | (with_reducible assumption) | assumption)
              have hx6 := bt_at a0 x7_1
              replace p6 := eq_true p6
              replace q6 := eq_true q6
              go_wp2
              go_roundg k1
              case measure => have := HK1.out; omega
              case rel => exact ⟨(Go.bits .or .u64 x4_1 (ji9)), (wrap64 (x7_1 + 1)), (by first | rfl | (simp; done) | (simp only [← hji9] <;> (first | rfl | simp)) | (simp [*]; done) | (congr 1; simp only [eq_iff_iff, iff_true, ByteArray.size_append] at *; unfold wrap64; omega) | (congr 2; simp only [eq_iff_iff, iff_true, ByteArray.size_append] at *; unfold wrap64; omega)), (by first | rfl | (simp; done) | (simp [*]; done) | (congr 1; simp only [eq_iff_iff, iff_true, ByteArray.size_append] at *; unfold wrap64; omega) | (congr 2; simp only [eq_iff_iff, iff_true, ByteArray.size_append] at *; unfold wrap64; omega)), H', ⟨by have := HK1.out; omega⟩, by repeat (first | exact Drawn0.refl _ | apply Drawn0.step)⟩
            · rw [if_neg c8] at H
              exact absurd H (by simp)
          · rw [if_neg c5] at H
            exact absurd H (by simp)
        · rw [if_neg c4] at H
          exact absurd H (by simp)
      · rw [if_neg c3] at H
        have c3b0 : decide (x7_1 < a1) = false := decide_eq_false c3
        clear c3
        obtain rfl := Option.some.inj H
        go_wp2
        go_ret
        exact ⟨by first | rfl | (simp; done) | (simp [*]; done) | (congr 1; simp only [eq_iff_iff, iff_true, ByteArray.size_append] at *; unfold wrap64; omega) | (congr 2; simp only [eq_iff_iff, iff_true, ByteArray.size_append] at *; unfold wrap64; omega), by repeat (first | exact Drawn0.refl _ | apply Drawn0.step)⟩

/-! ### frame_get: function 18 -/
def frame_get.f (k : Nat) (a0 : ByteArray) (a1 : Int) : Option (Int) := if 0 ≤ a1 then (if a1 ≤ (wrap64 (a1 + 4)) then (if (wrap64 (a1 + 4)) ≤ (a0.size : Int) then ((frame_getLittle.f k (a0.extract (a1 : Int).toNat ((wrap64 (a1 + 4)) : Int).toNat) 4).bind fun t122 => (some ((t122) % 4294967296))) else (none)) else (none)) else (none)
theorem frame_get.mono : ∀ a0 a1 k, LeO (frame_get.f k a0 a1) (frame_get.f (k + 1) a0 a1) := by
  intro a0 a1 k
  unfold frame_get.f
  repeat' first
      | (with_reducible exact frame_getLittle.mono _ _ _)
      | (with_reducible exact LeO.refl _)
      | (with_reducible exact LeO.none _)
      | (with_reducible refine LeO.ite ?_ ?_)
      | (with_reducible refine LeO.bind ?_ (fun _ => ?_))
      | exact frame_getLittle.mono _ _ _
      | exact LeO.none _
      | refine LeO.ite ?_ ?_
      | refine LeO.bind ?_ (fun _ => ?_)
set_option maxHeartbeats 8000000 in
set_option maxRecDepth 100000 in
theorem frame_get.calls (k : Nat) (a0 : ByteArray) (a1 : Int) (r : Int) (w : World) (h : frame_get.f k a0 a1 = some r) :
    Calls Try.prog 18 #[.string a0, .int .i64 a1] w fun e w' => e = .returned (.int .u32 r) ∧ Drawn0 w w' := by
  have H : (if 0 ≤ a1 then (if a1 ≤ (wrap64 (a1 + 4)) then (if (wrap64 (a1 + 4)) ≤ (a0.size : Int) then ((frame_getLittle.f k (a0.extract (a1 : Int).toNat ((wrap64 (a1 + 4)) : Int).toNat) 4).bind fun t122 => (some ((t122) % 4294967296))) else (none)) else (none)) else (none)) = some r := h
  clear h
  by_cases c3 : 0 ≤ a1
  · rw [if_pos c3] at H
    have c3b0 := eq_true c3
    have c3b1 : decide (0 ≤ a1) = true := decide_eq_true c3
    clear c3
    by_cases c4 : a1 ≤ (wrap64 (a1 + 4))
    · rw [if_pos c4] at H
      have c4b0 := eq_true c4
      have c4b1 : decide (a1 ≤ (wrap64 (a1 + 4))) = true := decide_eq_true c4
      by_cases c5 : (wrap64 (a1 + 4)) ≤ (a0.size : Int)
      · rw [if_pos c5] at H
        have c5b0 := eq_true c5
        have c5b1 : decide ((wrap64 (a1 + 4)) ≤ (a0.size : Int)) = true := decide_eq_true c5
        replace H := Option.bind_eq_some_iff.mp H
        obtain ⟨t122, A60, H⟩ := H
        replace H : (some ((t122) % 4294967296)) = some r := H
        have A6 := Aside0.mk A60
        clear A60
        obtain rfl := Option.some.inj H
        go_enter Try.func18, Try.ntmps18
        go_wp2_with (first | ((with_reducible refine gate_callee (f := 23) rfl ?_); refine goesL_ (some 10) rfl rfl Try.func23 (by kernel_rfl) rfl #[.string (a0.extract (a1 : Int).toNat ((wrap64 (a1 + 4)) : Int).toNat), .int .i64 4] rfl (by (try simp only [List.map_toArray, List.map_cons, List.map_nil]); first | done | rfl | (simp only [List.length_drop, List.length_take]; rfl)) ?_; (with_reducible refine (frame_getLittle.calls k (a0.extract (a1 : Int).toNat ((wrap64 (a1 + 4)) : Int).toNat) 4 t122 _ A6.out).mono ?_); rintro e w' ⟨rfl, ⟨nd, rfl⟩⟩; refine ⟨_, rfl, ?_⟩))
        go_ret
        exact ⟨by first | rfl | (simp; done) | (simp [*]; done) | (congr 1; simp only [eq_iff_iff, iff_true, ByteArray.size_append] at *; unfold wrap64; omega) | (congr 2; simp only [eq_iff_iff, iff_true, ByteArray.size_append] at *; unfold wrap64; omega), by repeat (first | exact Drawn0.refl _ | apply Drawn0.step)⟩
      · rw [if_neg c5] at H
        exact absurd H (by simp)
    · rw [if_neg c4] at H
      exact absurd H (by simp)
  · rw [if_neg c3] at H
    exact absurd H (by simp)

end Go.Proofs.Ytpfipeopacjkjaa.PFrameSpoilt
