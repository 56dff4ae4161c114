-- Written by a program of this session's (wip/gprint.py): the kit's print, with functions given by hand.
import Derived.Test.YtfnpjjpgigoodaaPSumSumsx0
namespace Go.Proofs.Ytfnpjjpgigoodaa.PSumSums
open Go.RowKit Go.Proofs.YtfnpjjpgigoodaaW.PrintWords Go.Proofs.YtfnpjjpgigoodaaW.PrintLast Go.Proofs.YtfnpjjpgigoodaaW.PrintMore
attribute [local go_sem] max2_int min2_int max_two min_two max_three min_three max_four min_four   -- for this text's walks alone
set_option linter.unusedVariables false
set_option linter.unusedSimpArgs false

/-! ### sum_More: function 12 -/
def sx (c : Int) : Int := if (Go.bits .and .u32 c 1 == 1) = true then Go.bits .xor .u32 (c / 2) 2197175160 else c / 2
def sxN (c : Int) : Nat → Int
  | 0 => c
  | n + 1 => sx (sxN c n)
def tabF (k : Nat) : Int := sxN k 4
def tabArr (k : Nat) : Array Value := ((List.range 16).map fun j => Value.int .u32 (if j < k then tabF j else 0)).toArray
theorem tabArr_size (k : Nat) : (tabArr k).size = 16 := by simp [tabArr]
theorem tabArr_get (k j : Nat) (h : j < 16) : (tabArr k)[j]? = some (.int .u32 (if j < k then tabF j else 0)) := by
  simp [tabArr, h]
theorem tabArr_set (k : Nat) (h : k < 16) : (tabArr k).setIfInBounds k (.int .u32 (tabF k)) = tabArr (k + 1) := by
  apply Array.ext_getElem?
  intro j
  rw [Array.getElem?_setIfInBounds]
  by_cases e : k = j
  · subst e
    rw [if_pos rfl, if_pos (by rw [tabArr_size]; exact h), tabArr_get _ _ h, if_pos (by omega)]
  · rw [if_neg e]
    by_cases hj : j < 16
    · rw [tabArr_get _ _ hj, tabArr_get _ _ hj]
      by_cases hk : j < k
      · rw [if_pos hk, if_pos (by omega)]
      · rw [if_neg hk, if_neg (by omega)]
    · rw [Array.getElem?_eq_none (by rw [tabArr_size]; omega), Array.getElem?_eq_none (by rw [tabArr_size]; omega)]
theorem tabArr_zero : tabArr 0 = #[.int .u32 0, .int .u32 0, .int .u32 0, .int .u32 0, .int .u32 0, .int .u32 0, .int .u32 0, .int .u32 0, .int .u32 0, .int .u32 0, .int .u32 0, .int .u32 0, .int .u32 0, .int .u32 0, .int .u32 0, .int .u32 0] := rfl
theorem sx_true {c : Int} (h : (Go.bits .and .u32 c 1 == 1) = true) : sx c = Go.bits .xor .u32 (c / 2) 2197175160 := by unfold sx; rw [if_pos h]
theorem sx_false {c : Int} (h : (Go.bits .and .u32 c 1 == 1) = false) : sx c = c / 2 := by unfold sx; rw [if_neg (by simp [h])]

set_option maxHeartbeats 4000000 in
set_option maxRecDepth 100000 in
theorem made_calls (w : World) : Calls Try.prog 15 #[] w fun e w' => e = .returned (.agg (tabArr 16)) ∧ Below w.heap.size w w' := by
  go_enter Try.func15, Try.ntmps15
  go_wp2
  go_loopw [3] (fun v3 wr => ∃ k : Nat, k ≤ 16 ∧ v3 = .int .i64 k ∧ wr.heap[w.heap.size]? = some (.cells (tabArr k) 35 (0, 0)) ∧ Below w.heap.size w wr) (fun v3 _ => 16 - (intOf v3).toNat)
  case atStart => exact ⟨0, Nat.zero_le _, rfl, by rw [tabArr_zero]; exact heap_alloc_new w _, below_alloc (Below.refl _ _) _⟩
  case round =>
    obtain ⟨k, hk, rfl, hg, hb⟩ := hrel
    have HG := Lib.hid hg
    have hc0 := blk_cell hg k
    have hfr := blk_frozen hg k
    clear hg
    by_cases hlt : k < 16
    · rw [tabArr_get k k hlt, if_neg (by omega)] at hc0
      go_wp2
      go_loop [2, 8] (fun v2 v8 => ∃ j : Nat, j ≤ 4 ∧ v2 = .int .u32 (sxN k j) ∧ v8 = .int .i64 j) (fun _ v8 => 4 - (intOf v8).toNat)
      case atStart => exact ⟨0, Nat.zero_le _, rfl, rfl⟩
      case round =>
        obtain ⟨j, hj, rfl, rfl⟩ := hrel
        go_wp2
        · go_round
          case rel => exact ⟨j + 1, by omega, by rw [sxN, sx_true ‹_›], by go_num⟩
          case measure => simp [intOf]; omega
        · go_round
          case rel => exact ⟨j + 1, by omega, by rw [sxN, sx_false ‹_›], by go_num⟩
          case measure => simp [intOf]; omega
        · have e4 : j = 4 := by omega
          subst e4
          go_roundw
          case rel => exact ⟨k + 1, by omega, by go_num, by rw [blk_set HG.out]; rw [← tabArr_set k hlt]; rfl, hb.setCell (Nat.le_refl _) _⟩
          case measure => simp [intOf]; omega
    · have : k = 16 := by omega
      subst this
      go_wp2_with (first | (refine wpList_load_row rfl 35 (.tmp 0) rfl w.heap.size rfl 35 (tabArr 16) (0, 0) _ HG.out Try.underlying35 rfl (by kernel_rfl) ?_) | (refine wpList_store_mid rfl 35 (.tmp 0) (.tmp 23) rfl w.heap.size 0 (tabArr 16) rfl rfl ?_ (by kernel_rfl) (by kernel_rfl) ?_))
      · intro j hj
        rw [tabArr_size] at hj
        rw [Nat.zero_add, blk_cell HG.out, blk_frozen HG.out, tabArr_get 16 j hj]
        exact ⟨rfl, rfl⟩
      · obtain ⟨s1, s2, s3, s4⟩ := setCells_same w.heap.size (tabArr 16).toList 0 wr
        obtain ⟨cur, c1, c2, c3⟩ := setCells_row (tabArr 16).toList 0 wr (tabArr 16) HG.out (by simp)
        have c4 : cur = tabArr 16 := by
          apply Array.toList_inj.1
          rw [c3]
          simp
        rw [c4] at c1
        refine bodyPost_ret (v := .agg (tabArr 16)) ?_ rfl ⟨rfl, ⟨s1.trans hb.os, s2.trans hb.tape, s3.trans hb.output, by rw [s4]; exact hb.size, fun q hq => (setCells_far _ 0 q (by omega)).trans (hb.block q hq)⟩⟩
        exact results_cell_row (p := 0) (ty := 35) (by kernel_rfl) _ _ w.heap.size 35 (tabArr 16) (0, 0) _ rfl c1 Try.underlying35 rfl (by kernel_rfl)


/-- Half a byte goes through the register. -/
def half (c : Int) : Int := Go.bits .xor .u32 (c / 16) (tabF (Go.bits .and .u32 c 15).toNat)
def crcB (c b : Int) : Int := half (half (Go.bits .xor .u32 c (b % 4294967296)))
theorem and15 (x : Int) : 0 ≤ Go.bits .and .u32 x 15 ∧ Go.bits .and .u32 x 15 < 16 := by
  unfold Go.bits
  simp only
  rw [IntKind.wrap_u32]
  have h1 : (BitVec.ofInt IntKind.u32.bits x &&& BitVec.ofInt IntKind.u32.bits 15).toNat < 16 := by
    rw [BitVec.toNat_and]
    exact Nat.lt_of_le_of_lt Nat.and_le_right (by decide)
  omega
def crcW (c : Int) (s : ByteArray) : Nat → Int
  | 0 => c
  | i + 1 => crcB (crcW c s i) (bt s i)
theorem fill_new (w w1 : World) (hb : Below w.heap.size w w1) (t : TypeId) (cs : Array Value) (vs : List Value) (hl : cs.size = vs.length) :
    (((w1.alloc (.cells cs t)).setCells w1.heap.size 0 vs).heap[w1.heap.size]? = some (.cells vs.toArray t (0, 0))) ∧ Below w.heap.size w ((w1.alloc (.cells cs t)).setCells w1.heap.size 0 vs) := by
  obtain ⟨s1, s2, s3, s4⟩ := setCells_same w1.heap.size vs 0 (w1.alloc (.cells cs t))
  obtain ⟨cur, c1, c2, c3⟩ := setCells_row vs 0 (w1.alloc (.cells cs t)) cs (heap_alloc_new w1 _) (by omega)
  have c4 : cur = vs.toArray := by
    apply Array.toList_inj.1
    rw [c3]
    simp [hl]
  have ha := below_alloc hb (.cells cs t)
  rw [c4] at c1
  have hsz := hb.size
  exact ⟨c1, ⟨s1.trans ha.os, s2.trans ha.tape, s3.trans ha.output, by rw [s4]; exact ha.size, fun q hq => (setCells_far _ 0 q (by omega)).trans (ha.block q hq)⟩⟩
theorem tab_cell {w : World} {g : Nat} (h : w.heap[g]? = some (.cells (tabArr 16) 35 (0, 0))) (q : Nat) (hq : q < 16) : w.cell? ⟨g, q, none⟩ = some (.int .u32 (tabF q)) := by
  rw [blk_cell h, tabArr_get 16 q hq, if_pos hq]
set_option maxHeartbeats 4000000 in
set_option maxRecDepth 100000 in
theorem more_calls (c : Int) (s : ByteArray) (w : World) (hs : s.size ≤ 9223372036854775807) : Calls Try.prog 12 #[.int .u32 c, .string s] w fun e w' => e = .returned (.int .u32 (Go.bits .xor .u32 IntKind.u32.max (crcW (Go.bits .xor .u32 IntKind.u32.max c) s s.size))) ∧ Below w.heap.size w w' := by
  go_enter Try.func12, Try.ntmps12
  go_wp2_with (first | (go_at_call 15; refine (made_calls _).mono ?_; rintro e w1 ⟨rfl, hb1⟩) | (refine wpList_store_mid rfl 35 (.tmp 5) (.tmp 8) rfl w1.heap.size 0 (tabArr 16) rfl rfl ?c1 (by kernel_rfl) (by kernel_rfl) ?_; (case c1 => intro j hj; rw [tabArr_size] at hj; rw [Nat.zero_add, blk_cell (heap_alloc_new w1 _), blk_frozen (heap_alloc_new w1 _)]; exact ⟨by simp; omega, rfl⟩); obtain ⟨hg, hb⟩ := fill_new w w1 hb1 35 #[.int .u32 0, .int .u32 0, .int .u32 0, .int .u32 0, .int .u32 0, .int .u32 0, .int .u32 0, .int .u32 0, .int .u32 0, .int .u32 0, .int .u32 0, .int .u32 0, .int .u32 0, .int .u32 0, .int .u32 0, .int .u32 0] (tabArr 16).toList rfl; generalize hwt : (World.setCells _ _ _ _) = wt at *; clear hwt; have HG := Lib.hid hg; clear hg))
  obtain ⟨c2, hc2⟩ : ∃ c2, c2 = Go.bits .xor .u32 IntKind.u32.max c := ⟨_, rfl⟩
  rw [← hc2]
  have HC := Lib.hid hc2
  clear hc2
  go_loop [6, 13] (fun v6 v13 => ∃ i : Nat, i ≤ s.size ∧ v6 = .int .u32 (crcW c2 s i) ∧ v13 = .int .i64 i) (fun _ v13 => s.size - (intOf v13).toNat)
  case atStart => exact ⟨0, Nat.zero_le _, rfl, rfl⟩
  case round =>
    obtain ⟨i, hi, rfl, rfl⟩ := hrel
    by_cases hlt : i < s.size
    · have b1 := and15 (Go.bits .xor .u32 (crcW c2 s i) ((s[i].toNat : Int) % 4294967296))
      have b2 := and15 (half (Go.bits .xor .u32 (crcW c2 s i) ((s[i].toNat : Int) % 4294967296)))
      have d1 : wt.cell? ⟨w1.heap.size, (Go.bits .and .u32 (Go.bits .xor .u32 (crcW c2 s i) ((s[i].toNat : Int) % 4294967296)) 15).toNat, none⟩ = some (.int .u32 (tabF (Go.bits .and .u32 (Go.bits .xor .u32 (crcW c2 s i) ((s[i].toNat : Int) % 4294967296)) 15).toNat)) := tab_cell HG.out _ (by omega)
      have d2 : wt.cell? ⟨w1.heap.size, (Go.bits .and .u32 (half (Go.bits .xor .u32 (crcW c2 s i) ((s[i].toNat : Int) % 4294967296))) 15).toNat, none⟩ = some (.int .u32 (tabF (Go.bits .and .u32 (half (Go.bits .xor .u32 (crcW c2 s i) ((s[i].toNat : Int) % 4294967296))) 15).toNat)) := tab_cell HG.out _ (by omega)
      simp only [half] at b2 d2
      have hbt : bt s i = (s[i].toNat : Int) := (bt_at s i (by simpa using hlt)).symm
      have HBT := Lib.hid hbt
      clear hbt
      go_wp2
      go_round
      case rel => exact ⟨i + 1, by omega, by rw [crcW, HBT.out]; rfl, by go_num⟩
      case measure => simp [intOf]; omega
    · have e : i = s.size := by omega
      subst e
      go_wp2
      go_ret
      exact ⟨by rw [HC.out]; rfl, hb⟩

def sum_More.f (a0 : Int) (a1 : ByteArray) : Option (Int) := if a1.size ≤ 9223372036854775807 then some (Go.bits .xor .u32 IntKind.u32.max (crcW (Go.bits .xor .u32 IntKind.u32.max a0) a1 a1.size)) else none
theorem sum_More.calls (a0 : Int) (a1 : ByteArray) (r : Int) (w : World) (h : sum_More.f a0 a1 = some r) :
    Calls Try.prog 12 #[.int .u32 a0, .string a1] w fun e w' => e = .returned (.int .u32 r) ∧ Below w.heap.size w w' := by
  unfold sum_More.f at h
  by_cases hs : a1.size ≤ 9223372036854775807
  · rw [if_pos hs] at h
    obtain rfl := Option.some.inj h
    exact more_calls a0 a1 w hs
  · rw [if_neg hs] at h
    exact absurd h (by simp)

/-! ### sum_Crc: function 10 -/
def sum_Crc.f (a0 : ByteArray) : Option (Int) := (sum_More.f 0 a0).bind fun t101 => (some t101)
set_option maxHeartbeats 8000000 in
set_option maxRecDepth 100000 in
theorem sum_Crc.calls (a0 : ByteArray) (r : Int) (w : World) (h : sum_Crc.f a0 = some r) :
    Calls Try.prog 10 #[.string a0] w fun e w' => e = .returned (.int .u32 r) ∧ Below w.heap.size w w' := by
  have HB := Aside0.mk (Below.refl w.heap.size w)
  have H : ((sum_More.f 0 a0).bind fun t101 => (some t101)) = some r := h
  clear h
  replace H := Option.bind_eq_some_iff.mp H
  obtain ⟨t101, A20, H⟩ := H
  replace H : (some t101) = some r := H
  have A2 := Aside0.mk A20
  clear A20
  obtain rfl := Option.some.inj H
  go_enter Try.func10, Try.ntmps10
  go_wp2_with (first | ((with_reducible refine gate_callee (f := 12) rfl ?_); refine goesL_ (some 4) rfl rfl Try.func12 (by kernel_rfl) rfl #[.int .u32 0, .string a0] rfl (by (try simp only [List.map_toArray, List.map_cons, List.map_nil]); first | done | rfl | (simp only [List.length_drop, List.length_take]; rfl)) ?_; (with_reducible refine (sum_More.calls 0 a0 t101 _ A2.out).mono ?_); rintro e w3 ⟨rfl, hb⟩; refine ⟨_, rfl, ?_⟩; have n0_ := Aside0.mk (below_step (by repeat (first | (with_reducible first | exact HB.out | apply below_alloc | apply pw_below_drewN | apply below_drew1) | exact HB.out)) hb); clear HB; have HB := n0_; clear n0_; (try clear hb); (try clear hb2); (try clear hk); (try clear hi)))
  go_ret
  exact ⟨by first | rfl | (simp [errW_none, errW_some] <;> rfl) | (simp [*, errW_none, errW_some] <;> rfl), by repeat (first | (with_reducible first | exact HB.out | apply below_alloc | apply pw_below_drewN | apply below_drew1) | exact HB.out)⟩

/-! ### meterlaw01_awake: function 9 -/
def meterlaw01_awake.f  : Option (Bool) := (sum_Crc.f (⟨#[49, 50, 51, 52, 53, 54, 55, 56, 57]⟩ : ByteArray)).bind fun t102 => (some (t102 == 3808858755))
set_option maxHeartbeats 8000000 in
set_option maxRecDepth 100000 in
theorem meterlaw01_awake.calls  (r : Bool) (w : World) (h : meterlaw01_awake.f  = some r) :
    Calls Try.prog 9 #[] w fun e w' => e = .returned (.bool r) ∧ Below w.heap.size w w' := by
  have HB := Aside0.mk (Below.refl w.heap.size w)
  have H : ((sum_Crc.f (⟨#[49, 50, 51, 52, 53, 54, 55, 56, 57]⟩ : ByteArray)).bind fun t102 => (some (t102 == 3808858755))) = some r := h
  clear h
  replace H := Option.bind_eq_some_iff.mp H
  obtain ⟨t102, A10, H⟩ := H
  replace H : (some (t102 == 3808858755)) = some r := H
  have A1 := Aside0.mk A10
  clear A10
  obtain rfl := Option.some.inj H
  go_enter Try.func9, Try.ntmps9
  go_wp2_with (first | ((with_reducible refine gate_callee (f := 10) rfl ?_); refine goesL_ (some 1) rfl rfl Try.func10 (by kernel_rfl) rfl #[.string (⟨#[49, 50, 51, 52, 53, 54, 55, 56, 57]⟩ : ByteArray)] rfl (by (try simp only [List.map_toArray, List.map_cons, List.map_nil]); first | done | rfl | (simp only [List.length_drop, List.length_take]; rfl)) ?_; (with_reducible refine (sum_Crc.calls (⟨#[49, 50, 51, 52, 53, 54, 55, 56, 57]⟩ : ByteArray) t102 _ A1.out).mono ?_); rintro e w2 ⟨rfl, hb⟩; refine ⟨_, rfl, ?_⟩; have n0_ := Aside0.mk (below_step (by repeat (first | (with_reducible first | exact HB.out | apply below_alloc | apply pw_below_drewN | apply below_drew1) | exact HB.out)) hb); clear HB; have HB := n0_; clear n0_; (try clear hb); (try clear hb2); (try clear hk); (try clear hi)))
  go_ret
  exact ⟨by first | rfl | (simp [errW_none, errW_some] <;> rfl) | (simp [*, errW_none, errW_some] <;> rfl), by repeat (first | (with_reducible first | exact HB.out | apply below_alloc | apply pw_below_drewN | apply below_drew1) | exact HB.out)⟩

/-! ### meterref01_More: function 13 -/
mutual
def meterref01_More.l0 : Nat → ByteArray → Int → Int → Option (Int)
  | 0, _, _, _ => none
  | k + 1, x1, x5, x6 => if x6 < (x1.size : Int) then (if 0 ≤ x6 then (meterref01_More.l1 k x1 (Go.bits .xor .u32 x5 ((bt x1 x6) % 4294967296)) x6 0) else (none)) else (some (Go.bits .xor .u32 x5 4294967295))
def meterref01_More.l1 : Nat → ByteArray → Int → Int → Int → Option (Int)
  | 0, _, _, _, _ => none
  | k + 1, x1, x5, x6, x7 => if x7 < 8 then (if (Int.tmod x5 2) = 1 then (meterref01_More.l1 k x1 (Go.bits .xor .u32 ((Int.tdiv x5 2) % 4294967296) 2197175160) x6 (wrap64 (x7 + 1))) else (meterref01_More.l1 k x1 ((Int.tdiv x5 2) % 4294967296) x6 (wrap64 (x7 + 1)))) else (meterref01_More.l0 k x1 x5 (wrap64 (x6 + 1)))
end
def meterref01_More.f (k : Nat) (a0 : Int) (a1 : ByteArray) : Option (Int) := meterref01_More.l0 k a1 (Go.bits .xor .u32 a0 4294967295) 0
theorem meterref01_More.mono_l : ∀ k, (∀ y0 y1 y2, LeO (meterref01_More.l0 k y0 y1 y2) (meterref01_More.l0 (k + 1) y0 y1 y2)) ∧ (∀ y0 y1 y2 y3, LeO (meterref01_More.l1 k y0 y1 y2 y3) (meterref01_More.l1 (k + 1) y0 y1 y2 y3))
  | 0 => ⟨fun _ _ _ r h => by simp [meterref01_More.l0] at h, fun _ _ _ _ r h => by simp [meterref01_More.l1] at h⟩
  | k + 1 => by
    obtain ⟨ih0, ih1⟩ := meterref01_More.mono_l k
    refine ⟨?_, ?_⟩
    · intro y0 y1 y2
      unfold meterref01_More.l0
      repeat' first
      | (with_reducible exact ih0 _ _ _)
      | (with_reducible exact ih1 _ _ _ _)
      | (with_reducible exact LeO.refl _)
      | (with_reducible exact LeO.none _)
      | (with_reducible refine LeO.ite ?_ ?_)
      | (with_reducible refine LeO.bind ?_ (fun _ => ?_))
      | exact ih0 _ _ _
      | exact ih1 _ _ _ _
      | exact LeO.none _
      | refine LeO.ite ?_ ?_
      | refine LeO.bind ?_ (fun _ => ?_)
    · intro y0 y1 y2 y3
      unfold meterref01_More.l1
      repeat' first
      | (with_reducible exact ih0 _ _ _)
      | (with_reducible exact ih1 _ _ _ _)
      | (with_reducible exact LeO.refl _)
      | (with_reducible exact LeO.none _)
      | (with_reducible refine LeO.ite ?_ ?_)
      | (with_reducible refine LeO.bind ?_ (fun _ => ?_))
      | exact ih0 _ _ _
      | exact ih1 _ _ _ _
      | exact LeO.none _
      | refine LeO.ite ?_ ?_
      | refine LeO.bind ?_ (fun _ => ?_)
theorem meterref01_More.mono : ∀ a0 a1 k, LeO (meterref01_More.f k a0 a1) (meterref01_More.f (k + 1) a0 a1) := by
  intro a0 a1 k
  obtain ⟨ih0, ih1⟩ := meterref01_More.mono_l k
  unfold meterref01_More.f
  repeat' first
      | (with_reducible exact ih0 _ _ _)
      | (with_reducible exact ih1 _ _ _ _)
      | (with_reducible exact LeO.refl _)
      | (with_reducible exact LeO.none _)
      | (with_reducible refine LeO.ite ?_ ?_)
      | (with_reducible refine LeO.bind ?_ (fun _ => ?_))
      | exact ih0 _ _ _
      | exact ih1 _ _ _ _
      | exact LeO.none _
      | refine LeO.ite ?_ ?_
      | refine LeO.bind ?_ (fun _ => ?_)
set_option maxHeartbeats 8000000 in
set_option maxRecDepth 100000 in
theorem meterref01_More.calls (k : Nat) (a0 : Int) (a1 : ByteArray) (r : Int) (w : World) (h : meterref01_More.f k a0 a1 = some r) :
    Calls Try.prog 13 #[.int .u32 a0, .string a1] w fun e w' => e = .returned (.int .u32 r) ∧ Drawn0 w w' := by
  have H : (meterref01_More.l0 k a1 (Go.bits .xor .u32 a0 4294967295) 0) = some r := h
  clear h
  have H' := Aside0.mk H
  clear H
  go_enter Try.func13, Try.ntmps13
  go_wp2
  go_loopg [5, 6] k (fun kq v5 v6 w' => ∃ (x5_1 : Int) (x6_1 : Int), v5 = .int .u32 x5_1 ∧ v6 = .int .i64 x6_1 ∧ Aside0 (meterref01_More.l0 kq a1 x5_1 x6_1 = some r) ∧ Aside0 (kq ≤ k) ∧ Drawn0 w w')
  case atStart => exact ⟨(Go.bits .xor .u32 a0 4294967295), (0), (by first | rfl | (simp; done) | (simp [*]; done)), (by first | rfl | (simp; done) | (simp [*]; done)), H', ⟨Nat.le_refl _⟩, by repeat (first | exact Drawn0.refl _ | apply Drawn0.step)⟩
  case round =>
    clear H'
    try clear c1
    try clear p2
    obtain ⟨x5_1, x6_1, rfl, rfl, HA, HK1, ⟨m1, rfl⟩⟩ := hrel
    cases gk with
    | zero => exact absurd HA.out (by simp [meterref01_More.l0])
    | succ k1 =>
      have H := HA.out
      clear HA
      simp only [meterref01_More.l0] at H
      by_cases c3 : x6_1 < (a1.size : Int)
      · rw [if_pos c3] at H
        have c3b0 : decide (x6_1 < (a1.size : Int)) = true := decide_eq_true c3
        clear c3
        by_cases c4 : 0 ≤ x6_1
        · rw [if_pos c4] at H
          have c4b0 : decide (0 ≤ x6_1) = true := decide_eq_true c4
          clear c4
          have H' := Aside0.mk H
          clear H
          have p5 : 0 ≤ (x6_1 : Int) := of_decide_eq_true (by first | (with_reducible assumption) | assumption)
          have q5 : x6_1 < (a1.size : Int) := of_decide_eq_true (by first | (with_reducible assumption) | assumption)
          have hx5 := bt_at a1 x6_1
          replace p5 := eq_true p5
          replace q5 := eq_true q5
          go_wp2
          go_loopg [5, 7] k1 (fun kq v5 v7 w' => ∃ (x5_2 : Int) (x7_2 : Int), v5 = .int .u32 x5_2 ∧ v7 = .int .i64 x7_2 ∧ Aside0 (meterref01_More.l1 kq a1 x5_2 x6_1 x7_2 = some r) ∧ Aside0 (kq ≤ k1) ∧ Drawn0 w w')
          case atStart => exact ⟨(Go.bits .xor .u32 x5_1 ((bt a1 x6_1) % 4294967296)), (0), (by first | rfl | (simp; done) | (simp [*]; done)), (by first | rfl | (simp; done) | (simp [*]; done)), H', ⟨Nat.le_refl _⟩, by repeat (first | exact Drawn0.refl _ | apply Drawn0.step)⟩
          case round =>
            clear H'
            try clear c1
            try clear p2
            try clear c3
            try clear c3b0
            try clear c4
            try clear c4b0
            try clear p5
            try clear q5
            try clear hx5
            try clear p2
            try clear p5
            try clear q5
            obtain ⟨x5_2, x7_2, rfl, rfl, HA, HK2, ⟨m2, rfl⟩⟩ := hrel
            cases gk with
            | zero => exact absurd HA.out (by simp [meterref01_More.l1])
            | succ k2 =>
              have H := HA.out
              clear HA
              simp only [meterref01_More.l1] at H
              by_cases c6 : x7_2 < 8
              · rw [if_pos c6] at H
                have c6b0 : decide (x7_2 < 8) = true := decide_eq_true c6
                clear c6
                by_cases c7 : (Int.tmod x5_2 2) = 1
                · rw [if_pos c7] at H
                  have c7b0 : ((Int.tmod x5_2 2) == 1) = true := beq_iff_eq.mpr c7
                  have c7b1 : ((Int.tmod x5_2 2) != 1) = false := bne_eq_false_iff_eq.mpr c7
                  clear c7
                  have H' := Aside0.mk H
                  clear H
                  go_wp2
                  go_roundg k2
                  case measure => have := HK1.out; have := HK2.out; omega
                  case rel => exact ⟨(Go.bits .xor .u32 ((Int.tdiv x5_2 2) % 4294967296) 2197175160), (wrap64 (x7_2 + 1)), (by first | rfl | (simp; done) | (simp [*]; done)), (by first | rfl | (simp; done) | (simp [*]; done)), H', ⟨by have := HK1.out; have := HK2.out; omega⟩, by repeat (first | exact Drawn0.refl _ | apply Drawn0.step)⟩
                · rw [if_neg c7] at H
                  have c7b0 : ((Int.tmod x5_2 2) == 1) = false := beq_eq_false_iff_ne.mpr c7
                  have c7b1 : ((Int.tmod x5_2 2) != 1) = true := bne_iff_ne.mpr c7
                  have H' := Aside0.mk H
                  clear H
                  go_wp2
                  go_roundg k2
                  case measure => have := HK1.out; have := HK2.out; omega
                  case rel => exact ⟨((Int.tdiv x5_2 2) % 4294967296), (wrap64 (x7_2 + 1)), (by first | rfl | (simp; done) | (simp [*]; done)), (by first | rfl | (simp; done) | (simp [*]; done)), H', ⟨by have := HK1.out; have := HK2.out; omega⟩, by repeat (first | exact Drawn0.refl _ | apply Drawn0.step)⟩
              · rw [if_neg c6] at H
                have c6b0 : decide (x7_2 < 8) = false := decide_eq_false c6
                clear c6
                have H' := Aside0.mk H
                clear H
                go_wp2
                go_roundg k2
                case measure => have := HK1.out; have := HK2.out; omega
                case rel => exact ⟨(x5_2), (wrap64 (x6_1 + 1)), (by first | rfl | (simp; done) | (simp [*]; done)), (by first | rfl | (simp; done) | (simp [*]; done)), H', ⟨by have := HK1.out; have := HK2.out; omega⟩, by repeat (first | exact Drawn0.refl _ | apply Drawn0.step)⟩
        · rw [if_neg c4] at H
          exact absurd H (by simp)
      · rw [if_neg c3] at H
        have c3b0 : decide (x6_1 < (a1.size : Int)) = false := decide_eq_false c3
        clear c3
        obtain rfl := Option.some.inj H
        go_wp2
        go_ret
        exact ⟨by first | rfl | (simp; done) | (simp [*]; done), by repeat (first | exact Drawn0.refl _ | apply Drawn0.step)⟩

/-! ### meterref01_Crc: function 11 -/
def meterref01_Crc.f (k : Nat) (a0 : ByteArray) : Option (Int) := (meterref01_More.f k 0 a0).bind fun t103 => (some t103)
theorem meterref01_Crc.mono : ∀ a0 k, LeO (meterref01_Crc.f k a0) (meterref01_Crc.f (k + 1) a0) := by
  intro a0 k
  unfold meterref01_Crc.f
  repeat' first
      | (with_reducible exact meterref01_More.mono _ _ _)
      | (with_reducible exact LeO.refl _)
      | (with_reducible exact LeO.none _)
      | (with_reducible refine LeO.ite ?_ ?_)
      | (with_reducible refine LeO.bind ?_ (fun _ => ?_))
      | exact meterref01_More.mono _ _ _
      | exact LeO.none _
      | refine LeO.ite ?_ ?_
      | refine LeO.bind ?_ (fun _ => ?_)
set_option maxHeartbeats 8000000 in
set_option maxRecDepth 100000 in
theorem meterref01_Crc.calls (k : Nat) (a0 : ByteArray) (r : Int) (w : World) (h : meterref01_Crc.f k a0 = some r) :
    Calls Try.prog 11 #[.string a0] w fun e w' => e = .returned (.int .u32 r) ∧ Drawn0 w w' := by
  have H : ((meterref01_More.f k 0 a0).bind fun t103 => (some t103)) = some r := h
  clear h
  replace H := Option.bind_eq_some_iff.mp H
  obtain ⟨t103, A20, H⟩ := H
  replace H : (some t103) = some r := H
  have A2 := Aside0.mk A20
  clear A20
  obtain rfl := Option.some.inj H
  go_enter Try.func11, Try.ntmps11
  go_wp2_with (first | ((with_reducible refine gate_callee (f := 13) rfl ?_); refine goesL_ (some 4) rfl rfl Try.func13 (by kernel_rfl) rfl #[.int .u32 0, .string a0] rfl (by (try simp only [List.map_toArray, List.map_cons, List.map_nil]); first | done | rfl | (simp only [List.length_drop, List.length_take]; rfl)) ?_; (with_reducible refine (meterref01_More.calls k 0 a0 t103 _ A2.out).mono ?_); rintro e w' ⟨rfl, ⟨nd, rfl⟩⟩; refine ⟨_, rfl, ?_⟩))
  go_ret
  exact ⟨by first | rfl | (simp; done) | (simp [*]; done), by repeat (first | exact Drawn0.refl _ | apply Drawn0.step)⟩

/-! ### meterlaw01_SumSums: function 4 -/
def meterlaw01_SumSums.f (k : Nat) (a0 : Int) (a1 : ByteArray) : Option (Bool) := (meterlaw01_awake.f).bind fun t104 => (if t104 = true then (if (a1.size : Int) > 100000 then (some true) else ((sum_Crc.f a1).bind fun t105 => ((meterref01_Crc.f k a1).bind fun t106 => (if t105 = t106 then ((sum_More.f a0 a1).bind fun t107 => ((meterref01_More.f k a0 a1).bind fun t108 => (some (t107 == t108)))) else (some false))))) else (some false))
theorem meterlaw01_SumSums.mono : ∀ a0 a1 k, LeO (meterlaw01_SumSums.f k a0 a1) (meterlaw01_SumSums.f (k + 1) a0 a1) := by
  intro a0 a1 k
  unfold meterlaw01_SumSums.f
  repeat' first
      | (with_reducible exact meterref01_Crc.mono _ _)
      | (with_reducible exact meterref01_More.mono _ _ _)
      | (with_reducible exact LeO.refl _)
      | (with_reducible exact LeO.none _)
      | (with_reducible refine LeO.ite ?_ ?_)
      | (with_reducible refine LeO.bind ?_ (fun _ => ?_))
      | exact meterref01_Crc.mono _ _
      | exact meterref01_More.mono _ _ _
      | exact LeO.none _
      | refine LeO.ite ?_ ?_
      | refine LeO.bind ?_ (fun _ => ?_)
set_option maxHeartbeats 8000000 in
set_option maxRecDepth 100000 in
theorem meterlaw01_SumSums.calls (k : Nat) (a0 : Int) (a1 : ByteArray) (r : Bool) (w : World) (h : meterlaw01_SumSums.f k a0 a1 = some r) :
    Calls Try.prog 4 #[.int .u32 a0, .string a1] w fun e w' => e = .returned (.bool r) ∧ Below w.heap.size w w' := by
  have HB := Aside0.mk (Below.refl w.heap.size w)
  have H : ((meterlaw01_awake.f).bind fun t104 => (if t104 = true then (if (a1.size : Int) > 100000 then (some true) else ((sum_Crc.f a1).bind fun t105 => ((meterref01_Crc.f k a1).bind fun t106 => (if t105 = t106 then ((sum_More.f a0 a1).bind fun t107 => ((meterref01_More.f k a0 a1).bind fun t108 => (some (t107 == t108)))) else (some false))))) else (some false))) = some r := h
  clear h
  replace H := Option.bind_eq_some_iff.mp H
  obtain ⟨t104, A30, H⟩ := H
  replace H : (if t104 = true then (if (a1.size : Int) > 100000 then (some true) else ((sum_Crc.f a1).bind fun t105 => ((meterref01_Crc.f k a1).bind fun t106 => (if t105 = t106 then ((sum_More.f a0 a1).bind fun t107 => ((meterref01_More.f k a0 a1).bind fun t108 => (some (t107 == t108)))) else (some false))))) else (some false)) = some r := H
  have A3 := Aside0.mk A30
  clear A30
  by_cases c4 : t104 = true
  · subst c4
    have H1 : (if (a1.size : Int) > 100000 then (some true) else ((sum_Crc.f a1).bind fun t105 => ((meterref01_Crc.f k a1).bind fun t106 => (if t105 = t106 then ((sum_More.f a0 a1).bind fun t107 => ((meterref01_More.f k a0 a1).bind fun t108 => (some (t107 == t108)))) else (some false))))) = some r := by rw [if_pos rfl] at H; exact H
    clear H
    have H := H1
    clear H1
    by_cases c5 : (a1.size : Int) > 100000
    · rw [if_pos c5] at H
      have c5b0 : decide (100000 < (a1.size : Int)) = true := decide_eq_true c5
      have c5b1 : decide (100000 < a1.size) = true := decide_eq_true (by omega)
      clear c5
      obtain rfl := Option.some.inj H
      go_enter Try.func4, Try.ntmps4
      go_wp2_with (first | ((with_reducible refine gate_callee (f := 9) rfl ?_); refine goesL_ (some 5) rfl rfl Try.func9 (by kernel_rfl) rfl #[] rfl (by (try simp only [List.map_toArray, List.map_cons, List.map_nil]); first | done | rfl | (simp only [List.length_drop, List.length_take]; rfl)) ?_; (with_reducible refine (meterlaw01_awake.calls  true _ A3.out).mono ?_); rintro e w6 ⟨rfl, hb⟩; refine ⟨_, rfl, ?_⟩; have n0_ := Aside0.mk (below_step (by repeat (first | (with_reducible first | exact HB.out | apply below_alloc | apply pw_below_drewN | apply below_drew1) | exact HB.out)) hb); clear HB; have HB := n0_; clear n0_; (try clear hb); (try clear hb2); (try clear hk); (try clear hi)))
      go_ret
      exact ⟨by first | rfl | (simp [errW_none, errW_some] <;> rfl) | (simp [*, errW_none, errW_some] <;> rfl), by repeat (first | (with_reducible first | exact HB.out | apply below_alloc | apply pw_below_drewN | apply below_drew1) | exact HB.out)⟩
    · rw [if_neg c5] at H
      have c5b0 : decide (100000 < (a1.size : Int)) = false := decide_eq_false c5
      have c5b1 : decide (100000 < a1.size) = false := decide_eq_false (by omega)
      clear c5
      replace H := Option.bind_eq_some_iff.mp H
      obtain ⟨t105, A70, H⟩ := H
      replace H : ((meterref01_Crc.f k a1).bind fun t106 => (if t105 = t106 then ((sum_More.f a0 a1).bind fun t107 => ((meterref01_More.f k a0 a1).bind fun t108 => (some (t107 == t108)))) else (some false))) = some r := H
      have A7 := Aside0.mk A70
      clear A70
      replace H := Option.bind_eq_some_iff.mp H
      obtain ⟨t106, A80, H⟩ := H
      replace H : (if t105 = t106 then ((sum_More.f a0 a1).bind fun t107 => ((meterref01_More.f k a0 a1).bind fun t108 => (some (t107 == t108)))) else (some false)) = some r := H
      have A8 := Aside0.mk A80
      clear A80
      by_cases c9 : t105 = t106
      · rw [if_pos c9] at H
        have c9b0 : (t105 == t106) = true := beq_iff_eq.mpr c9
        have c9b1 : (t105 != t106) = false := bne_eq_false_iff_eq.mpr c9
        clear c9
        replace H := Option.bind_eq_some_iff.mp H
        obtain ⟨t107, A100, H⟩ := H
        replace H : ((meterref01_More.f k a0 a1).bind fun t108 => (some (t107 == t108))) = some r := H
        have A10 := Aside0.mk A100
        clear A100
        replace H := Option.bind_eq_some_iff.mp H
        obtain ⟨t108, A110, H⟩ := H
        replace H : (some (t107 == t108)) = some r := H
        have A11 := Aside0.mk A110
        clear A110
        obtain rfl := Option.some.inj H
        go_enter Try.func4, Try.ntmps4
        go_wp2_with (first | ((with_reducible refine gate_callee (f := 9) rfl ?_); refine goesL_ (some 5) rfl rfl Try.func9 (by kernel_rfl) rfl #[] rfl (by (try simp only [List.map_toArray, List.map_cons, List.map_nil]); first | done | rfl | (simp only [List.length_drop, List.length_take]; rfl)) ?_; (with_reducible refine (meterlaw01_awake.calls  true _ A3.out).mono ?_); rintro e w12 ⟨rfl, hb⟩; refine ⟨_, rfl, ?_⟩; have n0_ := Aside0.mk (below_step (by repeat (first | (with_reducible first | exact HB.out | apply below_alloc | apply pw_below_drewN | apply below_drew1) | exact HB.out)) hb); clear HB; have HB := n0_; clear n0_; (try clear hb); (try clear hb2); (try clear hk); (try clear hi)) | ((with_reducible refine gate_callee (f := 10) rfl ?_); refine goesL_ (some 11) rfl rfl Try.func10 (by kernel_rfl) rfl #[.string a1] rfl (by (try simp only [List.map_toArray, List.map_cons, List.map_nil]); first | done | rfl | (simp only [List.length_drop, List.length_take]; rfl)) ?_; (with_reducible refine (sum_Crc.calls a1 t105 _ A7.out).mono ?_); rintro e w13 ⟨rfl, hb⟩; refine ⟨_, rfl, ?_⟩; have n0_ := Aside0.mk (below_step (by repeat (first | (with_reducible first | exact HB.out | apply below_alloc | apply pw_below_drewN | apply below_drew1) | exact HB.out)) hb); clear HB; have HB := n0_; clear n0_; (try clear hb); (try clear hb2); (try clear hk); (try clear hi)) | ((with_reducible refine gate_callee (f := 11) rfl ?_); refine goesL_ (some 13) rfl rfl Try.func11 (by kernel_rfl) rfl #[.string a1] rfl (by (try simp only [List.map_toArray, List.map_cons, List.map_nil]); first | done | rfl | (simp only [List.length_drop, List.length_take]; rfl)) ?_; (with_reducible refine (meterref01_Crc.calls k a1 t106 _ A8.out).mono ?_); rintro e w' ⟨rfl, ⟨nd, rfl⟩⟩; refine ⟨_, rfl, ?_⟩) | (go_at_call 12; (with_reducible refine (sum_More.calls a0 a1 t107 _ A10.out).mono ?_); rintro e w14 ⟨rfl, hb⟩; have n0_ := Aside0.mk (below_step (by repeat (first | (with_reducible first | exact HB.out | apply below_alloc | apply pw_below_drewN | apply below_drew1) | exact HB.out)) hb); clear HB; have HB := n0_; clear n0_; (try clear hb); (try clear hb2); (try clear hk); (try clear hi)) | (go_at_call 13; (with_reducible refine (meterref01_More.calls k a0 a1 t108 _ A11.out).mono ?_); rintro e w' ⟨rfl, ⟨nd, rfl⟩⟩))
        go_ret
        exact ⟨by first | rfl | (simp [errW_none, errW_some] <;> rfl) | (simp [*, errW_none, errW_some] <;> rfl), by repeat (first | (with_reducible first | exact HB.out | apply below_alloc | apply pw_below_drewN | apply below_drew1) | exact HB.out)⟩
      · rw [if_neg c9] at H
        have c9b0 : (t105 == t106) = false := beq_eq_false_iff_ne.mpr c9
        have c9b1 : (t105 != t106) = true := bne_iff_ne.mpr c9
        obtain rfl := Option.some.inj H
        go_enter Try.func4, Try.ntmps4
        go_wp2_with (first | ((with_reducible refine gate_callee (f := 9) rfl ?_); refine goesL_ (some 5) rfl rfl Try.func9 (by kernel_rfl) rfl #[] rfl (by (try simp only [List.map_toArray, List.map_cons, List.map_nil]); first | done | rfl | (simp only [List.length_drop, List.length_take]; rfl)) ?_; (with_reducible refine (meterlaw01_awake.calls  true _ A3.out).mono ?_); rintro e w15 ⟨rfl, hb⟩; refine ⟨_, rfl, ?_⟩; have n0_ := Aside0.mk (below_step (by repeat (first | (with_reducible first | exact HB.out | apply below_alloc | apply pw_below_drewN | apply below_drew1) | exact HB.out)) hb); clear HB; have HB := n0_; clear n0_; (try clear hb); (try clear hb2); (try clear hk); (try clear hi)) | ((with_reducible refine gate_callee (f := 10) rfl ?_); refine goesL_ (some 11) rfl rfl Try.func10 (by kernel_rfl) rfl #[.string a1] rfl (by (try simp only [List.map_toArray, List.map_cons, List.map_nil]); first | done | rfl | (simp only [List.length_drop, List.length_take]; rfl)) ?_; (with_reducible refine (sum_Crc.calls a1 t105 _ A7.out).mono ?_); rintro e w16 ⟨rfl, hb⟩; refine ⟨_, rfl, ?_⟩; have n0_ := Aside0.mk (below_step (by repeat (first | (with_reducible first | exact HB.out | apply below_alloc | apply pw_below_drewN | apply below_drew1) | exact HB.out)) hb); clear HB; have HB := n0_; clear n0_; (try clear hb); (try clear hb2); (try clear hk); (try clear hi)) | ((with_reducible refine gate_callee (f := 11) rfl ?_); refine goesL_ (some 13) rfl rfl Try.func11 (by kernel_rfl) rfl #[.string a1] rfl (by (try simp only [List.map_toArray, List.map_cons, List.map_nil]); first | done | rfl | (simp only [List.length_drop, List.length_take]; rfl)) ?_; (with_reducible refine (meterref01_Crc.calls k a1 t106 _ A8.out).mono ?_); rintro e w' ⟨rfl, ⟨nd, rfl⟩⟩; refine ⟨_, rfl, ?_⟩))
        go_ret
        exact ⟨by first | rfl | (simp [errW_none, errW_some] <;> rfl) | (simp [*, errW_none, errW_some] <;> rfl), by repeat (first | (with_reducible first | exact HB.out | apply below_alloc | apply pw_below_drewN | apply below_drew1) | exact HB.out)⟩
  · replace c4 := Bool.eq_false_iff.mpr c4
    subst c4
    have H1 : (some false) = some r := by rw [if_neg (show ¬ (false = true) by decide)] at H; exact H
    clear H
    have H := H1
    clear H1
    obtain rfl := Option.some.inj H
    go_enter Try.func4, Try.ntmps4
    go_wp2_with (first | ((with_reducible refine gate_callee (f := 9) rfl ?_); refine goesL_ (some 5) rfl rfl Try.func9 (by kernel_rfl) rfl #[] rfl (by (try simp only [List.map_toArray, List.map_cons, List.map_nil]); first | done | rfl | (simp only [List.length_drop, List.length_take]; rfl)) ?_; (with_reducible refine (meterlaw01_awake.calls  false _ A3.out).mono ?_); rintro e w17 ⟨rfl, hb⟩; refine ⟨_, rfl, ?_⟩; have n0_ := Aside0.mk (below_step (by repeat (first | (with_reducible first | exact HB.out | apply below_alloc | apply pw_below_drewN | apply below_drew1) | exact HB.out)) hb); clear HB; have HB := n0_; clear n0_; (try clear hb); (try clear hb2); (try clear hk); (try clear hi)))
    go_ret
    exact ⟨by first | rfl | (simp [errW_none, errW_some] <;> rfl) | (simp [*, errW_none, errW_some] <;> rfl), by repeat (first | (with_reducible first | exact HB.out | apply below_alloc | apply pw_below_drewN | apply below_drew1) | exact HB.out)⟩

/-- THE ONE PURE STATEMENT of meterlaw01_SumSums: yours. -/
def meterlaw01_SumSums.Pure : Prop := ∀ (a0 : Int) (a1 : ByteArray), (Lit.int .u32 a0).wf = true → a1.size ≤ 140737488351232 → ∃ k, meterlaw01_SumSums.f k a0 a1 = some true
theorem meterlaw01_SumSums.walk (P : meterlaw01_SumSums.Pure) (a0 : Int) (a1 : ByteArray) (w : World) (w0 : (Lit.int .u32 a0).wf = true) (w1 : a1.size ≤ 140737488351232) :
    Calls Try.prog 4 #[.int .u32 a0, .string a1] w fun e w' => e = .returned (.bool true) ∧ Below w.heap.size w w' := by
  obtain ⟨k, h⟩ := P a0 a1 w0 w1
  refine (meterlaw01_SumSums.calls k a0 a1 true w h).mono ?_
  rintro e w' ⟨rfl, hd⟩
  exact ⟨rfl, hd⟩

end Go.Proofs.Ytfnpjjpgigoodaa.PSumSums
