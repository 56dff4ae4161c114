-- Written by a program of this session's (wip/gprint.py): the kit's print, with functions given by hand.
import Derived.Test.YtfnpjjpgigoodaaPSumTailx0
namespace Go.Proofs.Ytfnpjjpgigoodaa.PSumTail
open Go.RowKit Go.Proofs.YtfnpjjpgigoodaaW.PrintWords Go.Proofs.YtfnpjjpgigoodaaW.PrintLast Go.Proofs.YtfnpjjpgigoodaaW.PrintMore
attribute [local go_sem] max2_int min2_int max_two min_two max_three min_three max_four min_four   -- for this text's walks alone
set_option linter.unusedVariables false
set_option linter.unusedSimpArgs false

/-! ### sum_More: function 12 -/
def sx (c : Int) : Int := if (Go.bits .and .u32 c 1 == 1) = true then Go.bits .xor .u32 (c / 2) 2197175160 else c / 2
def sxN (c : Int) : Nat → Int
  | 0 => c
  | n + 1 => sx (sxN c n)
def tabF (k : Nat) : Int := sxN k 4
def tabArr (k : Nat) : Array Value := ((List.range 16).map fun j => Value.int .u32 (if j < k then tabF j else 0)).toArray
theorem tabArr_size (k : Nat) : (tabArr k).size = 16 := by simp [tabArr]
theorem tabArr_get (k j : Nat) (h : j < 16) : (tabArr k)[j]? = some (.int .u32 (if j < k then tabF j else 0)) := by
  simp [tabArr, h]
theorem tabArr_set (k : Nat) (h : k < 16) : (tabArr k).setIfInBounds k (.int .u32 (tabF k)) = tabArr (k + 1) := by
  apply Array.ext_getElem?
  intro j
  rw [Array.getElem?_setIfInBounds]
  by_cases e : k = j
  · subst e
    rw [if_pos rfl, if_pos (by rw [tabArr_size]; exact h), tabArr_get _ _ h, if_pos (by omega)]
  · rw [if_neg e]
    by_cases hj : j < 16
    · rw [tabArr_get _ _ hj, tabArr_get _ _ hj]
      by_cases hk : j < k
      · rw [if_pos hk, if_pos (by omega)]
      · rw [if_neg hk, if_neg (by omega)]
    · rw [Array.getElem?_eq_none (by rw [tabArr_size]; omega), Array.getElem?_eq_none (by rw [tabArr_size]; omega)]
theorem tabArr_zero : tabArr 0 = #[.int .u32 0, .int .u32 0, .int .u32 0, .int .u32 0, .int .u32 0, .int .u32 0, .int .u32 0, .int .u32 0, .int .u32 0, .int .u32 0, .int .u32 0, .int .u32 0, .int .u32 0, .int .u32 0, .int .u32 0, .int .u32 0] := rfl
theorem sx_true {c : Int} (h : (Go.bits .and .u32 c 1 == 1) = true) : sx c = Go.bits .xor .u32 (c / 2) 2197175160 := by unfold sx; rw [if_pos h]
theorem sx_false {c : Int} (h : (Go.bits .and .u32 c 1 == 1) = false) : sx c = c / 2 := by unfold sx; rw [if_neg (by simp [h])]

set_option maxHeartbeats 4000000 in
set_option maxRecDepth 100000 in
theorem made_calls (w : World) : Calls Try.prog 15 #[] w fun e w' => e = .returned (.agg (tabArr 16)) ∧ Below w.heap.size w w' := by
  go_enter Try.func15, Try.ntmps15
  go_wp2
  go_loopw [3] (fun v3 wr => ∃ k : Nat, k ≤ 16 ∧ v3 = .int .i64 k ∧ wr.heap[w.heap.size]? = some (.cells (tabArr k) 35 (0, 0)) ∧ Below w.heap.size w wr) (fun v3 _ => 16 - (intOf v3).toNat)
  case atStart => exact ⟨0, Nat.zero_le _, rfl, by rw [tabArr_zero]; exact heap_alloc_new w _, below_alloc (Below.refl _ _) _⟩
  case round =>
    obtain ⟨k, hk, rfl, hg, hb⟩ := hrel
    have HG := Lib.hid hg
    have hc0 := blk_cell hg k
    have hfr := blk_frozen hg k
    clear hg
    by_cases hlt : k < 16
    · rw [tabArr_get k k hlt, if_neg (by omega)] at hc0
      go_wp2
      go_loop [2, 8] (fun v2 v8 => ∃ j : Nat, j ≤ 4 ∧ v2 = .int .u32 (sxN k j) ∧ v8 = .int .i64 j) (fun _ v8 => 4 - (intOf v8).toNat)
      case atStart => exact ⟨0, Nat.zero_le _, rfl, rfl⟩
      case round =>
        obtain ⟨j, hj, rfl, rfl⟩ := hrel
        go_wp2
        · go_round
          case rel => exact ⟨j + 1, by omega, by rw [sxN, sx_true ‹_›], by go_num⟩
          case measure => simp [intOf]; omega
        · go_round
          case rel => exact ⟨j + 1, by omega, by rw [sxN, sx_false ‹_›], by go_num⟩
          case measure => simp [intOf]; omega
        · have e4 : j = 4 := by omega
          subst e4
          go_roundw
          case rel => exact ⟨k + 1, by omega, by go_num, by rw [blk_set HG.out]; rw [← tabArr_set k hlt]; rfl, hb.setCell (Nat.le_refl _) _⟩
          case measure => simp [intOf]; omega
    · have : k = 16 := by omega
      subst this
      go_wp2_with (first | (refine wpList_load_row rfl 35 (.tmp 0) rfl w.heap.size rfl 35 (tabArr 16) (0, 0) _ HG.out Try.underlying35 rfl (by kernel_rfl) ?_) | (refine wpList_store_mid rfl 35 (.tmp 0) (.tmp 23) rfl w.heap.size 0 (tabArr 16) rfl rfl ?_ (by kernel_rfl) (by kernel_rfl) ?_))
      · intro j hj
        rw [tabArr_size] at hj
        rw [Nat.zero_add, blk_cell HG.out, blk_frozen HG.out, tabArr_get 16 j hj]
        exact ⟨rfl, rfl⟩
      · obtain ⟨s1, s2, s3, s4⟩ := setCells_same w.heap.size (tabArr 16).toList 0 wr
        obtain ⟨cur, c1, c2, c3⟩ := setCells_row (tabArr 16).toList 0 wr (tabArr 16) HG.out (by simp)
        have c4 : cur = tabArr 16 := by
          apply Array.toList_inj.1
          rw [c3]
          simp
        rw [c4] at c1
        refine bodyPost_ret (v := .agg (tabArr 16)) ?_ rfl ⟨rfl, ⟨s1.trans hb.os, s2.trans hb.tape, s3.trans hb.output, by rw [s4]; exact hb.size, fun q hq => (setCells_far _ 0 q (by omega)).trans (hb.block q hq)⟩⟩
        exact results_cell_row (p := 0) (ty := 35) (by kernel_rfl) _ _ w.heap.size 35 (tabArr 16) (0, 0) _ rfl c1 Try.underlying35 rfl (by kernel_rfl)


/-- Half a byte goes through the register. -/
def half (c : Int) : Int := Go.bits .xor .u32 (c / 16) (tabF (Go.bits .and .u32 c 15).toNat)
def crcB (c b : Int) : Int := half (half (Go.bits .xor .u32 c (b % 4294967296)))
theorem and15 (x : Int) : 0 ≤ Go.bits .and .u32 x 15 ∧ Go.bits .and .u32 x 15 < 16 := by
  unfold Go.bits
  simp only
  rw [IntKind.wrap_u32]
  have h1 : (BitVec.ofInt IntKind.u32.bits x &&& BitVec.ofInt IntKind.u32.bits 15).toNat < 16 := by
    rw [BitVec.toNat_and]
    exact Nat.lt_of_le_of_lt Nat.and_le_right (by decide)
  omega
def crcW (c : Int) (s : ByteArray) : Nat → Int
  | 0 => c
  | i + 1 => crcB (crcW c s i) (bt s i)
theorem fill_new (w w1 : World) (hb : Below w.heap.size w w1) (t : TypeId) (cs : Array Value) (vs : List Value) (hl : cs.size = vs.length) :
    (((w1.alloc (.cells cs t)).setCells w1.heap.size 0 vs).heap[w1.heap.size]? = some (.cells vs.toArray t (0, 0))) ∧ Below w.heap.size w ((w1.alloc (.cells cs t)).setCells w1.heap.size 0 vs) := by
  obtain ⟨s1, s2, s3, s4⟩ := setCells_same w1.heap.size vs 0 (w1.alloc (.cells cs t))
  obtain ⟨cur, c1, c2, c3⟩ := setCells_row vs 0 (w1.alloc (.cells cs t)) cs (heap_alloc_new w1 _) (by omega)
  have c4 : cur = vs.toArray := by
    apply Array.toList_inj.1
    rw [c3]
    simp [hl]
  have ha := below_alloc hb (.cells cs t)
  rw [c4] at c1
  have hsz := hb.size
  exact ⟨c1, ⟨s1.trans ha.os, s2.trans ha.tape, s3.trans ha.output, by rw [s4]; exact ha.size, fun q hq => (setCells_far _ 0 q (by omega)).trans (ha.block q hq)⟩⟩
theorem tab_cell {w : World} {g : Nat} (h : w.heap[g]? = some (.cells (tabArr 16) 35 (0, 0))) (q : Nat) (hq : q < 16) : w.cell? ⟨g, q, none⟩ = some (.int .u32 (tabF q)) := by
  rw [blk_cell h, tabArr_get 16 q hq, if_pos hq]
set_option maxHeartbeats 4000000 in
set_option maxRecDepth 100000 in
theorem more_calls (c : Int) (s : ByteArray) (w : World) (hs : s.size ≤ 9223372036854775807) : Calls Try.prog 12 #[.int .u32 c, .string s] w fun e w' => e = .returned (.int .u32 (Go.bits .xor .u32 IntKind.u32.max (crcW (Go.bits .xor .u32 IntKind.u32.max c) s s.size))) ∧ Below w.heap.size w w' := by
  go_enter Try.func12, Try.ntmps12
  go_wp2_with (first | (go_at_call 15; refine (made_calls _).mono ?_; rintro e w1 ⟨rfl, hb1⟩) | (refine wpList_store_mid rfl 35 (.tmp 5) (.tmp 8) rfl w1.heap.size 0 (tabArr 16) rfl rfl ?c1 (by kernel_rfl) (by kernel_rfl) ?_; (case c1 => intro j hj; rw [tabArr_size] at hj; rw [Nat.zero_add, blk_cell (heap_alloc_new w1 _), blk_frozen (heap_alloc_new w1 _)]; exact ⟨by simp; omega, rfl⟩); obtain ⟨hg, hb⟩ := fill_new w w1 hb1 35 #[.int .u32 0, .int .u32 0, .int .u32 0, .int .u32 0, .int .u32 0, .int .u32 0, .int .u32 0, .int .u32 0, .int .u32 0, .int .u32 0, .int .u32 0, .int .u32 0, .int .u32 0, .int .u32 0, .int .u32 0, .int .u32 0] (tabArr 16).toList rfl; generalize hwt : (World.setCells _ _ _ _) = wt at *; clear hwt; have HG := Lib.hid hg; clear hg))
  obtain ⟨c2, hc2⟩ : ∃ c2, c2 = Go.bits .xor .u32 IntKind.u32.max c := ⟨_, rfl⟩
  rw [← hc2]
  have HC := Lib.hid hc2
  clear hc2
  go_loop [6, 13] (fun v6 v13 => ∃ i : Nat, i ≤ s.size ∧ v6 = .int .u32 (crcW c2 s i) ∧ v13 = .int .i64 i) (fun _ v13 => s.size - (intOf v13).toNat)
  case atStart => exact ⟨0, Nat.zero_le _, rfl, rfl⟩
  case round =>
    obtain ⟨i, hi, rfl, rfl⟩ := hrel
    by_cases hlt : i < s.size
    · have b1 := and15 (Go.bits .xor .u32 (crcW c2 s i) ((s[i].toNat : Int) % 4294967296))
      have b2 := and15 (half (Go.bits .xor .u32 (crcW c2 s i) ((s[i].toNat : Int) % 4294967296)))
      have d1 : wt.cell? ⟨w1.heap.size, (Go.bits .and .u32 (Go.bits .xor .u32 (crcW c2 s i) ((s[i].toNat : Int) % 4294967296)) 15).toNat, none⟩ = some (.int .u32 (tabF (Go.bits .and .u32 (Go.bits .xor .u32 (crcW c2 s i) ((s[i].toNat : Int) % 4294967296)) 15).toNat)) := tab_cell HG.out _ (by omega)
      have d2 : wt.cell? ⟨w1.heap.size, (Go.bits .and .u32 (half (Go.bits .xor .u32 (crcW c2 s i) ((s[i].toNat : Int) % 4294967296))) 15).toNat, none⟩ = some (.int .u32 (tabF (Go.bits .and .u32 (half (Go.bits .xor .u32 (crcW c2 s i) ((s[i].toNat : Int) % 4294967296))) 15).toNat)) := tab_cell HG.out _ (by omega)
      simp only [half] at b2 d2
      have hbt : bt s i = (s[i].toNat : Int) := (bt_at s i (by simpa using hlt)).symm
      have HBT := Lib.hid hbt
      clear hbt
      go_wp2
      go_round
      case rel => exact ⟨i + 1, by omega, by rw [crcW, HBT.out]; rfl, by go_num⟩
      case measure => simp [intOf]; omega
    · have e : i = s.size := by omega
      subst e
      go_wp2
      go_ret
      exact ⟨by rw [HC.out]; rfl, hb⟩

def sum_More.f (a0 : Int) (a1 : ByteArray) : Option (Int) := if a1.size ≤ 9223372036854775807 then some (Go.bits .xor .u32 IntKind.u32.max (crcW (Go.bits .xor .u32 IntKind.u32.max a0) a1 a1.size)) else none
theorem sum_More.calls (a0 : Int) (a1 : ByteArray) (r : Int) (w : World) (h : sum_More.f a0 a1 = some r) :
    Calls Try.prog 12 #[.int .u32 a0, .string a1] w fun e w' => e = .returned (.int .u32 r) ∧ Below w.heap.size w w' := by
  unfold sum_More.f at h
  by_cases hs : a1.size ≤ 9223372036854775807
  · rw [if_pos hs] at h
    obtain rfl := Option.some.inj h
    exact more_calls a0 a1 w hs
  · rw [if_neg hs] at h
    exact absurd h (by simp)

/-! ### sum_Crc: function 10 -/
def sum_Crc.f (a0 : ByteArray) : Option (Int) := (sum_More.f 0 a0).bind fun t101 => (some t101)
set_option maxHeartbeats 8000000 in
set_option maxRecDepth 100000 in
theorem sum_Crc.calls (a0 : ByteArray) (r : Int) (w : World) (h : sum_Crc.f a0 = some r) :
    Calls Try.prog 10 #[.string a0] w fun e w' => e = .returned (.int .u32 r) ∧ Below w.heap.size w w' := by
  have HB := Aside0.mk (Below.refl w.heap.size w)
  have H : ((sum_More.f 0 a0).bind fun t101 => (some t101)) = some r := h
  clear h
  replace H := Option.bind_eq_some_iff.mp H
  obtain ⟨t101, A20, H⟩ := H
  replace H : (some t101) = some r := H
  have A2 := Aside0.mk A20
  clear A20
  obtain rfl := Option.some.inj H
  go_enter Try.func10, Try.ntmps10
  go_wp2_with (first | ((with_reducible refine gate_callee (f := 12) rfl ?_); refine goesL_ (some 4) rfl rfl Try.func12 (by kernel_rfl) rfl #[.int .u32 0, .string a0] rfl (by (try simp only [List.map_toArray, List.map_cons, List.map_nil]); first | done | rfl | (simp only [List.length_drop, List.length_take]; rfl)) ?_; (with_reducible refine (sum_More.calls 0 a0 t101 _ A2.out).mono ?_); rintro e w3 ⟨rfl, hb⟩; refine ⟨_, rfl, ?_⟩; have n0_ := Aside0.mk (below_step (by repeat (first | (with_reducible first | exact HB.out | apply below_alloc | apply pw_below_drewN | apply below_drew1) | exact HB.out)) hb); clear HB; have HB := n0_; clear n0_; (try clear hb); (try clear hb2); (try clear hk); (try clear hi)))
  go_ret
  exact ⟨by first | rfl | (simp [errW_none, errW_some] <;> rfl) | (simp [*, errW_none, errW_some] <;> rfl), by repeat (first | (with_reducible first | exact HB.out | apply below_alloc | apply pw_below_drewN | apply below_drew1) | exact HB.out)⟩

/-! ### meterlaw01_awake: function 9 -/
def meterlaw01_awake.f  : Option (Bool) := (sum_Crc.f (⟨#[49, 50, 51, 52, 53, 54, 55, 56, 57]⟩ : ByteArray)).bind fun t102 => (some (t102 == 3808858755))
set_option maxHeartbeats 8000000 in
set_option maxRecDepth 100000 in
theorem meterlaw01_awake.calls  (r : Bool) (w : World) (h : meterlaw01_awake.f  = some r) :
    Calls Try.prog 9 #[] w fun e w' => e = .returned (.bool r) ∧ Below w.heap.size w w' := by
  have HB := Aside0.mk (Below.refl w.heap.size w)
  have H : ((sum_Crc.f (⟨#[49, 50, 51, 52, 53, 54, 55, 56, 57]⟩ : ByteArray)).bind fun t102 => (some (t102 == 3808858755))) = some r := h
  clear h
  replace H := Option.bind_eq_some_iff.mp H
  obtain ⟨t102, A10, H⟩ := H
  replace H : (some (t102 == 3808858755)) = some r := H
  have A1 := Aside0.mk A10
  clear A10
  obtain rfl := Option.some.inj H
  go_enter Try.func9, Try.ntmps9
  go_wp2_with (first | ((with_reducible refine gate_callee (f := 10) rfl ?_); refine goesL_ (some 1) rfl rfl Try.func10 (by kernel_rfl) rfl #[.string (⟨#[49, 50, 51, 52, 53, 54, 55, 56, 57]⟩ : ByteArray)] rfl (by (try simp only [List.map_toArray, List.map_cons, List.map_nil]); first | done | rfl | (simp only [List.length_drop, List.length_take]; rfl)) ?_; (with_reducible refine (sum_Crc.calls (⟨#[49, 50, 51, 52, 53, 54, 55, 56, 57]⟩ : ByteArray) t102 _ A1.out).mono ?_); rintro e w2 ⟨rfl, hb⟩; refine ⟨_, rfl, ?_⟩; have n0_ := Aside0.mk (below_step (by repeat (first | (with_reducible first | exact HB.out | apply below_alloc | apply pw_below_drewN | apply below_drew1) | exact HB.out)) hb); clear HB; have HB := n0_; clear n0_; (try clear hb); (try clear hb2); (try clear hk); (try clear hi)))
  go_ret
  exact ⟨by first | rfl | (simp [errW_none, errW_some] <;> rfl) | (simp [*, errW_none, errW_some] <;> rfl), by repeat (first | (with_reducible first | exact HB.out | apply below_alloc | apply pw_below_drewN | apply below_drew1) | exact HB.out)⟩

/-! ### meterlaw01_tailed: function 14 -/
def meterlaw01_tailed.f (a0 : ByteArray) : Option (ByteArray) := (sum_Crc.f a0).bind fun t103 => ((some (([(t103) % 256, (t103 / 256) % 256, (t103 / 65536) % 256, (t103 / 16777216) % 256] : List Int) : List Int)).bind fun y104 => (if a0.size + (strOfNums y104).size ≤ 9223372036854775807 then (some (a0 ++ (strOfNums y104))) else (none)))
set_option maxHeartbeats 8000000 in
set_option maxRecDepth 100000 in
theorem meterlaw01_tailed.calls (a0 : ByteArray) (r : ByteArray) (w : World) (h : meterlaw01_tailed.f a0 = some r) :
    Calls Try.prog 14 #[.string a0] w fun e w' => e = .returned (.string r) ∧ Below w.heap.size w w' := by
  have HB := Aside0.mk (Below.refl w.heap.size w)
  have H : ((sum_Crc.f a0).bind fun t103 => ((some (([(t103) % 256, (t103 / 256) % 256, (t103 / 65536) % 256, (t103 / 16777216) % 256] : List Int) : List Int)).bind fun y104 => (if a0.size + (strOfNums y104).size ≤ 9223372036854775807 then (some (a0 ++ (strOfNums y104))) else (none)))) = some r := h
  clear h
  replace H := Option.bind_eq_some_iff.mp H
  obtain ⟨t103, A20, H⟩ := H
  replace H : ((some (([(t103) % 256, (t103 / 256) % 256, (t103 / 65536) % 256, (t103 / 16777216) % 256] : List Int) : List Int)).bind fun y104 => (if a0.size + (strOfNums y104).size ≤ 9223372036854775807 then (some (a0 ++ (strOfNums y104))) else (none))) = some r := H
  have A2 := Aside0.mk A20
  clear A20
  obtain ⟨y104, hy104⟩ : ∃ y_ : List Int, y_ = (([(t103) % 256, (t103 / 256) % 256, (t103 / 65536) % 256, (t103 / 16777216) % 256] : List Int)) := ⟨_, rfl⟩
  replace H : (if a0.size + (strOfNums y104).size ≤ 9223372036854775807 then (some (a0 ++ (strOfNums y104))) else (none)) = some r := by first | (rw [hy104]; with_reducible exact H) | (have H2_ := (Option.bind_some _ _).symm.trans H; rw [hy104]; with_reducible exact H2_) | (have H2_ := (Option.bind_some _ _).symm.trans H; with_reducible exact H2_) | with_reducible exact H | (rw [hy104]; exact H) | exact H
  have Ny104 := Aside0.mk hy104
  clear hy104
  by_cases c3 : a0.size + (strOfNums y104).size ≤ 9223372036854775807
  · rw [if_pos c3] at H
    have c3b0 := eq_true c3
    have c3b1 : decide (a0.size + (strOfNums y104).size ≤ 9223372036854775807) = true := decide_eq_true c3
    try have c3b2 : (9223372036854775807 < a0.size + (strOfNums y104).size) = False := eq_false (Nat.not_lt.2 c3)
    obtain rfl := Option.some.inj H
    go_enter Try.func14, Try.ntmps14
    go_wp2_with (first | ((with_reducible refine gate_callee (f := 10) rfl ?_); refine goesL_ (some 5) rfl rfl Try.func10 (by kernel_rfl) rfl #[.string a0] rfl (by (try simp only [List.map_toArray, List.map_cons, List.map_nil]); first | done | rfl | (simp only [List.length_drop, List.length_take]; rfl)) ?_; (with_reducible refine (sum_Crc.calls a0 t103 _ A2.out).mono ?_); rintro e w4 ⟨rfl, hb⟩; refine ⟨_, rfl, ?_⟩; have n0_ := Aside0.mk (below_step (by repeat (first | (with_reducible first | exact HB.out | apply below_alloc | apply pw_below_drewN | apply below_drew1) | exact HB.out)) hb); clear HB; have HB := n0_; clear n0_; (try clear hb); (try clear hb2); (try clear hk); (try clear hi)) | ((with_reducible refine gate_dst (N := 18) rfl ?_); refine Kd.R_lit (Kd.int .u8) _ 5 ?hg (N := 18) ?hd (xs := ([(t103) % 256, (t103 / 256) % 256, (t103 / 65536) % 256, (t103 / 16777216) % 256] : List Int)) (inner := [.int .u8 ((t103) % 256), .int .u8 ((t103 / 256) % 256), .int .u8 ((t103 / 65536) % 256), .int .u8 ((t103 / 16777216) % 256)]) (ok := fun _ => True) (okp := fun _ => True) ?hr ?hp (fun _ hk => hk) trivial (Below.refl _ _) (Nat.le_refl _) (by simp) ?_; (case hd => rfl); (case hg => rfl); (case hr => first | (go_simp; done) | (go_simp; rfl)); (case hp => exact (Reps.one (show Kd.M (Kd.int .u8) _ _ _ ((t103) % 256) [.int .u8 ((t103) % 256)] from rfl) (Reps.one (show Kd.M (Kd.int .u8) _ _ _ ((t103 / 256) % 256) [.int .u8 ((t103 / 256) % 256)] from rfl) (Reps.one (show Kd.M (Kd.int .u8) _ _ _ ((t103 / 65536) % 256) [.int .u8 ((t103 / 65536) % 256)] from rfl) (Reps.one (show Kd.M (Kd.int .u8) _ _ _ ((t103 / 16777216) % 256) [.int .u8 ((t103 / 16777216) % 256)] from rfl) (Reps.none _ _)))))); intro v105 w5 ho6 hb hg_ hnew_; clear hg_ hnew_; (first | rw [← Ny104.out] at ho6 | (simp only [Int.reduceToNat] at ho6; rw [← Ny104.out] at ho6)); have n0_ := Aside0.mk (Kd.R_lower ho6 (below_size (by repeat (first | (with_reducible first | exact HB.out | apply below_alloc | apply pw_below_drewN | apply below_drew1) | exact HB.out)))); have n1_ := Aside0.mk (below_step (by repeat (first | (with_reducible first | exact HB.out | apply below_alloc | apply pw_below_drewN | apply below_drew1) | exact HB.out)) hb); clear HB; have HO106 := n0_; have HB := n1_; clear n0_ n1_; clear hb ho6; have hcv7 := own_string (P := Try.prog) Try.underlying27 Try.underlying5 Try.underlying9 (Kd.own_of_R HO106.out)))
    go_ret
    exact ⟨by first | rfl | (simp [errW_none, errW_some] <;> rfl) | (simp [*, errW_none, errW_some] <;> rfl), by repeat (first | (with_reducible first | exact HB.out | apply below_alloc | apply pw_below_drewN | apply below_drew1) | exact HB.out)⟩
  · rw [if_neg c3] at H
    exact absurd H (by simp)

/-! ### meterlaw01_SumTail: function 7 -/
def meterlaw01_SumTail.j0 : Nat → ByteArray → ByteArray → Bool → Option (Bool)
  | 0, _, _, _ => none
  | k + 1, x0, x1, x14 => if x14 = true then (some true) else ((meterlaw01_tailed.f x0).bind fun t108 => ((sum_Crc.f t108).bind fun t109 => ((meterlaw01_tailed.f x1).bind fun t110 => ((sum_Crc.f t110).bind fun t111 => (some (t109 == t111))))))
def meterlaw01_SumTail.f (k : Nat) (a0 : ByteArray) (a1 : ByteArray) : Option (Bool) := (meterlaw01_awake.f).bind fun t107 => (if t107 = true then (if (a0.size : Int) > 30000 then (meterlaw01_SumTail.j0 k a0 a1 true) else (meterlaw01_SumTail.j0 k a0 a1 (decide ((a1.size : Int) > 30000)))) else (some false))
theorem meterlaw01_SumTail.mono_l : ∀ k, (∀ y0 y1 y2, LeO (meterlaw01_SumTail.j0 k y0 y1 y2) (meterlaw01_SumTail.j0 (k + 1) y0 y1 y2))
  | 0 => fun _ _ _ r h => by simp [meterlaw01_SumTail.j0] at h
  | k + 1 => by
    have ih0 := meterlaw01_SumTail.mono_l k
    · intro y0 y1 y2
      unfold meterlaw01_SumTail.j0
      repeat' first
      | (with_reducible exact ih0 _ _ _)
      | (with_reducible exact LeO.refl _)
      | (with_reducible exact LeO.none _)
      | (with_reducible refine LeO.ite ?_ ?_)
      | (with_reducible refine LeO.bind ?_ (fun _ => ?_))
      | exact ih0 _ _ _
      | exact LeO.none _
      | refine LeO.ite ?_ ?_
      | refine LeO.bind ?_ (fun _ => ?_)
theorem meterlaw01_SumTail.mono : ∀ a0 a1 k, LeO (meterlaw01_SumTail.f k a0 a1) (meterlaw01_SumTail.f (k + 1) a0 a1) := by
  intro a0 a1 k
  have ih0 := meterlaw01_SumTail.mono_l k
  unfold meterlaw01_SumTail.f
  repeat' first
      | (with_reducible exact ih0 _ _ _)
      | (with_reducible exact LeO.refl _)
      | (with_reducible exact LeO.none _)
      | (with_reducible refine LeO.ite ?_ ?_)
      | (with_reducible refine LeO.bind ?_ (fun _ => ?_))
      | exact ih0 _ _ _
      | exact LeO.none _
      | refine LeO.ite ?_ ?_
      | refine LeO.bind ?_ (fun _ => ?_)
set_option maxHeartbeats 8000000 in
set_option maxRecDepth 100000 in
theorem meterlaw01_SumTail.calls (k : Nat) (a0 : ByteArray) (a1 : ByteArray) (r : Bool) (w : World) (h : meterlaw01_SumTail.f k a0 a1 = some r) :
    Calls Try.prog 7 #[.string a0, .string a1] w fun e w' => e = .returned (.bool r) ∧ Below w.heap.size w w' := by
  have HB := Aside0.mk (Below.refl w.heap.size w)
  have H : ((meterlaw01_awake.f).bind fun t107 => (if t107 = true then (if (a0.size : Int) > 30000 then (meterlaw01_SumTail.j0 k a0 a1 true) else (meterlaw01_SumTail.j0 k a0 a1 (decide ((a1.size : Int) > 30000)))) else (some false))) = some r := h
  clear h
  replace H := Option.bind_eq_some_iff.mp H
  obtain ⟨t107, A30, H⟩ := H
  replace H : (if t107 = true then (if (a0.size : Int) > 30000 then (meterlaw01_SumTail.j0 k a0 a1 true) else (meterlaw01_SumTail.j0 k a0 a1 (decide ((a1.size : Int) > 30000)))) else (some false)) = some r := H
  have A3 := Aside0.mk A30
  clear A30
  by_cases c4 : t107 = true
  · subst c4
    have H1 : (if (a0.size : Int) > 30000 then (meterlaw01_SumTail.j0 k a0 a1 true) else (meterlaw01_SumTail.j0 k a0 a1 (decide ((a1.size : Int) > 30000)))) = some r := by rw [if_pos rfl] at H; exact H
    clear H
    have H := H1
    clear H1
    have HC5 := Aside0.mk H
    clear H
    go_enter Try.func7, Try.ntmps7
    go_upto_region 3 with (first | ((with_reducible refine gate_callee (f := 9) rfl ?_); refine goesL_ (some 5) rfl rfl Try.func9 (by kernel_rfl) rfl #[] rfl (by (try simp only [List.map_toArray, List.map_cons, List.map_nil]); first | done | rfl | (simp only [List.length_drop, List.length_take]; rfl)) ?_; (with_reducible refine (meterlaw01_awake.calls  true _ A3.out).mono ?_); rintro e w6 ⟨rfl, hb⟩; refine ⟨_, rfl, ?_⟩; have n0_ := Aside0.mk (below_step (by repeat (first | (with_reducible first | exact HB.out | apply below_alloc | apply pw_below_drewN | apply below_drew1) | exact HB.out)) hb); clear HB; have HB := n0_; clear n0_; (try clear hb); (try clear hb2); (try clear hk); (try clear hi)))
    (try simp only [Act.put, List.setIfInBounds_toArray, List.set_cons_zero, List.set_cons_succ])
    go_cut [14] (fun v14 wc => ∃ (kq : Nat) (x14_4 : Bool), v14 = .bool x14_4 ∧ Aside0 (meterlaw01_SumTail.j0 kq a0 a1 x14_4 = some r) ∧ Aside0 (kq ≤ k) ∧ Aside0 (Below w.heap.size w wc))
    case first =>
      have H := HC5.out
      clear HC5
      by_cases c7 : (a0.size : Int) > 30000
      · rw [if_pos c7] at H
        have c7b0 : decide (30000 < (a0.size : Int)) = true := decide_eq_true c7
        have c7b1 : decide (30000 < a0.size) = true := decide_eq_true (by omega)
        clear c7
        (first | rw [c7b0] | (simp only [i64_w, i32_w]; rw [c7b0]) | skip)
        have H' := Aside0.mk H
        clear H
        go_wp2
        go_meet
        case rel => exact ⟨_, (true), (by first | rfl | (simp; done) | (simp [*]; done)), H', ⟨by first | omega | exact Nat.le_refl _⟩, ⟨by repeat (first | (with_reducible first | exact HB.out | apply below_alloc | apply pw_below_drewN | apply below_drew1) | exact HB.out)⟩⟩
      · rw [if_neg c7] at H
        have c7b0 : decide (30000 < (a0.size : Int)) = false := decide_eq_false c7
        have c7b1 : decide (30000 < a0.size) = false := decide_eq_false (by omega)
        clear c7
        (first | rw [c7b0] | (simp only [i64_w, i32_w]; rw [c7b0]) | skip)
        have H' := Aside0.mk H
        clear H
        go_wp2
        go_meet
        case rel => exact ⟨_, (decide ((a1.size : Int) > 30000)), (by first | rfl | (simp; done) | (simp [*]; done)), H', ⟨by first | omega | exact Nat.le_refl _⟩, ⟨by repeat (first | (with_reducible first | exact HB.out | apply below_alloc | apply pw_below_drewN | apply below_drew1) | exact HB.out)⟩⟩
    case rest =>
      clear HC5
      try clear p2
      try clear c4
      try clear c7
      try clear c7b0
      try clear c7b1
      obtain ⟨kq, x14_4, rfl, HA, HJ4, HB⟩ := hcut
      cases kq with
      | zero => exact absurd HA.out (by simp [meterlaw01_SumTail.j0])
      | succ kj4 =>
        have H := HA.out
        clear HA
        simp only [meterlaw01_SumTail.j0] at H
        by_cases c8 : x14_4 = true
        · subst c8
          have H1 : (some true) = some r := by rw [if_pos rfl] at H; exact H
          clear H
          have H := H1
          clear H1
          obtain rfl := Option.some.inj H
          go_wp2
          go_ret
          exact ⟨by first | rfl | (simp [errW_none, errW_some] <;> rfl) | (simp [*, errW_none, errW_some] <;> rfl), by repeat (first | (with_reducible first | exact HB.out | apply below_alloc | apply pw_below_drewN | apply below_drew1) | exact HB.out)⟩
        · replace c8 := Bool.eq_false_iff.mpr c8
          subst c8
          have H1 : ((meterlaw01_tailed.f a0).bind fun t108 => ((sum_Crc.f t108).bind fun t109 => ((meterlaw01_tailed.f a1).bind fun t110 => ((sum_Crc.f t110).bind fun t111 => (some (t109 == t111)))))) = some r := by rw [if_neg (show ¬ (false = true) by decide)] at H; exact H
          clear H
          have H := H1
          clear H1
          replace H := Option.bind_eq_some_iff.mp H
          obtain ⟨t108, A90, H⟩ := H
          replace H : ((sum_Crc.f t108).bind fun t109 => ((meterlaw01_tailed.f a1).bind fun t110 => ((sum_Crc.f t110).bind fun t111 => (some (t109 == t111))))) = some r := H
          have A9 := Aside0.mk A90
          clear A90
          replace H := Option.bind_eq_some_iff.mp H
          obtain ⟨t109, A100, H⟩ := H
          replace H : ((meterlaw01_tailed.f a1).bind fun t110 => ((sum_Crc.f t110).bind fun t111 => (some (t109 == t111)))) = some r := H
          have A10 := Aside0.mk A100
          clear A100
          replace H := Option.bind_eq_some_iff.mp H
          obtain ⟨t110, A110, H⟩ := H
          replace H : ((sum_Crc.f t110).bind fun t111 => (some (t109 == t111))) = some r := H
          have A11 := Aside0.mk A110
          clear A110
          replace H := Option.bind_eq_some_iff.mp H
          obtain ⟨t111, A120, H⟩ := H
          replace H : (some (t109 == t111)) = some r := H
          have A12 := Aside0.mk A120
          clear A120
          obtain rfl := Option.some.inj H
          go_wp2_with (first | ((with_reducible refine gate_callee (f := 14) rfl ?_); refine goesL_ (some 16) rfl rfl Try.func14 (by kernel_rfl) rfl #[.string a0] rfl (by (try simp only [List.map_toArray, List.map_cons, List.map_nil]); first | done | rfl | (simp only [List.length_drop, List.length_take]; rfl)) ?_; (with_reducible refine (meterlaw01_tailed.calls a0 t108 _ A9.out).mono ?_); rintro e w13 ⟨rfl, hb⟩; refine ⟨_, rfl, ?_⟩; have n0_ := Aside0.mk (below_step (by repeat (first | (with_reducible first | exact HB.out | apply below_alloc | apply pw_below_drewN | apply below_drew1) | exact HB.out)) hb); clear HB; have HB := n0_; clear n0_; (try clear hb); (try clear hb2); (try clear hk); (try clear hi)) | ((with_reducible refine gate_callee (f := 10) rfl ?_); refine goesL_ (some 17) rfl rfl Try.func10 (by kernel_rfl) rfl #[.string t108] rfl (by (try simp only [List.map_toArray, List.map_cons, List.map_nil]); first | done | rfl | (simp only [List.length_drop, List.length_take]; rfl)) ?_; (with_reducible refine (sum_Crc.calls t108 t109 _ A10.out).mono ?_); rintro e w14 ⟨rfl, hb⟩; refine ⟨_, rfl, ?_⟩; have n0_ := Aside0.mk (below_step (by repeat (first | (with_reducible first | exact HB.out | apply below_alloc | apply pw_below_drewN | apply below_drew1) | exact HB.out)) hb); clear HB; have HB := n0_; clear n0_; (try clear hb); (try clear hb2); (try clear hk); (try clear hi)) | ((with_reducible refine gate_callee (f := 14) rfl ?_); refine goesL_ (some 19) rfl rfl Try.func14 (by kernel_rfl) rfl #[.string a1] rfl (by (try simp only [List.map_toArray, List.map_cons, List.map_nil]); first | done | rfl | (simp only [List.length_drop, List.length_take]; rfl)) ?_; (with_reducible refine (meterlaw01_tailed.calls a1 t110 _ A11.out).mono ?_); rintro e w15 ⟨rfl, hb⟩; refine ⟨_, rfl, ?_⟩; have n0_ := Aside0.mk (below_step (by repeat (first | (with_reducible first | exact HB.out | apply below_alloc | apply pw_below_drewN | apply below_drew1) | exact HB.out)) hb); clear HB; have HB := n0_; clear n0_; (try clear hb); (try clear hb2); (try clear hk); (try clear hi)) | ((with_reducible refine gate_callee (f := 10) rfl ?_); refine goesL_ (some 20) rfl rfl Try.func10 (by kernel_rfl) rfl #[.string t110] rfl (by (try simp only [List.map_toArray, List.map_cons, List.map_nil]); first | done | rfl | (simp only [List.length_drop, List.length_take]; rfl)) ?_; (with_reducible refine (sum_Crc.calls t110 t111 _ A12.out).mono ?_); rintro e w16 ⟨rfl, hb⟩; refine ⟨_, rfl, ?_⟩; have n0_ := Aside0.mk (below_step (by repeat (first | (with_reducible first | exact HB.out | apply below_alloc | apply pw_below_drewN | apply below_drew1) | exact HB.out)) hb); clear HB; have HB := n0_; clear n0_; (try clear hb); (try clear hb2); (try clear hk); (try clear hi)))
          go_ret
          exact ⟨by first | rfl | (simp [errW_none, errW_some] <;> rfl) | (simp [*, errW_none, errW_some] <;> rfl), by repeat (first | (with_reducible first | exact HB.out | apply below_alloc | apply pw_below_drewN | apply below_drew1) | exact HB.out)⟩
  · replace c4 := Bool.eq_false_iff.mpr c4
    subst c4
    have H1 : (some false) = some r := by rw [if_neg (show ¬ (false = true) by decide)] at H; exact H
    clear H
    have H := H1
    clear H1
    obtain rfl := Option.some.inj H
    go_enter Try.func7, Try.ntmps7
    go_wp2_with (first | ((with_reducible refine gate_callee (f := 9) rfl ?_); refine goesL_ (some 5) rfl rfl Try.func9 (by kernel_rfl) rfl #[] rfl (by (try simp only [List.map_toArray, List.map_cons, List.map_nil]); first | done | rfl | (simp only [List.length_drop, List.length_take]; rfl)) ?_; (with_reducible refine (meterlaw01_awake.calls  false _ A3.out).mono ?_); rintro e w17 ⟨rfl, hb⟩; refine ⟨_, rfl, ?_⟩; have n0_ := Aside0.mk (below_step (by repeat (first | (with_reducible first | exact HB.out | apply below_alloc | apply pw_below_drewN | apply below_drew1) | exact HB.out)) hb); clear HB; have HB := n0_; clear n0_; (try clear hb); (try clear hb2); (try clear hk); (try clear hi)))
    go_ret
    exact ⟨by first | rfl | (simp [errW_none, errW_some] <;> rfl) | (simp [*, errW_none, errW_some] <;> rfl), by repeat (first | (with_reducible first | exact HB.out | apply below_alloc | apply pw_below_drewN | apply below_drew1) | exact HB.out)⟩

/-- THE ONE PURE STATEMENT of meterlaw01_SumTail: yours. -/
def meterlaw01_SumTail.Pure : Prop := ∀ (a0 : ByteArray) (a1 : ByteArray), a0.size ≤ 140737488351232 → a1.size ≤ 140737488351232 → ∃ k, meterlaw01_SumTail.f k a0 a1 = some true
theorem meterlaw01_SumTail.walk (P : meterlaw01_SumTail.Pure) (a0 : ByteArray) (a1 : ByteArray) (w : World) (w0 : a0.size ≤ 140737488351232) (w1 : a1.size ≤ 140737488351232) :
    Calls Try.prog 7 #[.string a0, .string a1] w fun e w' => e = .returned (.bool true) ∧ Below w.heap.size w w' := by
  obtain ⟨k, h⟩ := P a0 a1 w0 w1
  refine (meterlaw01_SumTail.calls k a0 a1 true w h).mono ?_
  rintro e w' ⟨rfl, hd⟩
  exact ⟨rfl, hd⟩

end Go.Proofs.Ytfnpjjpgigoodaa.PSumTail
