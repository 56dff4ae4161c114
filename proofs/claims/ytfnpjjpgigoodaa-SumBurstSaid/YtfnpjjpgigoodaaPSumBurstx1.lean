-- Written by a program of this session's (wip/gprint.py): the kit's print, with functions given by hand.
import Derived.Test.YtfnpjjpgigoodaaPSumBurstx0
namespace Go.Proofs.Ytfnpjjpgigoodaa.PSumBurst
open Go.RowKit Go.Proofs.YtfnpjjpgigoodaaW.PrintWords Go.Proofs.YtfnpjjpgigoodaaW.PrintLast Go.Proofs.YtfnpjjpgigoodaaW.PrintMore
attribute [local go_sem] max2_int min2_int max_two min_two max_three min_three max_four min_four   -- for this text's walks alone
set_option linter.unusedVariables false
set_option linter.unusedSimpArgs false

/-! ### sum_More: function 12 -/
def sx (c : Int) : Int := if (Go.bits .and .u32 c 1 == 1) = true then Go.bits .xor .u32 (c / 2) 2197175160 else c / 2
def sxN (c : Int) : Nat → Int
  | 0 => c
  | n + 1 => sx (sxN c n)
def tabF (k : Nat) : Int := sxN k 4
def tabArr (k : Nat) : Array Value := ((List.range 16).map fun j => Value.int .u32 (if j < k then tabF j else 0)).toArray
theorem tabArr_size (k : Nat) : (tabArr k).size = 16 := by simp [tabArr]
theorem tabArr_get (k j : Nat) (h : j < 16) : (tabArr k)[j]? = some (.int .u32 (if j < k then tabF j else 0)) := by
  simp [tabArr, h]
theorem tabArr_set (k : Nat) (h : k < 16) : (tabArr k).setIfInBounds k (.int .u32 (tabF k)) = tabArr (k + 1) := by
  apply Array.ext_getElem?
  intro j
  rw [Array.getElem?_setIfInBounds]
  by_cases e : k = j
  · subst e
    rw [if_pos rfl, if_pos (by rw [tabArr_size]; exact h), tabArr_get _ _ h, if_pos (by omega)]
  · rw [if_neg e]
    by_cases hj : j < 16
    · rw [tabArr_get _ _ hj, tabArr_get _ _ hj]
      by_cases hk : j < k
      · rw [if_pos hk, if_pos (by omega)]
      · rw [if_neg hk, if_neg (by omega)]
    · rw [Array.getElem?_eq_none (by rw [tabArr_size]; omega), Array.getElem?_eq_none (by rw [tabArr_size]; omega)]
theorem tabArr_zero : tabArr 0 = #[.int .u32 0, .int .u32 0, .int .u32 0, .int .u32 0, .int .u32 0, .int .u32 0, .int .u32 0, .int .u32 0, .int .u32 0, .int .u32 0, .int .u32 0, .int .u32 0, .int .u32 0, .int .u32 0, .int .u32 0, .int .u32 0] := rfl
theorem sx_true {c : Int} (h : (Go.bits .and .u32 c 1 == 1) = true) : sx c = Go.bits .xor .u32 (c / 2) 2197175160 := by unfold sx; rw [if_pos h]
theorem sx_false {c : Int} (h : (Go.bits .and .u32 c 1 == 1) = false) : sx c = c / 2 := by unfold sx; rw [if_neg (by simp [h])]

set_option maxHeartbeats 4000000 in
set_option maxRecDepth 100000 in
theorem made_calls (w : World) : Calls Try.prog 15 #[] w fun e w' => e = .returned (.agg (tabArr 16)) ∧ Below w.heap.size w w' := by
  go_enter Try.func15, Try.ntmps15
  go_wp2
  go_loopw [3] (fun v3 wr => ∃ k : Nat, k ≤ 16 ∧ v3 = .int .i64 k ∧ wr.heap[w.heap.size]? = some (.cells (tabArr k) 35 (0, 0)) ∧ Below w.heap.size w wr) (fun v3 _ => 16 - (intOf v3).toNat)
  case atStart => exact ⟨0, Nat.zero_le _, rfl, by rw [tabArr_zero]; exact heap_alloc_new w _, below_alloc (Below.refl _ _) _⟩
  case round =>
    obtain ⟨k, hk, rfl, hg, hb⟩ := hrel
    have HG := Lib.hid hg
    have hc0 := blk_cell hg k
    have hfr := blk_frozen hg k
    clear hg
    by_cases hlt : k < 16
    · rw [tabArr_get k k hlt, if_neg (by omega)] at hc0
      go_wp2
      go_loop [2, 8] (fun v2 v8 => ∃ j : Nat, j ≤ 4 ∧ v2 = .int .u32 (sxN k j) ∧ v8 = .int .i64 j) (fun _ v8 => 4 - (intOf v8).toNat)
      case atStart => exact ⟨0, Nat.zero_le _, rfl, rfl⟩
      case round =>
        obtain ⟨j, hj, rfl, rfl⟩ := hrel
        go_wp2
        · go_round
          case rel => exact ⟨j + 1, by omega, by rw [sxN, sx_true ‹_›], by go_num⟩
          case measure => simp [intOf]; omega
        · go_round
          case rel => exact ⟨j + 1, by omega, by rw [sxN, sx_false ‹_›], by go_num⟩
          case measure => simp [intOf]; omega
        · have e4 : j = 4 := by omega
          subst e4
          go_roundw
          case rel => exact ⟨k + 1, by omega, by go_num, by rw [blk_set HG.out]; rw [← tabArr_set k hlt]; rfl, hb.setCell (Nat.le_refl _) _⟩
          case measure => simp [intOf]; omega
    · have : k = 16 := by omega
      subst this
      go_wp2_with (first | (refine wpList_load_row rfl 35 (.tmp 0) rfl w.heap.size rfl 35 (tabArr 16) (0, 0) _ HG.out Try.underlying35 rfl (by kernel_rfl) ?_) | (refine wpList_store_mid rfl 35 (.tmp 0) (.tmp 23) rfl w.heap.size 0 (tabArr 16) rfl rfl ?_ (by kernel_rfl) (by kernel_rfl) ?_))
      · intro j hj
        rw [tabArr_size] at hj
        rw [Nat.zero_add, blk_cell HG.out, blk_frozen HG.out, tabArr_get 16 j hj]
        exact ⟨rfl, rfl⟩
      · obtain ⟨s1, s2, s3, s4⟩ := setCells_same w.heap.size (tabArr 16).toList 0 wr
        obtain ⟨cur, c1, c2, c3⟩ := setCells_row (tabArr 16).toList 0 wr (tabArr 16) HG.out (by simp)
        have c4 : cur = tabArr 16 := by
          apply Array.toList_inj.1
          rw [c3]
          simp
        rw [c4] at c1
        refine bodyPost_ret (v := .agg (tabArr 16)) ?_ rfl ⟨rfl, ⟨s1.trans hb.os, s2.trans hb.tape, s3.trans hb.output, by rw [s4]; exact hb.size, fun q hq => (setCells_far _ 0 q (by omega)).trans (hb.block q hq)⟩⟩
        exact results_cell_row (p := 0) (ty := 35) (by kernel_rfl) _ _ w.heap.size 35 (tabArr 16) (0, 0) _ rfl c1 Try.underlying35 rfl (by kernel_rfl)


/-- Half a byte goes through the register. -/
def half (c : Int) : Int := Go.bits .xor .u32 (c / 16) (tabF (Go.bits .and .u32 c 15).toNat)
def crcB (c b : Int) : Int := half (half (Go.bits .xor .u32 c (b % 4294967296)))
theorem and15 (x : Int) : 0 ≤ Go.bits .and .u32 x 15 ∧ Go.bits .and .u32 x 15 < 16 := by
  unfold Go.bits
  simp only
  rw [IntKind.wrap_u32]
  have h1 : (BitVec.ofInt IntKind.u32.bits x &&& BitVec.ofInt IntKind.u32.bits 15).toNat < 16 := by
    rw [BitVec.toNat_and]
    exact Nat.lt_of_le_of_lt Nat.and_le_right (by decide)
  omega
def crcW (c : Int) (s : ByteArray) : Nat → Int
  | 0 => c
  | i + 1 => crcB (crcW c s i) (bt s i)
theorem fill_new (w w1 : World) (hb : Below w.heap.size w w1) (t : TypeId) (cs : Array Value) (vs : List Value) (hl : cs.size = vs.length) :
    (((w1.alloc (.cells cs t)).setCells w1.heap.size 0 vs).heap[w1.heap.size]? = some (.cells vs.toArray t (0, 0))) ∧ Below w.heap.size w ((w1.alloc (.cells cs t)).setCells w1.heap.size 0 vs) := by
  obtain ⟨s1, s2, s3, s4⟩ := setCells_same w1.heap.size vs 0 (w1.alloc (.cells cs t))
  obtain ⟨cur, c1, c2, c3⟩ := setCells_row vs 0 (w1.alloc (.cells cs t)) cs (heap_alloc_new w1 _) (by omega)
  have c4 : cur = vs.toArray := by
    apply Array.toList_inj.1
    rw [c3]
    simp [hl]
  have ha := below_alloc hb (.cells cs t)
  rw [c4] at c1
  have hsz := hb.size
  exact ⟨c1, ⟨s1.trans ha.os, s2.trans ha.tape, s3.trans ha.output, by rw [s4]; exact ha.size, fun q hq => (setCells_far _ 0 q (by omega)).trans (ha.block q hq)⟩⟩
theorem tab_cell {w : World} {g : Nat} (h : w.heap[g]? = some (.cells (tabArr 16) 35 (0, 0))) (q : Nat) (hq : q < 16) : w.cell? ⟨g, q, none⟩ = some (.int .u32 (tabF q)) := by
  rw [blk_cell h, tabArr_get 16 q hq, if_pos hq]
set_option maxHeartbeats 4000000 in
set_option maxRecDepth 100000 in
theorem more_calls (c : Int) (s : ByteArray) (w : World) (hs : s.size ≤ 9223372036854775807) : Calls Try.prog 12 #[.int .u32 c, .string s] w fun e w' => e = .returned (.int .u32 (Go.bits .xor .u32 IntKind.u32.max (crcW (Go.bits .xor .u32 IntKind.u32.max c) s s.size))) ∧ Below w.heap.size w w' := by
  go_enter Try.func12, Try.ntmps12
  go_wp2_with (first | (go_at_call 15; refine (made_calls _).mono ?_; rintro e w1 ⟨rfl, hb1⟩) | (refine wpList_store_mid rfl 35 (.tmp 5) (.tmp 8) rfl w1.heap.size 0 (tabArr 16) rfl rfl ?c1 (by kernel_rfl) (by kernel_rfl) ?_; (case c1 => intro j hj; rw [tabArr_size] at hj; rw [Nat.zero_add, blk_cell (heap_alloc_new w1 _), blk_frozen (heap_alloc_new w1 _)]; exact ⟨by simp; omega, rfl⟩); obtain ⟨hg, hb⟩ := fill_new w w1 hb1 35 #[.int .u32 0, .int .u32 0, .int .u32 0, .int .u32 0, .int .u32 0, .int .u32 0, .int .u32 0, .int .u32 0, .int .u32 0, .int .u32 0, .int .u32 0, .int .u32 0, .int .u32 0, .int .u32 0, .int .u32 0, .int .u32 0] (tabArr 16).toList rfl; generalize hwt : (World.setCells _ _ _ _) = wt at *; clear hwt; have HG := Lib.hid hg; clear hg))
  obtain ⟨c2, hc2⟩ : ∃ c2, c2 = Go.bits .xor .u32 IntKind.u32.max c := ⟨_, rfl⟩
  rw [← hc2]
  have HC := Lib.hid hc2
  clear hc2
  go_loop [6, 13] (fun v6 v13 => ∃ i : Nat, i ≤ s.size ∧ v6 = .int .u32 (crcW c2 s i) ∧ v13 = .int .i64 i) (fun _ v13 => s.size - (intOf v13).toNat)
  case atStart => exact ⟨0, Nat.zero_le _, rfl, rfl⟩
  case round =>
    obtain ⟨i, hi, rfl, rfl⟩ := hrel
    by_cases hlt : i < s.size
    · have b1 := and15 (Go.bits .xor .u32 (crcW c2 s i) ((s[i].toNat : Int) % 4294967296))
      have b2 := and15 (half (Go.bits .xor .u32 (crcW c2 s i) ((s[i].toNat : Int) % 4294967296)))
      have d1 : wt.cell? ⟨w1.heap.size, (Go.bits .and .u32 (Go.bits .xor .u32 (crcW c2 s i) ((s[i].toNat : Int) % 4294967296)) 15).toNat, none⟩ = some (.int .u32 (tabF (Go.bits .and .u32 (Go.bits .xor .u32 (crcW c2 s i) ((s[i].toNat : Int) % 4294967296)) 15).toNat)) := tab_cell HG.out _ (by omega)
      have d2 : wt.cell? ⟨w1.heap.size, (Go.bits .and .u32 (half (Go.bits .xor .u32 (crcW c2 s i) ((s[i].toNat : Int) % 4294967296))) 15).toNat, none⟩ = some (.int .u32 (tabF (Go.bits .and .u32 (half (Go.bits .xor .u32 (crcW c2 s i) ((s[i].toNat : Int) % 4294967296))) 15).toNat)) := tab_cell HG.out _ (by omega)
      simp only [half] at b2 d2
      have hbt : bt s i = (s[i].toNat : Int) := (bt_at s i (by simpa using hlt)).symm
      have HBT := Lib.hid hbt
      clear hbt
      go_wp2
      go_round
      case rel => exact ⟨i + 1, by omega, by rw [crcW, HBT.out]; rfl, by go_num⟩
      case measure => simp [intOf]; omega
    · have e : i = s.size := by omega
      subst e
      go_wp2
      go_ret
      exact ⟨by rw [HC.out]; rfl, hb⟩

def sum_More.f (a0 : Int) (a1 : ByteArray) : Option (Int) := if a1.size ≤ 9223372036854775807 then some (Go.bits .xor .u32 IntKind.u32.max (crcW (Go.bits .xor .u32 IntKind.u32.max a0) a1 a1.size)) else none
theorem sum_More.calls (a0 : Int) (a1 : ByteArray) (r : Int) (w : World) (h : sum_More.f a0 a1 = some r) :
    Calls Try.prog 12 #[.int .u32 a0, .string a1] w fun e w' => e = .returned (.int .u32 r) ∧ Below w.heap.size w w' := by
  unfold sum_More.f at h
  by_cases hs : a1.size ≤ 9223372036854775807
  · rw [if_pos hs] at h
    obtain rfl := Option.some.inj h
    exact more_calls a0 a1 w hs
  · rw [if_neg hs] at h
    exact absurd h (by simp)

/-! ### sum_Crc: function 10 -/
def sum_Crc.f (a0 : ByteArray) : Option (Int) := (sum_More.f 0 a0).bind fun t101 => (some t101)
set_option maxHeartbeats 8000000 in
set_option maxRecDepth 100000 in
theorem sum_Crc.calls (a0 : ByteArray) (r : Int) (w : World) (h : sum_Crc.f a0 = some r) :
    Calls Try.prog 10 #[.string a0] w fun e w' => e = .returned (.int .u32 r) ∧ Below w.heap.size w w' := by
  have HB := Aside0.mk (Below.refl w.heap.size w)
  have H : ((sum_More.f 0 a0).bind fun t101 => (some t101)) = some r := h
  clear h
  replace H := Option.bind_eq_some_iff.mp H
  obtain ⟨t101, A20, H⟩ := H
  replace H : (some t101) = some r := H
  have A2 := Aside0.mk A20
  clear A20
  obtain rfl := Option.some.inj H
  go_enter Try.func10, Try.ntmps10
  go_wp2_with (first | ((with_reducible refine gate_callee (f := 12) rfl ?_); refine goesL_ (some 4) rfl rfl Try.func12 (by kernel_rfl) rfl #[.int .u32 0, .string a0] rfl (by (try simp only [List.map_toArray, List.map_cons, List.map_nil]); first | done | rfl | (simp only [List.length_drop, List.length_take]; rfl)) ?_; (with_reducible refine (sum_More.calls 0 a0 t101 _ A2.out).mono ?_); rintro e w3 ⟨rfl, hb⟩; refine ⟨_, rfl, ?_⟩; have n0_ := Aside0.mk (below_step (by repeat (first | (with_reducible first | exact HB.out | apply below_alloc | apply pw_below_drewN | apply below_drew1) | exact HB.out)) hb); clear HB; have HB := n0_; clear n0_; (try clear hb); (try clear hb2); (try clear hk); (try clear hi)))
  go_ret
  exact ⟨by first | rfl | (simp [errW_none, errW_some] <;> rfl) | (simp [*, errW_none, errW_some] <;> rfl), by repeat (first | (with_reducible first | exact HB.out | apply below_alloc | apply pw_below_drewN | apply below_drew1) | exact HB.out)⟩

/-! ### meterlaw01_awake: function 9 -/
def meterlaw01_awake.f  : Option (Bool) := (sum_Crc.f (⟨#[49, 50, 51, 52, 53, 54, 55, 56, 57]⟩ : ByteArray)).bind fun t102 => (some (t102 == 3808858755))
set_option maxHeartbeats 8000000 in
set_option maxRecDepth 100000 in
theorem meterlaw01_awake.calls  (r : Bool) (w : World) (h : meterlaw01_awake.f  = some r) :
    Calls Try.prog 9 #[] w fun e w' => e = .returned (.bool r) ∧ Below w.heap.size w w' := by
  have HB := Aside0.mk (Below.refl w.heap.size w)
  have H : ((sum_Crc.f (⟨#[49, 50, 51, 52, 53, 54, 55, 56, 57]⟩ : ByteArray)).bind fun t102 => (some (t102 == 3808858755))) = some r := h
  clear h
  replace H := Option.bind_eq_some_iff.mp H
  obtain ⟨t102, A10, H⟩ := H
  replace H : (some (t102 == 3808858755)) = some r := H
  have A1 := Aside0.mk A10
  clear A10
  obtain rfl := Option.some.inj H
  go_enter Try.func9, Try.ntmps9
  go_wp2_with (first | ((with_reducible refine gate_callee (f := 10) rfl ?_); refine goesL_ (some 1) rfl rfl Try.func10 (by kernel_rfl) rfl #[.string (⟨#[49, 50, 51, 52, 53, 54, 55, 56, 57]⟩ : ByteArray)] rfl (by (try simp only [List.map_toArray, List.map_cons, List.map_nil]); first | done | rfl | (simp only [List.length_drop, List.length_take]; rfl)) ?_; (with_reducible refine (sum_Crc.calls (⟨#[49, 50, 51, 52, 53, 54, 55, 56, 57]⟩ : ByteArray) t102 _ A1.out).mono ?_); rintro e w2 ⟨rfl, hb⟩; refine ⟨_, rfl, ?_⟩; have n0_ := Aside0.mk (below_step (by repeat (first | (with_reducible first | exact HB.out | apply below_alloc | apply pw_below_drewN | apply below_drew1) | exact HB.out)) hb); clear HB; have HB := n0_; clear n0_; (try clear hb); (try clear hb2); (try clear hk); (try clear hi)))
  go_ret
  exact ⟨by first | rfl | (simp [errW_none, errW_some] <;> rfl) | (simp [*, errW_none, errW_some] <;> rfl), by repeat (first | (with_reducible first | exact HB.out | apply below_alloc | apply pw_below_drewN | apply below_drew1) | exact HB.out)⟩

-- NOT PRINTED: function 5 (meterlaw01_SumBurst)

end Go.Proofs.Ytfnpjjpgigoodaa.PSumBurst
