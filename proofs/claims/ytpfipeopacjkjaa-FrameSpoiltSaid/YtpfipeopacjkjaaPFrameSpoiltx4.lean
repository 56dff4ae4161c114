-- printed by hand: the walk of the law meterlaw03.FrameSpoilt
import Derived.Test.YtpfipeopacjkjaaPFrameSpoiltx3
import Derived.Test.YtpfipeopacjkjaaPureFrameSpoilt
import Derived.Lib.ConvBytes
import Derived.Lib.Hide
import Derived.Laws.BytesString
import Derived.Outline
import Derived.Deep.MidRow
namespace Go.Proofs.Ytpfipeopacjkjaa.PFrameSpoilt
open Go.RowKit Go.Proofs.YtpfipeopacjkjaaW.PrintWords Go.Proofs.YtpfipeopacjkjaaW.PrintLast Go.Proofs.YtpfipeopacjkjaaW.PrintMore
open Go.Proofs.Ytpfipeopacjkjaa.Pure (flips turnedN flipAt)
set_option linter.unusedVariables false
set_option linter.unusedSimpArgs false
def cellsB (l : List UInt8) : Array Value := (l.map fun b => Value.int .u8 b.toNat).toArray
def blkB (l : List UInt8) (zs : Array Value) : Obj := .cells (cellsB l ++ zs) 5 ((cellsB l ++ zs).size, (cellsB l ++ zs).size + 1)
theorem blkB_cell {w : World} {g : Nat} {l : List UInt8} {zs : Array Value} (h : w.heap[g]? = some (blkB l zs)) (j : Nat) (hj : j < l.length) : w.cell? ⟨g, j, none⟩ = some (.int .u8 (l.getD j 0).toNat) := by
  rw [cell_of_row w g j _ _ _ h, Array.getElem?_append_left (by simp [cellsB]; exact hj)]
  simp [cellsB, hj]
theorem blkB_frozen {w : World} {g : Nat} {l : List UInt8} {zs : Array Value} (h : w.heap[g]? = some (blkB l zs)) (j : Nat) (hj : j < l.length) : w.frozen? ⟨g, j, none⟩ = false := by
  simp only [World.frozen?, h, blkB]
  have : (cellsB l).size = l.length := by simp [cellsB]
  have h3 : (cellsB l ++ zs).size = (cellsB l).size + zs.size := Array.size_append
  have h2 : decide ((cellsB l ++ zs).size ≤ j) = false := decide_eq_false (by omega)
  rw [h2]; rfl
theorem blkB_set {w : World} {g : Nat} {l : List UInt8} {zs : Array Value} (h : w.heap[g]? = some (blkB l zs)) (j : Nat) (hj : j < l.length) (b : UInt8) : (w.setCell ⟨g, j, none⟩ (.int .u8 b.toNat)).heap[g]? = some (blkB (l.set j b) zs) := by
  have e : (cellsB l ++ zs).setIfInBounds j (.int .u8 b.toNat) = cellsB (l.set j b) ++ zs := by
    apply Array.toList_inj.1
    simp [cellsB, List.map_set, List.set_append, hj]
  have s : (cellsB (l.set j b) ++ zs).size = (cellsB l ++ zs).size := by rw [← e, Array.size_setIfInBounds]
  unfold blkB at *
  rw [s, ← e]
  simp [World.setCell, h, Array.getElem?_modify]
theorem xor_val (v : UInt8) (m : Nat) (hm : m < 8) : Go.bits .xor .u8 (v.toNat : Int) ((2 : Int) ^ m % 256) = ((v ^^^ UInt8.ofNat (2 ^ m)).toNat : Int) := by
  have h : ((2 : Int) ^ m % 256) = ((2 ^ m : Nat) : Int) := by
    have : m = 0 ∨ m = 1 ∨ m = 2 ∨ m = 3 ∨ m = 4 ∨ m = 5 ∨ m = 6 ∨ m = 7 := by omega
    rcases this with rfl | rfl | rfl | rfl | rfl | rfl | rfl | rfl <;> rfl
  rw [h, Pure.xor_pow v m hm]
  have h2 : 2 ^ m < 256 := Nat.lt_of_lt_of_le (Nat.pow_lt_pow_right (by decide) hm) (by decide)
  have eb : ∀ n : Nat, BitVec.ofInt 8 (n : Int) = BitVec.ofNat 8 n := fun n => by simp
  have h3 : Go.bits .xor .u8 (v.toNat : Int) ((2 ^ m : Nat) : Int) = IntKind.u8.wrap (((BitVec.ofInt 8 (v.toNat : Int)) ^^^ (BitVec.ofInt 8 ((2 ^ m : Nat) : Int))).toNat : Int) := rfl
  rw [h3, eb, eb, BitVec.toNat_xor, BitVec.toNat_ofNat, BitVec.toNat_ofNat, Nat.mod_eq_of_lt v.toNat_lt, Nat.mod_eq_of_lt h2, IntKind.wrap_u8]
  have h4 : v.toNat ^^^ 2 ^ m < 2 ^ 8 := Nat.xor_lt_two_pow v.toNat_lt h2
  omega
theorem blkB_new (w : World) (s : ByteArray) : some (Obj.cells (Lib.bytesCells w 5 s) 5 ((Lib.bytesCells w 5 s).size, (Lib.bytesCells w 5 s).size + 1)) = some (blkB s.data.toList (Array.replicate (grownCap w s.size 0 5 - s.size) (.int .u8 0))) := by
  have e : Lib.bytesCells w 5 s = cellsB s.data.toList ++ Array.replicate (grownCap w s.size 0 5 - s.size) (.int .u8 0) := by
    unfold Lib.bytesCells cellsB
    congr 1
    apply Array.toList_inj.1
    simp
  unfold blkB
  rw [e]
theorem push_all (l : List UInt8) : ∀ r : ByteArray, (l.map fun b => (b.toNat : Int)).foldl (fun r n => r.push (UInt8.ofNat n.toNat)) r = ⟨r.data ++ l.toArray⟩ := by
  induction l with
  | nil => intro r; simp
  | cons b l ih =>
    intro r
    rw [List.map_cons, List.foldl_cons, ih]
    have : UInt8.ofNat ((b.toNat : Int)).toNat = b := by simp
    rw [this]
    show (⟨(r.data.push b) ++ l.toArray⟩ : ByteArray) = ⟨r.data ++ (b :: l).toArray⟩
    congr 1
    apply Array.toList_inj.1
    simp
theorem conv_back (w : World) (g : Nat) (l : List UInt8) (zs : Array Value) (n cap : Nat) (h : w.heap[g]? = some (blkB l zs)) (hn : l.length = n) : (convert 25 9 (.slice (some ⟨g, 0, none⟩) n cap)).run Try.prog w = .ok (.string ⟨l.toArray⟩) w := by
  subst hn
  have hl : (loadCells ⟨g, 0, none⟩ l.length).run Try.prog w = .ok ((l.map fun b => (b.toNat : Int)).map (Value.int .u8)).toArray w := by
    have := run_loadCells_list (P := Try.prog) w ⟨g, 0, none⟩ ((l.map fun b => (b.toNat : Int)).map (Value.int .u8)) (fun j v hv => by
      rw [Addr.add_mid, Nat.zero_add]
      have hj : j < l.length := by
        have := (List.getElem?_eq_some_iff.1 hv).1
        simpa using this
      rw [blkB_cell h j hj]
      rw [List.getElem?_map, List.getElem?_map, List.getElem?_eq_getElem hj] at hv
      rw [List.getD_eq_getElem?_getD, List.getElem?_eq_getElem hj]
      exact hv)
    rw [List.length_map, List.length_map] at this
    exact this
  rw [run_convert_bytes_string w 25 9 5 _ _ _ Try.underlying25 Try.underlying5 Try.underlying9, run_bytesToString w ⟨g, 0, none⟩ l.length cap _ hl, push_all]
  rw [show ByteArray.empty.data = #[] from rfl]
  simp
theorem num1 (x : Int) (p k : Nat) (hx : 0 ≤ x) (hp : x % 200000 = p) (hk : k ≤ 32) : wrap64 (wrap64 (x.tmod 200000) + (k : Int)) = ((p + k : Nat) : Int) := by
  rw [Int.tmod_eq_emod_of_nonneg hx, hp]
  have : p < 200000 := by omega
  clear hp hx
  unfold wrap64
  omega
theorem num2 (q : Nat) (h : q < 900000) : wrap64 ((q : Int) / 8) = ((q / 8 : Nat) : Int) := by unfold wrap64; omega
theorem num3 (q : Nat) : (q : Int) % 8 = ((q % 8 : Nat) : Int) := by omega
theorem num4 (x : Int) (p : Nat) (hp : x % 200000 = p) : p < 200000 := by omega
theorem bitT (pat k : Nat) (h : pat < 4294967296) : Go.bits .and .u32 ((pat : Int) / 2 ^ k) 1 = if pat.testBit k then 1 else 0 := by
  have e : (pat : Int) / 2 ^ k = ((BitVec.ofNat 32 (pat / 2 ^ k)).toNat : Int) := by
    rw [BitVec.toNat_ofNat, Nat.mod_eq_of_lt (Nat.lt_of_le_of_lt (Nat.div_le_self _ _) h)]
    simp
  have e2 : (1 : Int) = ((1#32).toNat : Int) := rfl
  rw [e, e2, Pure.andI, Pure.and1, BitVec.toNat_ofNat, Nat.mod_eq_of_lt (Nat.lt_of_le_of_lt (Nat.div_le_self _ _) h), Nat.testBit_eq_decide_div_mod_eq]
  by_cases h2 : pat / 2 ^ k % 2 = 1
  · simp [h2]
  · have : pat / 2 ^ k % 2 = 0 := by omega
    simp [this]
theorem below_bytes (w : World) (s : ByteArray) : Below w.heap.size w (Lib.bytesWorld w 5 s) :=
  ⟨rfl, rfl, rfl, by rw [Lib.bytesWorld_size]; omega, fun k hk => Lib.bytesWorld_at_old w 5 s k hk⟩
set_option maxHeartbeats 4000000 in
set_option maxRecDepth 100000 in
theorem FrameSpoilt_calls (K : Nat) (a fb : ByteArray) (x2 x3 : Int) (w : World) (ha : a.size ≤ 16384) (p pat : Nat) (hx : 0 ≤ x2) (hp : x2 % 200000 = p) (hq : x3 = pat) (hpat : pat < 4294967296)
    (haw : meterlaw03_awake.f K = some true) (h1 : frame_Put.f K a = some (fb, 0)) (sv : ByteArray) (gv : Int) (h2 : frame_Whole.f K ⟨(flips p pat 32 fb.data.toList).toArray⟩ = some (sv, gv))
    (h3 : turnedN p pat fb.data.toList.length 32 = true → gv ≠ 0) (h4 : turnedN p pat fb.data.toList.length 32 = false → gv = 0 ∧ sv = a) :
    Calls Try.prog 6 #[.string a, .int .u32 x2, .int .u32 x3] w fun e w' => e = .returned (.bool true) ∧ Below w.heap.size w w' := by
  have A1 := Aside0.mk haw
  have A2 := Aside0.mk h1
  have A3 := Aside0.mk h2
  have A4 := Aside0.mk h3
  have A5 := Aside0.mk h4
  have HX := Lib.hid hx
  clear haw h1 h2 h3 h4 hx
  have hconv := fun w' : World => Lib.run_convert_string_bytes (P := Try.prog) w' 9 25 5 fb Try.underlying9 Try.underlying25 Try.underlying5
  have g1 : decide ((a.size : Int) > 16384) = false := decide_eq_false (by omega)
  go_enter Try.func6, Try.ntmps6
  go_wp2_with (first
    | (go_at_call 13; with_reducible refine (meterlaw03_awake.calls K true _ A1.out).mono ?_; rintro e1 w1 ⟨rfl, hb1⟩)
    | (go_at_call 9; with_reducible refine (frame_Put.calls K a fb 0 _ A2.out).mono ?_; rintro e3 w2 ⟨rfl, hb2⟩))
  have hsz : w.heap.size ≤ w2.heap.size := by
    have := hb1.size; have := hb2.size; omega
  have hbw : Below w.heap.size w (Lib.bytesWorld w2 5 fb) := by
    refine below_step (below_step (Below.refl _ _) hb1) hb2 |>.trans ?_
    exact (below_bytes w2 fb).mono hsz
  go_loopw [10, 11] (fun v11 v12 wr => ∃ k : Nat, k ≤ 32 ∧ v11 = .bool (turnedN p pat fb.data.toList.length k) ∧ v12 = .int .i64 k ∧ wr.heap[w2.heap.size]? = some (blkB (flips p pat k fb.data.toList) (Array.replicate (grownCap w2 fb.size 0 5 - fb.size) (.int .u8 0))) ∧ Below w.heap.size w wr) (fun _ v12 _ => 32 - (intOf v12).toNat)
  case atStart => exact ⟨0, Nat.zero_le _, rfl, rfl, by rw [Lib.bytesWorld_at_new, flips, blkB_new], hbw⟩
  case round =>
    obtain ⟨k, hk, rfl, rfl, hg, hbk⟩ := hrel
    obtain ⟨q, hqq⟩ : ∃ q, q = p + k := ⟨_, rfl⟩
    obtain ⟨j, hj⟩ : ∃ j, j = q / 8 := ⟨_, rfl⟩
    obtain ⟨m, hm⟩ : ∃ m, m = q % 8 := ⟨_, rfl⟩
    have e1 : wrap64 (wrap64 (x2.tmod 200000) + (k : Int)) = (q : Int) := by rw [hqq]; exact num1 x2 p k HX.out hp hk
    have hq9 : q < 900000 := by have := num4 x2 p hp; omega
    have e2 : wrap64 ((q : Int) / 8) = (j : Int) := by rw [hj]; exact num2 q hq9
    have e3 : (q : Int) % 8 = (m : Int) := by rw [hm]; exact num3 q
    have HQ := Lib.hid hqq
    have HJ := Lib.hid hj
    have HM := Lib.hid hm
    have HP := Lib.hid hp
    have HG := Lib.hid hg
    clear hg hqq hj hm hp hq9
    have HL : (flips p pat k fb.data.toList).length = fb.size := by rw [Pure.flips_len]; simp
    by_cases hlt : k < 32
    · cases hbit : pat.testBit k with
      | true =>
        have e4 : bits .and .u32 ((pat : Int) / 2 ^ k) 1 = 1 := by rw [bitT pat k hpat, hbit]; rfl
        have HB := Lib.hid hbit
        clear hbit
        by_cases hja : j < fb.size
        · obtain ⟨v, hv⟩ : ∃ v : UInt8, v = (flips p pat k fb.data.toList).getD j 0 := ⟨_, rfl⟩
          have hc := blkB_cell HG.out j (by rw [HL]; exact hja)
          have hf := blkB_frozen HG.out j (by rw [HL]; exact hja)
          rw [← hv] at hc
          have HV := Lib.hid hv
          clear hv
          go_wp2
          go_roundw
          case rel =>
            have es : pat.testBit k = true ∧ (p + k) / 8 < fb.data.toList.length := ⟨HB.out, by rw [← HQ.out, ← HJ.out]; simpa using hja⟩
            refine ⟨k + 1, by omega, by rw [turnedN, if_pos es], by go_num, ?_, hbk.setCell hsz _⟩
            rw [flips, if_pos es, flipAt, ← HQ.out, ← HJ.out, ← HM.out, ← HV.out, xor_val v m (by rw [HM.out]; omega)]
            exact blkB_set HG.out j (by rw [HL]; exact hja) _
          case measure => simp [intOf]; omega
        · have es : ¬ (pat.testBit k = true ∧ (p + k) / 8 < fb.data.toList.length) := by
            rw [← HQ.out, ← HJ.out]
            intro h
            exact hja (by have := h.2; simpa using this)
          have hja' : ((j : Int) < (fb.size : Int)) = False := by simp; omega
          go_wp2
          exact ⟨⟨k + 1, by omega, by rw [turnedN, if_neg es], by go_num, by rw [flips, if_neg (by rw [Pure.flips_len] at *; exact es)]; exact HG.out, hbk⟩, by simp [intOf]; omega⟩
      | false =>
        have e4 : bits .and .u32 ((pat : Int) / 2 ^ k) 1 = 0 := by rw [bitT pat k hpat, hbit]; rfl
        have HB := Lib.hid hbit
        clear hbit
        have es : ¬ (pat.testBit k = true ∧ (p + k) / 8 < fb.data.toList.length) := fun h => by rw [HB.out] at h; exact absurd h.1 (by simp)
        go_wp2
        exact ⟨⟨k + 1, by omega, by rw [turnedN, if_neg es], by go_num, by rw [flips, if_neg es]; exact HG.out, hbk⟩, by simp [intOf]; omega⟩
    · have hk32 : k = 32 := by omega
      subst hk32
      have hcv := conv_back wr w2.heap.size _ _ fb.size (grownCap w2 fb.size 0 5) HG.out HL
      cases hT : turnedN p pat fb.data.toList.length 32 with
      | true =>
        have hne := A4.out hT
        clear hT
        go_wp2_with (go_at_call 10; with_reducible refine (frame_Whole.calls K _ sv gv _ A3.out).mono ?_; rintro e6 w6 ⟨rfl, hb6⟩)
        go_ret
        exact ⟨by simp [hne], below_step hbk hb6⟩
      | false =>
        obtain ⟨z1, z2⟩ := A5.out hT
        subst z1 z2
        clear hT
        go_wp2_with (go_at_call 10; with_reducible refine (frame_Whole.calls K _ _ _ _ A3.out).mono ?_; rintro e6 w6 ⟨rfl, hb6⟩)
        go_ret
        exact ⟨by simp, below_step hbk hb6⟩
set_option maxHeartbeats 4000000 in
set_option maxRecDepth 100000 in
theorem FrameSpoilt_long (K : Nat) (a : ByteArray) (x2 x3 : Int) (w : World) (h : 16384 < a.size) (haw : meterlaw03_awake.f K = some true) :
    Calls Try.prog 6 #[.string a, .int .u32 x2, .int .u32 x3] w fun e w' => e = .returned (.bool true) ∧ Below w.heap.size w w' := by
  have A1 := Aside0.mk haw
  clear haw
  have g1 : decide ((a.size : Int) > 16384) = true := decide_eq_true (by omega)
  go_enter Try.func6, Try.ntmps6
  go_wp2_with (go_at_call 13; with_reducible refine (meterlaw03_awake.calls K true _ A1.out).mono ?_; rintro e1 w1 ⟨rfl, hb1⟩)
  go_ret
  exact ⟨rfl, hb1⟩
theorem FrameSpoilt_walk (a : ByteArray) (x2 x3 : Int) (w : World) (y2 : (Lit.int .u32 x2).wf = true) (y3 : (Lit.int .u32 x3).wf = true) :
    Calls Try.prog 6 #[.string a, .int .u32 x2, .int .u32 x3] w fun e w' => e = .returned (.bool true) ∧ Below w.heap.size w w' := by
  have haw := Pure.awake_f 10 (by omega)
  by_cases h : 16384 < a.size
  · exact FrameSpoilt_long 10 a x2 x3 w h haw
  have b2 : 0 ≤ x2 ∧ x2 ≤ 4294967295 := by simpa [Lit.wf, IntKind.min, IntKind.max, IntKind.signed, IntKind.bits] using y2
  have b3 : 0 ≤ x3 ∧ x3 ≤ 4294967295 := by simpa [Lit.wf, IntKind.min, IntKind.max, IntKind.signed, IntKind.bits] using y3
  obtain ⟨p, hp⟩ := Int.eq_ofNat_of_zero_le (show 0 ≤ x2 % 200000 by omega)
  obtain ⟨pat, hpat⟩ := Int.eq_ofNat_of_zero_le b3.1
  obtain ⟨fb, h1, sv, gv, h2, h3, h4⟩ := Pure.spoilt a p pat (by omega)
  exact FrameSpoilt_calls 10 a fb x2 x3 w (by omega) p pat b2.1 hp hpat (by omega) haw h1 sv gv h2 h3 h4
end Go.Proofs.Ytpfipeopacjkjaa.PFrameSpoilt
