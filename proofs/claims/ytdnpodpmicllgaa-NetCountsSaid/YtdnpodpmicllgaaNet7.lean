/- Packets on their way (package net): packets side by side; contracts as the laws call them; awake; which lists are great. -/
import Derived.Test.YtdnpodpmicllgaaNet6
import Derived.Test.YtdnpodpmicllgaaWEqStruct
namespace Go.Proofs.Ytdnpodpmicllgaa.PNetPlays
open Go.RowKit Go.Proofs.YtdnpodpmicllgaaW.PrintWords Go.Proofs.YtdnpodpmicllgaaW.PrintLast Go.Proofs.YtdnpodpmicllgaaW.PrintMore
open Go.Proofs.YtdnpodpmicllgaaO Go.Proofs.YtdnpodpmicllgaaC
attribute [local go_sem] max2_int min2_int max_two min_two max_three min_three max_four min_four
set_option linter.unusedVariables false
set_option linter.unusedSimpArgs false
abbrev ACT := S40
theorem tl_loop (b : ByteArray) : ∀ (m i : Nat) (r : List UInt8), i + m = b.size → ByteArray.toList.loop b i r = r.reverse ++ b.data.toList.drop i := by
  intro m
  induction m with
  | zero =>
    intro i r hi
    rw [ByteArray.toList.loop, if_neg (by omega), List.drop_eq_nil_of_le (by simpa using (show b.data.size ≤ i from by have : b.data.size = b.size := rfl; omega)), List.append_nil]
  | succ m ih =>
    intro i r hi
    have hs : b.data.size = b.size := rfl
    rw [ByteArray.toList.loop, if_pos (by omega), ih (i + 1) _ (by omega), List.reverse_cons, List.append_assoc]
    congr 1
    have hl : i < b.data.toList.length := by simp; omega
    rw [List.drop_eq_getElem_cons hl, List.singleton_append]
    congr 1
    have : b.get! i = b.data[i]! := rfl
    rw [this]
    simp
    exact getElem!_pos b.data i (by omega)
theorem tl_data (b : ByteArray) : b.toList = b.data.toList := by
  have := tl_loop b b.size 0 [] (by omega)
  simpa [ByteArray.toList] using this
theorem tl_inj {a b : ByteArray} (h : a.toList = b.toList) : a = b := by
  rw [tl_data, tl_data] at h
  exact ByteArray.ext (Array.toList_inj.1 h)
def samePk (x y : Pk) : Bool := x.f0 == y.f0 && (x.f1 == y.f1 && x.f2.toList == y.f2.toList)
theorem eqAPk (d : Nat) (w : World) (x0 y0 : Int) (x1 y1 : Int) (x2 y2 : ByteArray) : (Op.equalIn (d + 2) 25 (.agg #[.int .i64 x0, .int .i64 x1, .string x2]) (.agg #[.int .i64 y0, .int .i64 y1, .string y2])).run Try.prog w = .ok (x0 == y0 && (x1 == y1 && (x2.toList == y2.toList))) w := by
  refine eqA_of Try.underlying25 (by kernel_rfl) ?_
  refine eqf_cons (by rfl) (by go_simp; rfl) (by go_simp; rfl) (by go_simp) ?_
  refine eqf_cons (by rfl) (by go_simp; rfl) (by go_simp; rfl) (by go_simp) ?_
  exact eqf_last (by rfl) (by go_simp; rfl) (by go_simp; rfl) (by go_simp)
theorem eqlPk (x0 y0 : Int) (x1 y1 : Int) (x2 y2 : ByteArray) (w : World) : (binOp .eql 25 (.agg #[.int .i64 x0, .int .i64 x1, .string x2]) (.agg #[.int .i64 y0, .int .i64 y1, .string y2])).run Try.prog w = .ok (.bool (samePk ⟨x0, x1, x2⟩ ⟨y0, y1, y2⟩)) w := by
  rw [run_eql_struct, eqAPk (10000 - 2) w]
  rfl
theorem neqPk (x0 y0 : Int) (x1 y1 : Int) (x2 y2 : ByteArray) (w : World) : (binOp .neq 25 (.agg #[.int .i64 x0, .int .i64 x1, .string x2]) (.agg #[.int .i64 y0, .int .i64 y1, .string y2])).run Try.prog w = .ok (.bool (!samePk ⟨x0, x1, x2⟩ ⟨y0, y1, y2⟩)) w := by
  rw [run_neq_struct, eqAPk (10000 - 2) w]
  rfl
theorem samePk_self (x : Pk) : samePk x x = true := by simp [samePk]
theorem samePk_iff {x y : Pk} : samePk x y = true ↔ x = y := by
  obtain ⟨a, b, c⟩ := x
  obtain ⟨a', b', c'⟩ := y
  simp only [samePk, Bool.and_eq_true, beq_iff_eq, S25.mk.injEq]
  exact ⟨fun h => ⟨h.1, h.2.1, tl_inj h.2.2⟩, fun h => ⟨h.1, h.2.1, by rw [h.2.2]⟩⟩
section
variable {w0 w w' : World} {R : List Asn} {g N : Nat} {way : List Pk}
theorem NetPostE (h : Own w0 w (NetA g way N :: R)) (p0 p1 : Int) (p2 : ByteArray) (hN : N < 1000000000) (hl : way.length ≤ 1000000000) (way' : List Pk) (r : Int) (he : postR way ⟨p0, p1, p2⟩ = (way', r)) : Calls Try.prog 9 #[.pointer (some ⟨g, 0, none⟩), .agg #[.int .i64 p0, .int .i64 p1, .string p2]] w fun e w' => e = .returned (.int .i64 r) ∧ Own w0 w' (NetA g way' (N + 1) :: R) := by
  have := NetPost h ⟨p0, p1, p2⟩ hN hl
  rw [he] at this
  exact this
theorem NetDupE (h : Own w0 w (NetA g way N :: R)) (i : Int) (hN : N < 1000000000) (hl : way.length ≤ 1000000000) (way' : List Pk) (r : Int) (he : dupR way i = (way', r)) : Calls Try.prog 10 #[.pointer (some ⟨g, 0, none⟩), .int .i64 i] w fun e w' => e = .returned (.int .i64 r) ∧ Own w0 w' (NetA g way' (N + 1) :: R) := by
  have := NetDup h i hN hl
  rw [he] at this
  exact this
theorem NetTakeE (h : Own w0 w (NetA g way N :: R)) (i : Int) (hl : way.length ≤ 1000000000) (way' : List Pk) (p0 p1 : Int) (p2 : ByteArray) (r : Int) (he : takeR way i = (way', ⟨p0, p1, p2⟩, r)) : Calls Try.prog 11 #[.pointer (some ⟨g, 0, none⟩), .int .i64 i] w fun e w' => e = .returned (.tuple #[.agg #[.int .i64 p0, .int .i64 p1, .string p2], .int .i64 r]) ∧ Own w0 w' (NetA g way' N :: R) := by
  have := NetTake h i hl
  rw [he] at this
  exact this
theorem NetLoseE (h : Own w0 w (NetA g way N :: R)) (i : Int) (hl : way.length ≤ 1000000000) (way' : List Pk) (p : Pk) (r : Int) (he : takeR way i = (way', p, r)) : Calls Try.prog 13 #[.pointer (some ⟨g, 0, none⟩), .int .i64 i] w fun e w' => e = .returned (.int .i64 r) ∧ Own w0 w' (NetA g way' N :: R) := by
  have := NetLose h i hl
  rw [he] at this
  exact this
abbrev pkA : Pk := ⟨0, 8, ⟨#[97]⟩⟩
set_option maxHeartbeats 8000000 in
set_option maxRecDepth 100000 in
theorem awake_calls (w : World) : Calls Try.prog 14 #[] w fun e w' => e = .returned (.bool true) ∧ Below w.heap.size w w' := by
  have H0 := Aside0.mk (Own.nil w)
  have E1 := Aside0.mk (show postR [] pkA = ([pkA], 0) by simp [postR, putR, cntW, goodP])
  have E2 := Aside0.mk (show dupR [pkA] 0 = ([pkA, pkA], 0) by simp [dupR, putR, cntW])
  have E3 := Aside0.mk (show takeR [pkA, pkA] 1 = ([pkA], pkA, 0) by simp [takeR])
  have E4 := Aside0.mk (show takeR [pkA] 0 = ([], pkA, 0) by simp [takeR])
  have hq := fun W => (eqlPk 0 0 8 8 ⟨#[97]⟩ ⟨#[97]⟩ W).trans (by rw [samePk_self])
  go_enter Try.func14, Try.ntmps14
  go_wp2_with (first
    | (go_at_call 8; ((with_reducible refine (NetNew H0.out).mono ?_)); rintro e w1 ⟨g, rfl, h⟩; have H1 := Aside0.mk h; clear h)
    | (go_at_call 9; ((with_reducible refine (NetPostE H1.out 0 8 ⟨#[97]⟩ (by decide) (by decide) _ _ E1.out).mono ?_)); rintro e w2 ⟨rfl, h⟩; have H2 := Aside0.mk h; clear h)
    | (go_at_call 10; ((with_reducible refine (NetDupE H2.out 0 (by decide) (by decide) _ _ E2.out).mono ?_)); rintro e w3 ⟨rfl, h⟩; have H3 := Aside0.mk h; clear h)
    | (go_at_call 11; ((with_reducible refine (NetTakeE H3.out 1 (by decide) _ _ _ _ _ E3.out).mono ?_)); rintro e w4 ⟨rfl, h⟩; have H4 := Aside0.mk (h.alloc (.cells #[.int .i64 0, .int .i64 8, .string ⟨#[97]⟩] 25)).r1; clear h)
    | (go_at_call 11; ((with_reducible refine (NetTakeE H4.out 0 (by decide) _ _ _ _ _ E4.out).mono ?_)); rintro e w5 ⟨rfl, h⟩; have h9 := (h.alloc (.cells #[.int .i64 0, .int .i64 8, .string ⟨#[97]⟩] 25)).r1; have H5 := Aside0.mk h9; have x0 := (blk_cell h9.at1 0).trans rfl; have x1 := (blk_cell h9.at1 1).trans rfl; have x2 := (blk_cell h9.at1 2).trans rfl; have y0 := (blk_cell h9.at2 0).trans rfl; have y1 := (blk_cell h9.at2 1).trans rfl; have y2 := (blk_cell h9.at2 2).trans rfl; clear h h9)
    | (go_at_call 12; ((with_reducible refine (NetLen H5.out 0 rfl).mono ?_)); rintro e w6 ⟨rfl, rfl⟩))
  go_ret
  exact ⟨rfl, H5.out.bel⟩
theorem great_f (l : List ACT) : ∃ k r, meterlaw05_Great.f k l = some r ∧ (r = false → l.length ≤ 300) := by
  have key : ∀ (m i : Nat) (x3 : Int), i + m = l.length → i ≤ 301 → ∃ k r, meterlaw05_Great.l0 k l x3 (i : Int) = some r ∧ (r = false → l.length ≤ 300) := by
    intro m
    induction m with
    | zero =>
      intro i x3 hi _
      refine ⟨1, if (l.length : Int) > 300 then true else decide (x3 > 60000), ?_, fun h => ?_⟩
      · simp only [meterlaw05_Great.l0]
        rw [if_neg (show ¬ (i : Int) < (l.length : Int) by omega)]
        split <;> rfl
      · by_cases hq : (l.length : Int) > 300
        · rw [if_pos hq] at h; cases h
        · omega
    | succ m ih =>
      intro i x3 hi h3
      by_cases h300 : i ≤ 300
      · obtain ⟨k, r, hk, hr⟩ := ih (i + 1) (wrap64 (x3 + (mn (((rd_T40 l (i : Int)).f1.f2).size : Int) 60001))) (by omega) (by omega)
        refine ⟨k + 1, r, ?_, hr⟩
        simp only [meterlaw05_Great.l0]
        rw [if_pos (show (i : Int) < (l.length : Int) by omega), if_pos (show (i : Int) ≤ 300 by omega), if_pos (show (0 : Int) ≤ (i : Int) by omega)]
        have e : wrap64 ((i : Int) + 1) = ((i + 1 : Nat) : Int) := by unfold wrap64; omega
        rw [e]
        exact hk
      · refine ⟨1, true, ?_, fun h => by cases h⟩
        simp only [meterlaw05_Great.l0]
        rw [if_pos (show (i : Int) < (l.length : Int) by omega), if_neg (show ¬ (i : Int) ≤ 300 by omega), if_pos (show (l.length : Int) > 300 by omega)]
  exact key l.length 0 0 (by omega) (by omega)
end
end Go.Proofs.Ytdnpodpmicllgaa.PNetPlays
