/- Items that were seen (package seen): Note as one, what nil ones answer, wakes. -/
import Derived.Test.YtboomdjkgheonaaSeen4
namespace Go.Proofs.Ytboomdjkgheonaa.PSeenPlays
open Go.RowKit Go.Proofs.YtboomdjkgheonaaW.PrintWords Go.Proofs.YtboomdjkgheonaaW.PrintLast Go.Proofs.YtboomdjkgheonaaW.PrintMore
open Go.Proofs.YtboomdjkgheonaaO
attribute [local go_sem] max2_int min2_int max_two min_two max_three min_three max_four min_four
set_option linter.unusedVariables false
set_option linter.unusedSimpArgs false
section
variable {w0 w w' : World} {R : List Asn} {g N : Nat} {lo : Nat → Int} {co : Nat → Int → Option Int}
def noteLo (lo : Nat → Int) (co : Nat → Int → Option Int) (src seq low n : Int) : Nat → Int := if noteE lo co src seq low n = 0 then upLo lo src.toNat low else lo
def noteCo (lo : Nat → Int) (co : Nat → Int → Option Int) (src seq low n : Int) : Nat → Int → Option Int := if noteE lo co src seq low n = 0 then upCo lo co src.toNat seq low n else co
theorem askR_st (lo : Nat → Int) (co : Nat → Int → Option Int) (src seq low : Int) : ((askR lo co src seq low).1 = 0 ∨ (askR lo co src seq low).1 = 1 ∨ (askR lo co src seq low).1 = 2 ∨ (askR lo co src seq low).1 = 3) ∧ ((askR lo co src seq low).1 ≠ 0 → 0 ≤ src ∧ src < 4 ∧ 1 ≤ low ∧ low ≤ seq ∧ seq ≤ 1099511627776 ∧ seq - low < 16) := by
  unfold askR
  by_cases hb : src < 0 ∨ 4 ≤ src ∨ low < 1 ∨ seq < low ∨ 1099511627776 < seq ∨ 16 ≤ seq - low
  · rw [if_pos hb]
    exact ⟨.inl rfl, fun q => absurd rfl q⟩
  · rw [if_neg hb]
    refine ⟨?_, fun _ => by omega⟩
    by_cases h1 : seq < lo src.toNat
    · rw [if_pos h1]; exact .inr (.inl rfl)
    · rw [if_neg h1]
      cases co src.toNat seq with
      | none => exact .inr (.inr (.inr rfl))
      | some n => exact .inr (.inr (.inl rfl))
theorem seen_mono {M : Nat} (h : Own w0 w (SeenA g N lo co :: R)) (hN : N ≤ M) : Own w0 w (SeenA g M lo co :: R) := by
  obtain ⟨b0, b1, b2, b3, h⟩ := seen_open h
  exact note_shut h rfl rfl rfl rfl (fun _ => rfl) (fun _ => rfl) (fun _ => rfl) (fun _ => rfl) hN hN hN hN
theorem SeenNote (h : Own w0 w (SeenA g N lo co :: R)) (src seq low n : Int) (hq : wfI seq) (hn : wfI n) (hN : N < 1000000000) : Calls Try.prog 10 #[.pointer (some ⟨g, 0, none⟩), .int .i64 src, .int .i64 seq, .int .i64 low, .int .i64 n] w fun e w' => e = .returned (.int .i64 (noteE lo co src seq low n)) ∧ Own w0 w' (SeenA g (N + 1) (noteLo lo co src seq low n) (noteCo lo co src seq low n) :: R) := by
  obtain ⟨hst, hin⟩ := askR_st lo co src seq low
  obtain ⟨st, cd, ha⟩ : ∃ st cd, askR lo co src seq low = (st, cd) := ⟨_, _, rfl⟩
  have hno : ∀ er : Int, noteE lo co src seq low n = er → er ≠ 0 → (Calls Try.prog 10 #[.pointer (some ⟨g, 0, none⟩), .int .i64 src, .int .i64 seq, .int .i64 low, .int .i64 n] w fun e w' => e = .returned (.int .i64 er) ∧ Own w0 w' (SeenA g N lo co :: R)) → Calls Try.prog 10 #[.pointer (some ⟨g, 0, none⟩), .int .i64 src, .int .i64 seq, .int .i64 low, .int .i64 n] w fun e w' => e = .returned (.int .i64 (noteE lo co src seq low n)) ∧ Own w0 w' (SeenA g (N + 1) (noteLo lo co src seq low n) (noteCo lo co src seq low n) :: R) := fun er h1 h2 h3 => by
    have e1 : noteLo lo co src seq low n = lo := if_neg (by rw [h1]; exact h2)
    have e2 : noteCo lo co src seq low n = co := if_neg (by rw [h1]; exact h2)
    rw [h1, e1, e2]
    exact h3.mono fun e w' ⟨he, ho⟩ => ⟨he, seen_mono ho (Nat.le_succ _)⟩
  rw [ha] at hst hin
  simp only at hst hin
  cases hc : codeB n with
  | false =>
    have e1 : noteE lo co src seq low n = 1 := if_pos (.inr hc)
    rcases hst with rfl | rfl | rfl | rfl
    · exact hno 1 e1 (by decide) (SeenNote_0f h src seq low n cd hq ha hc)
    · exact hno 1 e1 (by decide) (SeenNote_1f h src seq low n cd hq ha hc)
    · exact hno 1 e1 (by decide) (SeenNote_2f h src seq low n cd hq ha hc)
    · exact hno 1 e1 (by decide) (SeenNote_3f h src seq low n cd hq ha hc)
  | true =>
    rcases hst with rfl | rfl | rfl | rfl
    · exact hno 1 (by unfold noteE; rw [ha]; exact if_pos (.inl rfl)) (by decide) (SeenNote_0t h src seq low n cd hq ha hc)
    · exact hno 12 (by unfold noteE; rw [ha, hc]; rfl) (by decide) (SeenNote_1t h src seq low n cd hq ha hc)
    · exact hno 5 (by unfold noteE; rw [ha, hc]; rfl) (by decide) (SeenNote_2t h src seq low n cd hq ha hc)
    · have e1 : noteE lo co src seq low n = 0 := by unfold noteE; rw [ha, hc]; rfl
      have e2 : noteLo lo co src seq low n = upLo lo src.toNat low := if_pos e1
      have e3 : noteCo lo co src seq low n = upCo lo co src.toNat seq low n := if_pos e1
      rw [e1, e2, e3]
      obtain ⟨i1, i2, _⟩ := hin (by decide)
      rcases (show src = 0 ∨ src = 1 ∨ src = 2 ∨ src = 3 by omega) with q | q | q | q
      · have := SeenNote_y0 h src seq low n cd q hq hn hN ha hc; subst q; exact this
      · have := SeenNote_y1 h src seq low n cd q hq hn hN ha hc; subst q; exact this
      · have := SeenNote_y2 h src seq low n cd q hq hn hN ha hc; subst q; exact this
      · have := SeenNote_y3 h src seq low n cd q hq hn hN ha hc; subst q; exact this
/-- The same, with the answer named. -/
theorem SeenNoteE (h : Own w0 w (SeenA g N lo co :: R)) (src seq low n : Int) (hq : wfI seq) (hn : wfI n) (hN : N < 1000000000) (er : Int) (lo2 : Nat → Int) (co2 : Nat → Int → Option Int) (he : noteE lo co src seq low n = er ∧ noteLo lo co src seq low n = lo2 ∧ noteCo lo co src seq low n = co2) : Calls Try.prog 10 #[.pointer (some ⟨g, 0, none⟩), .int .i64 src, .int .i64 seq, .int .i64 low, .int .i64 n] w fun e w' => e = .returned (.int .i64 er) ∧ Own w0 w' (SeenA g (N + 1) lo2 co2 :: R) := by
  obtain ⟨rfl, rfl, rfl⟩ := he
  exact SeenNote h src seq low n hq hn hN
theorem SeenAskE (h : Own w0 w (SeenA g N lo co :: R)) (src seq low : Int) (hq : wfI seq) (st cd : Int) (he : askR lo co src seq low = (st, cd)) : Calls Try.prog 9 #[.pointer (some ⟨g, 0, none⟩), .int .i64 src, .int .i64 seq, .int .i64 low] w fun e w' => e = .returned (.tuple #[.int .i64 st, .int .i64 cd]) ∧ w = w' := by
  have := SeenAsk h src seq low hq
  rwa [he] at this
set_option maxHeartbeats 4000000 in
theorem SeenNote_nil (h : Own w0 w R) (src seq low n : Int) : Calls Try.prog 10 #[.pointer none, .int .i64 src, .int .i64 seq, .int .i64 low, .int .i64 n] w fun e w' => e = .returned (.int .i64 2) ∧ Own w0 w' R := by
  have H := Aside0.mk h
  clear h
  go_enter Try.func10, Try.ntmps10
  go_wp2
  go_ret
  exact ⟨rfl, (H.out.junk _).junk _⟩
set_option maxHeartbeats 4000000 in
theorem SeenLows_nil (w : World) : Calls Try.prog 11 #[.pointer none] w fun e w' => e = .returned (.slice none 0 0) ∧ w = w' := by
  go_enter Try.func11, Try.ntmps11
  go_wp2
  go_ret
  exact ⟨rfl, rfl⟩
set_option maxHeartbeats 4000000 in
theorem SeenAll_nil (w : World) : Calls Try.prog 14 #[.pointer none] w fun e w' => e = .returned (.slice none 0 0) ∧ w = w' := by
  go_enter Try.func14, Try.ntmps14
  go_wp2
  go_ret
  exact ⟨rfl, rfl⟩
set_option maxHeartbeats 4000000 in
theorem SeenTwin_nil (w : World) : Calls Try.prog 15 #[.pointer none] w fun e w' => e = .returned (.pointer none) ∧ w = w' := by
  go_enter Try.func15, Try.ntmps15
  go_wp2
  go_ret
  exact ⟨rfl, rfl⟩
theorem wfi {x : Int} (h0 : -9223372036854775808 ≤ x) (h1 : x ≤ 9223372036854775807) : wfI x := by unfold wfI; simp [Lit.wf, IntKind.min, IntKind.max, IntKind.signed, IntKind.bits]; omega
def loN : Nat → Int := fun _ => 1
def coN : Nat → Int → Option Int := fun _ _ => none
def lo1 := noteLo loN coN 0 1 1 2
def co1 := noteCo loN coN 0 1 1 2
def lo2 := noteLo lo1 co1 0 3 2 1
def co2 := noteCo lo1 co1 0 3 2 1
set_option maxHeartbeats 4000000 in
set_option maxRecDepth 100000 in
theorem wakes_calls (w : World) : Calls Try.prog 13 #[] w fun e w' => e = .returned (.bool true) ∧ Below w.heap.size w w' := by
  have H := Aside0.mk (Own.nil w)
  have A1 := Aside0.mk (show askR loN coN 0 1 1 = (3, 0) by decide)
  have N1 := Aside0.mk (show noteE loN coN 0 1 1 2 = 0 ∧ noteLo loN coN 0 1 1 2 = lo1 ∧ noteCo loN coN 0 1 1 2 = co1 from ⟨by decide, rfl, rfl⟩)
  have A2 := Aside0.mk (show askR lo1 co1 0 1 1 = (2, 2) by decide)
  have N2 := Aside0.mk (show noteE lo1 co1 0 3 2 1 = 0 ∧ noteLo lo1 co1 0 3 2 1 = lo2 ∧ noteCo lo1 co1 0 3 2 1 = co2 from ⟨by decide, rfl, rfl⟩)
  have A3 := Aside0.mk (show askR lo2 co2 0 1 1 = (1, 0) by decide)
  have A4 := Aside0.mk (show askR lo2 co2 4 1 1 = (0, 0) by decide)
  go_enter Try.func13, Try.ntmps13
  go_wp2_with (first
    | (go_at_call 8; (with_reducible refine (SeenNew H.out).mono ?_); rintro e w1 ⟨g, rfl, h⟩; have H1 : Aside0 (Own w w1 (SeenA g 0 loN coN :: [])) := ⟨h⟩; clear h)
    | (go_at_call 9; (with_reducible refine (SeenAskE H1.out 0 1 1 (wfi (by decide) (by decide)) 3 0 A1.out).mono ?_); rintro e w2 ⟨rfl, rfl⟩)
    | (go_at_call 10; (with_reducible refine (SeenNoteE H1.out 0 1 1 2 (wfi (by decide) (by decide)) (wfi (by decide) (by decide)) (by decide) 0 lo1 co1 N1.out).mono ?_); rintro e w3 ⟨rfl, h⟩; have H3 := Aside0.mk h; clear h)
    | (go_at_call 9; (with_reducible refine (SeenAskE H3.out 0 1 1 (wfi (by decide) (by decide)) 2 2 A2.out).mono ?_); rintro e w4 ⟨rfl, rfl⟩)
    | (go_at_call 10; (with_reducible refine (SeenNoteE H3.out 0 3 2 1 (wfi (by decide) (by decide)) (wfi (by decide) (by decide)) (by decide) 0 lo2 co2 N2.out).mono ?_); rintro e w5 ⟨rfl, h⟩; have H5 := Aside0.mk h; clear h)
    | (go_at_call 9; (with_reducible refine (SeenAskE H5.out 0 1 1 (wfi (by decide) (by decide)) 1 0 A3.out).mono ?_); rintro e w6 ⟨rfl, rfl⟩)
    | (go_at_call 9; (with_reducible refine (SeenAskE H5.out 4 1 1 (wfi (by decide) (by decide)) 0 0 A4.out).mono ?_); rintro e w7 ⟨rfl, rfl⟩))
  go_ret
  exact ⟨rfl, H5.out.bel⟩
end
end Go.Proofs.Ytboomdjkgheonaa.PSeenPlays
