/- The law SeenKnown, walked. -/
import Derived.Test.YtboomdjkgheonaaSeen9
namespace Go.Proofs.Ytboomdjkgheonaa.PSeenPlays
open Go.RowKit Go.Proofs.YtboomdjkgheonaaW.PrintWords Go.Proofs.YtboomdjkgheonaaW.PrintLast Go.Proofs.YtboomdjkgheonaaW.PrintMore
open Go.Proofs.YtboomdjkgheonaaO
attribute [local go_sem] max2_int min2_int max_two min_two max_three min_three max_four min_four
set_option linter.unusedVariables false
set_option linter.unusedSimpArgs false
theorem add_zero' (p : Addr) : p.add 0 = p := by cases p; simp [Addr.add]
set_option maxHeartbeats 8000000 in
set_option maxRecDepth 100000 in
theorem SeenKnown_law (w : World) : Calls Try.prog 3 #[] w fun e w' => e = .returned (.bool true) ∧ Below w.heap.size w w' := by
  have H := Aside0.mk (Own.nil w)
  have A1 := Aside0.mk (show askR loN coN 0 1 1 = (3, 0) by decide)
  have A2 := Aside0.mk (show noteE loN coN 0 1 1 2 = 0 ∧ noteLo loN coN 0 1 1 2 = lo1 ∧ noteCo loN coN 0 1 1 2 = co1 from ⟨by decide, rfl, rfl⟩)
  have A3 := Aside0.mk (show askR lo1 co1 0 1 1 = (2, 2) by decide)
  have A4 := Aside0.mk (show askR lo1 co1 1 1 1 = (3, 0) by decide)
  have A5 := Aside0.mk (show noteE lo1 co1 0 3 2 1 = 0 ∧ noteLo lo1 co1 0 3 2 1 = lo2 ∧ noteCo lo1 co1 0 3 2 1 = co2 from ⟨by decide, rfl, rfl⟩)
  have A6 := Aside0.mk (show askR lo2 co2 0 1 1 = (1, 0) by decide)
  have A7 := Aside0.mk (show askR lo2 co2 0 2 2 = (3, 0) by decide)
  have LA := Lib.hid (show lo2 0 = 2 by decide)
  have LB := Lib.hid (show lo2 1 = 1 by decide)
  have A8 := Aside0.mk (show askR lo2 co2 4 1 1 = (0, 0) by decide)
  have A9 := Aside0.mk (show askR lo2 co2 0 17 1 = (0, 0) by decide)
  have A10 := Aside0.mk (show askR lo2 co2 0 1 2 = (0, 0) by decide)
  have A11 := Aside0.mk (show askR lo2 co2 0 0 0 = (0, 0) by decide)
  have A12 := Aside0.mk (show askR lo2 co2 1 16 1 = (3, 0) by decide)
  have A13 := Aside0.mk (show askR lo2 co2 1 1099511627776 1099511627776 = (3, 0) by decide)
  have A14 := Aside0.mk (show askR lo2 co2 1 1099511627777 1099511627777 = (0, 0) by decide)
  have A15 := Aside0.mk (show noteE lo2 co2 0 1 1 1 = 12 ∧ noteLo lo2 co2 0 1 1 1 = lo2 ∧ noteCo lo2 co2 0 1 1 1 = co2 from ⟨by decide, if_neg (by decide), if_neg (by decide)⟩)
  have A16 := Aside0.mk (show noteE lo2 co2 0 3 2 1 = 5 ∧ noteLo lo2 co2 0 3 2 1 = lo2 ∧ noteCo lo2 co2 0 3 2 1 = co2 from ⟨by decide, if_neg (by decide), if_neg (by decide)⟩)
  have A17 := Aside0.mk (show noteE lo2 co2 0 4 2 5 = 1 ∧ noteLo lo2 co2 0 4 2 5 = lo2 ∧ noteCo lo2 co2 0 4 2 5 = co2 from ⟨by decide, if_neg (by decide), if_neg (by decide)⟩)
  have A18 := Aside0.mk (show noteE lo2 co2 0 4 2 0 = 1 ∧ noteLo lo2 co2 0 4 2 0 = lo2 ∧ noteCo lo2 co2 0 4 2 0 = co2 from ⟨by decide, if_neg (by decide), if_neg (by decide)⟩)
  have C3 := Aside0.mk (fun (W : World) => (lit_ints W (.cells #[.int .i64 1, .int .i64 1, .int .i64 1] 3 (0, 0)) [1, 1, 1] 3 rfl (by decide) 3 W.heap.size rfl rfl))
  have C4 := Aside0.mk (fun (W : World) (o : Obj) => Kd.C_alloc (lit_ints W (.cells #[.int .i64 1, .int .i64 1, .int .i64 1, .int .i64 1] 3 (0, 0)) [1, 1, 1, 1] 3 rfl (by decide) 4 W.heap.size rfl rfl) o)
  have E1 := Aside0.mk (fun (W : World) => (lit_entries (W.alloc (.cells #[.int .i64 1, .int .i64 1, .int .i64 1, .int .i64 1] 3 (0, 0))) (.cells #[.int .i64 0, .int .i64 17, .int .i64 1] 33 (0, 0)) [⟨0, 17, 1⟩] 33 rfl (by decide) 1 (W.heap.size + 1) rfl (alloc_size _ _).symm))
  have E2 := Aside0.mk (fun (W : World) => (lit_entries (W.alloc (.cells #[.int .i64 1, .int .i64 1, .int .i64 1, .int .i64 1] 3 (0, 0))) (.cells #[.int .i64 0, .int .i64 2, .int .i64 1, .int .i64 0, .int .i64 1, .int .i64 1] 33 (0, 0)) [⟨0, 2, 1⟩, ⟨0, 1, 1⟩] 33 rfl (by decide) 2 (W.heap.size + 1) rfl (alloc_size _ _).symm))
  have X1 := Aside0.mk (show ¬ OfOk [1, 1, 1, 1] [⟨0, 17, 1⟩] from fun q => absurd ((q.2.2 0) _ rfl).1.2.2.2.2 (by decide))
  have X2 := Aside0.mk (show ¬ OfOk [1, 1, 1, 1] [⟨0, 2, 1⟩, ⟨0, 1, 1⟩] from fun q => by rcases ((q.2.2 1) _ rfl).2 ⟨0, 2, 1⟩ (by decide) rfl with q | q; exact absurd q (by decide); exact absurd q.2 (by decide))
  have X0 := Aside0.mk (show ¬ OfOk [1, 1, 1] [] from fun q => absurd q.1 (by decide))
  go_enter Try.func3, Try.ntmps3
  go_wp2_with (first
    | (go_at_call 8; (with_reducible refine (SeenNew H.out).mono ?_); rintro e w1 ⟨g, rfl, h⟩; have H1 : Aside0 (Own w w1 (SeenA g 0 loN coN :: [])) := ⟨h⟩; clear h)
    | (go_at_call 9; (with_reducible refine (SeenAskE H1.out 0 1 1 (wfi (by decide) (by decide)) 3  0 A1.out).mono ?_); rintro e w2 ⟨rfl, rfl⟩)
    | (go_at_call 10; (with_reducible refine (SeenNoteE H1.out 0 1 1 2 (wfi (by decide) (by decide)) (wfi (by decide) (by decide)) (by decide) 0 lo1 co1 A2.out).mono ?_); rintro e w22 ⟨rfl, h⟩; have H22 := Aside0.mk h; clear h)
    | (go_at_call 9; (with_reducible refine (SeenAskE H22.out 0 1 1 (wfi (by decide) (by decide)) 2  2 A3.out).mono ?_); rintro e w2 ⟨rfl, rfl⟩)
    | (go_at_call 9; (with_reducible refine (SeenAskE H22.out 1 1 1 (wfi (by decide) (by decide)) 3  0 A4.out).mono ?_); rintro e w2 ⟨rfl, rfl⟩)
    | (go_at_call 10; (with_reducible refine (SeenNoteE H22.out 0 3 2 1 (wfi (by decide) (by decide)) (wfi (by decide) (by decide)) (by decide) 0 lo2 co2 A5.out).mono ?_); rintro e w25 ⟨rfl, h⟩; have H25 := Aside0.mk h; clear h)
    | (go_at_call 9; (with_reducible refine (SeenAskE H25.out 0 1 1 (wfi (by decide) (by decide)) 1  0 A6.out).mono ?_); rintro e w2 ⟨rfl, rfl⟩)
    | (go_at_call 9; (with_reducible refine (SeenAskE H25.out 0 2 2 (wfi (by decide) (by decide)) 3  0 A7.out).mono ?_); rintro e w2 ⟨rfl, rfl⟩)
    | (go_at_call 11; (with_reducible refine (SeenLows H25.out).mono ?_); rintro e w50 ⟨A, c, rfl, h⟩; obtain ⟨ad, rfl, y0⟩ := own_int_at h 0 (lo2 0) rfl; obtain ⟨ad2, e2, y1⟩ := own_int_at h 1 (lo2 1) rfl; cases e2; rw [LA.out] at y0; rw [LB.out] at y1; rw [add_zero'] at y0; have y2 : w50.cell? { block := ad.block, off := ad.off + 1 } = some (.int .i64 1) := y1; have HL := Aside0.mk h.tail; clear h)
    | (go_at_call 9; (with_reducible refine (SeenAskE HL.out 4 1 1 (wfi (by decide) (by decide)) 0  0 A8.out).mono ?_); rintro e w2 ⟨rfl, rfl⟩)
    | (go_at_call 9; (with_reducible refine (SeenAskE HL.out 0 17 1 (wfi (by decide) (by decide)) 0  0 A9.out).mono ?_); rintro e w2 ⟨rfl, rfl⟩)
    | (go_at_call 9; (with_reducible refine (SeenAskE HL.out 0 1 2 (wfi (by decide) (by decide)) 0  0 A10.out).mono ?_); rintro e w2 ⟨rfl, rfl⟩)
    | (go_at_call 9; (with_reducible refine (SeenAskE HL.out 0 0 0 (wfi (by decide) (by decide)) 0  0 A11.out).mono ?_); rintro e w2 ⟨rfl, rfl⟩)
    | (go_at_call 9; (with_reducible refine (SeenAskE HL.out 1 16 1 (wfi (by decide) (by decide)) 3  0 A12.out).mono ?_); rintro e w2 ⟨rfl, rfl⟩)
    | (go_at_call 9; (with_reducible refine (SeenAskE HL.out 1 1099511627776 1099511627776 (wfi (by decide) (by decide)) 3  0 A13.out).mono ?_); rintro e w2 ⟨rfl, rfl⟩)
    | (go_at_call 9; (with_reducible refine (SeenAskE HL.out 1 1099511627777 1099511627777 (wfi (by decide) (by decide)) 0  0 A14.out).mono ?_); rintro e w2 ⟨rfl, rfl⟩)
    | (go_at_call 10; (with_reducible refine (SeenNoteE HL.out 0 1 1 1 (wfi (by decide) (by decide)) (wfi (by decide) (by decide)) (by decide) 12 lo2 co2 A15.out).mono ?_); rintro e w35 ⟨rfl, h⟩; have H35 := Aside0.mk h; clear h)
    | (go_at_call 10; (with_reducible refine (SeenNoteE H35.out 0 3 2 1 (wfi (by decide) (by decide)) (wfi (by decide) (by decide)) (by decide) 5 lo2 co2 A16.out).mono ?_); rintro e w36 ⟨rfl, h⟩; have H36 := Aside0.mk h; clear h)
    | (go_at_call 10; (with_reducible refine (SeenNoteE H36.out 0 4 2 5 (wfi (by decide) (by decide)) (wfi (by decide) (by decide)) (by decide) 1 lo2 co2 A17.out).mono ?_); rintro e w37 ⟨rfl, h⟩; have H37 := Aside0.mk h; clear h)
    | (go_at_call 10; (with_reducible refine (SeenNoteE H37.out 0 4 2 0 (wfi (by decide) (by decide)) (wfi (by decide) (by decide)) (by decide) 1 lo2 co2 A18.out).mono ?_); rintro e w38 ⟨rfl, h⟩; have H38 := Aside0.mk h; clear h)
    | (go_at_call 12; (with_reducible refine (SeenOf_bad _ 3 3 [1, 1, 1] none 0 0 [] _ rfl rfl (C3.out _) (Nat.le_refl _) (Kd.C_nil _ _) (Nat.le_refl _) (by decide) X0.out).mono ?_); rintro e w60 ⟨rfl, hb⟩; have HA1 := Aside0.mk ((H38.out.junk _).below hb); clear hb)
    | (go_at_call 12; (with_reducible refine (SeenOf_bad _ 4 4 [1, 1, 1, 1] _ 1 1 [⟨0, 17, 1⟩] _ rfl rfl (C4.out _ _) (Nat.le_refl _) (E1.out _) (Nat.le_refl _) (by decide) X1.out).mono ?_); rintro e w61 ⟨rfl, hb⟩; have HA2 := Aside0.mk (((HA1.out.junk _).junk _).below hb); clear hb)
    | (go_at_call 12; (with_reducible refine (SeenOf_bad _ 4 4 [1, 1, 1, 1] _ 2 2 [⟨0, 2, 1⟩, ⟨0, 1, 1⟩] _ rfl rfl (C4.out _ _) (Nat.le_refl _) (E2.out _) (Nat.le_refl _) (by decide) X2.out).mono ?_); rintro e w62 ⟨rfl, hb⟩; have HA3 := Aside0.mk (((HA2.out.junk _).junk _).below hb); clear hb)
    | (go_at_call 13; (with_reducible refine (wakes_calls _).mono ?_); rintro e w63 ⟨rfl, hb⟩; have HA4 := Aside0.mk (HA3.out.below hb); clear hb))
  go_ret
  exact ⟨rfl, HA4.out.bel⟩
end Go.Proofs.Ytboomdjkgheonaa.PSeenPlays
