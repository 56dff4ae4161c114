/- Acts as bytes (package script): what read hands back at no kind. -/
import Derived.Test.YtapkoiaeghjpdaaScr5
namespace Go.Proofs.Ytapkoiaeghjpdaa.PScriptWrites
open Go.RowKit Go.Proofs.YtapkoiaeghjpdaaW.PrintWords Go.Proofs.YtapkoiaeghjpdaaW.PrintLast Go.Proofs.YtapkoiaeghjpdaaW.PrintMore
open Go.Proofs.YtapkoiaeghjpdaaO
attribute [local go_sem] max2_int min2_int max_two min_two max_three min_three max_four min_four
set_option linter.unusedVariables false
set_option linter.unusedSimpArgs false
section
variable {w0 w w' : World} {R : List Asn} {s : ByteArray} {p0 : Int × Int}
set_option maxHeartbeats 60000000 in
set_option maxRecDepth 100000 in
theorem read0 (h : Own w0 w R) (hs : s.size < 1000000) (f0 : Int) (hk : f0 < 1 ∨ 8 < f0) (h0 : rdByte s 0 0 = (f0, p0.1, p0.2)) :
    Calls Try.prog 19 #[.string s] w fun e w' => e = .returned (.tuple #[.agg #[.int .u8 f0, .int .i64 0, .int .i64 0, .string ⟨#[]⟩, .int .i64 0, .int .i64 0], .int .i64 p0.1, .bool false]) ∧ Own w0 w' R := by
  have hn : inS s p0 := by have := rB_in (s := s) (p := (0, 0)) ⟨by simp, by simp⟩; unfold rB' at this; rw [h0] at this; exact this
  have H := Aside0.mk (h.alloc (.cells #[(.int .u8 0), .int .i64 0, .int .i64 0, .string ⟨#[]⟩, .int .i64 0, .int .i64 0] 33 (0, 0)))
  have HR0 := Aside0.mk h0
  have HK := Aside0.mk hk
  have HSL := Aside0.mk (Nat.le_of_lt hs)
  have HZ := Aside0.mk (show (0 : Int) ≤ s.size by omega)
  have HN0 := Aside0.mk (show 0 ≤ p0.1 from hn.1)
  have HN1 := Aside0.mk (show p0.1 ≤ s.size from hn.2)
  have hw2 : IntKind.i64.wrap ((s.size : Int) - ((s.size : Int) - p0.1)) = p0.1 := by have h1 := hn.1; have h2 := hn.2; rw [IntKind.wrap_i64]; omega
  clear h hs h0 hn hk
  go_enter Try.func19, Try.ntmps19
  go_wp2_with (first
    | (go_at_call 24; (with_reducible refine (InOf H.out s).mono ?_); rintro e w1 ⟨g, rfl, h⟩; have H1 := Aside0.mk (h.alloc (.cells #[.pointer (some ⟨g, 0, none⟩)] 48 (0, 0))); clear h)
    | (go_at_call 25; (with_reducible refine (InByte H1.out.r1 (Int.le_refl 0) HZ.out HSL.out _ _ _ HR0.out).mono ?_); rintro e w2 ⟨rfl, h⟩; have H2 := Aside0.mk ((h.alloc (.cells #[.int .u8 f0, .int .i64 0, .int .i64 0, .string ⟨#[]⟩, .int .i64 0, .int .i64 0] 33 (0, 0))).r2.r1); clear h)
    | (go_at_call 26; (with_reducible refine (wfields0 _ _ _ H2.out HK.out).mono ?_); rintro e w3 ⟨rfl, hw⟩; have h := H2.out; rw [hw] at h; have zb := (blk_cell h.at1 0).trans rfl; have H3 := Aside0.mk h.r2; clear h hw)
    | (go_at_call 33; (with_reducible refine (InFaultX H3.out).mono ?_); rintro e w4 ⟨fv, rfl, h⟩; have zd := (blk_cell h.at2 0).trans rfl; have za0 := (blk_cell h.at1 0).trans rfl; have za1 := (blk_cell h.at1 1).trans rfl; have za2 := (blk_cell h.at1 2).trans rfl; have za3 := (blk_cell h.at1 3).trans rfl; have za4 := (blk_cell h.at1 4).trans rfl; have za5 := (blk_cell h.at1 5).trans rfl; have H4 := Aside0.mk h; clear h))
  first | go_region_with (go_at_call 34; (with_reducible refine (InLeft H4.out.drew HN0.out HN1.out HSL.out).mono ?_); rintro e w5 ⟨rfl, h⟩; have zq0 := (blk_cell h.at1 0).trans rfl; have zq1 := (blk_cell h.at1 1).trans rfl; have zq2 := (blk_cell h.at1 2).trans rfl; have zq3 := (blk_cell h.at1 3).trans rfl; have zq4 := (blk_cell h.at1 4).trans rfl; have zq5 := (blk_cell h.at1 5).trans rfl; have zr0 := (blk_cell h.at3 0).trans rfl; have zr1 := (blk_cell h.at3 1).trans rfl; have zr2 := (blk_cell h.at3 2).trans rfl; have zr3 := (blk_cell h.at3 3).trans rfl; have zr4 := (blk_cell h.at3 4).trans rfl; have zr5 := (blk_cell h.at3 5).trans rfl; have fz := blk_frozen h.at3 0; have fz1 := blk_frozen h.at3 1; have fz2 := blk_frozen h.at3 2; have fz3 := blk_frozen h.at3 3; have fz4 := blk_frozen h.at3 4; have fz5 := blk_frozen h.at3 5; have H5 := Aside0.mk h; clear h) | fail
  all_goals go_wp2
  all_goals
    have HF := ((((((H5.out.r3.set 0 (.int .u8 f0)).set 1 (.int .i64 0)).set 2 (.int .i64 0)).set 3 (.string ⟨#[]⟩)).set 4 (.int .i64 0)).set 5 (.int .i64 0))
    exact bodyPost_ret (res19 _ _ _ _ _ _ _ _ _ _ _ rfl rfl rfl ((blk_cell HF.at0 0).trans rfl) ((blk_cell HF.at0 1).trans rfl) ((blk_cell HF.at0 2).trans rfl) ((blk_cell HF.at0 3).trans rfl) ((blk_cell HF.at0 4).trans rfl) ((blk_cell HF.at0 5).trans rfl)) rfl ⟨rfl, HF.tail.tail.tail.tail⟩
end
end Go.Proofs.Ytapkoiaeghjpdaa.PScriptWrites
