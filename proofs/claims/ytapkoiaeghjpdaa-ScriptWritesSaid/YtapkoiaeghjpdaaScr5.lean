/- Acts as bytes (package script): what read hands back, by kinds. -/
import Derived.Test.YtapkoiaeghjpdaaScr4
import Derived.Deep.RegionWith
namespace Go.Proofs.Ytapkoiaeghjpdaa.PScriptWrites
open Go.RowKit Go.Proofs.YtapkoiaeghjpdaaW.PrintWords Go.Proofs.YtapkoiaeghjpdaaW.PrintLast Go.Proofs.YtapkoiaeghjpdaaW.PrintMore
open Go.Proofs.YtapkoiaeghjpdaaO
attribute [local go_sem] max2_int min2_int max_two min_two max_three min_three max_four min_four
set_option linter.unusedVariables false
set_option linter.unusedSimpArgs false
theorem InFaultX {w0 w : World} {L : List Asn} {g : Nat} {s : ByteArray} {a bad : Int} (h : Own w0 w (InA g s a bad :: L)) :
    Calls Try.prog 33 #[.pointer (some ⟨g, 0, none⟩)] w fun e w' => ∃ v : Int, e = .returned (.tuple #[.int .i64 bad, .int .i64 v]) ∧ Own w0 w' (InA g s a bad :: L) := by
  by_cases hb : bad = 0
  · subst hb; exact (InFault0 h).mono fun e w' ⟨h1, h2⟩ => ⟨_, h1, h2⟩
  · exact (InFault1 h hb).mono fun e w' ⟨h1, h2⟩ => ⟨_, h1, h2⟩
set_option maxHeartbeats 4000000 in
theorem res19 (tmps : Array Value) (w : World) (g : Nat) (m : Int) (b : Bool) (v0 v1 v2 v3 v4 v5 : Value) (h2 : tmps.getD 2 undef = .pointer (some ⟨g, 0, none⟩)) (h3 : tmps.getD 3 undef = .int .i64 m) (h4 : tmps.getD 4 undef = .bool b)
    (z0 : w.cell? ⟨g, 0, none⟩ = some v0) (z1 : w.cell? ⟨g, 1, none⟩ = some v1) (z2 : w.cell? ⟨g, 2, none⟩ = some v2) (z3 : w.cell? ⟨g, 3, none⟩ = some v3) (z4 : w.cell? ⟨g, 4, none⟩ = some v4) (z5 : w.cell? ⟨g, 5, none⟩ = some v5) :
    (results Try.f19 tmps).run Try.prog w = .ok (.tuple #[.agg #[v0, v1, v2, v3, v4, v5], .int .i64 m, .bool b]) w := by
  simp only [results, Try.results19, List.mapM_toArray, List.mapM_cons, List.mapM_nil]
  simp [h2, h3, h4, go_sem, z0, z1, z2, z3, z4, z5]
section
variable {w0 w w' : World} {R : List Asn} {s : ByteArray} {p0 : Int × Int}
set_option maxHeartbeats 4000000 in
set_option maxRecDepth 100000 in
theorem read1 (h : Own w0 w R) (hs : s.size < 1000000) (h0 : rdByte s 0 0 = (1, p0.1, p0.2)) (p1 p2 p3 p4 : Int × Int) (e1 : rN' s p0 = p1) (e2 : rT' s p1 = p2) (e3 : rI' s p2 = p3) (e4 : rI' s p3 = p4) (hn : inS s p4) :
    Calls Try.prog 19 #[.string s] w fun e w' => e = .returned (.tuple #[.agg #[(.int .u8 1), .int .i64 (rN s p0), .int .i64 0, .string (rT s p1), .int .i64 (rI s p2), .int .i64 (rI s p3)], .int .i64 p4.1, .bool (p4.2 == 0)]) ∧ Own w0 w' R := by
  have i0 : inS s p0 := by have := rB_in (s := s) (p := (0, 0)) ⟨by simp, by simp⟩; unfold rB' at this; rw [h0] at this; exact this
  have H := Aside0.mk (h.alloc (.cells #[(.int .u8 0), .int .i64 0, .int .i64 0, .string ⟨#[]⟩, .int .i64 0, .int .i64 0] 33 (0, 0)))
  have HI0 := Aside0.mk i0
  have HR0 := Aside0.mk h0
  have HS := Aside0.mk hs
  have HSL := Aside0.mk (Nat.le_of_lt hs)
  have HZ := Aside0.mk (show (0 : Int) ≤ s.size by omega)
  have HN0 := Aside0.mk (show 0 ≤ p4.1 from hn.1)
  have HN1 := Aside0.mk (show p4.1 ≤ s.size from hn.2)
  have hw2 : IntKind.i64.wrap ((s.size : Int) - ((s.size : Int) - p4.1)) = p4.1 := by have h1 := hn.1; have h2 := hn.2; rw [IntKind.wrap_i64]; omega
  have hw : wrap64 ((s.size : Int) - ((s.size : Int) - p4.1)) = p4.1 := by have h1 := hn.1; have h2 := hn.2; unfold wrap64; omega
  have HE1 := Aside0.mk e1
  have HE2 := Aside0.mk e2
  have HE3 := Aside0.mk e3
  have HE4 := Aside0.mk e4
  clear h hs h0 i0 hn e1 e2 e3 e4
  go_enter Try.func19, Try.ntmps19
  go_wp2_with (first
    | (go_at_call 24; (with_reducible refine (InOf H.out s).mono ?_); rintro e w1 ⟨g, rfl, h⟩; have H1 := Aside0.mk (h.alloc (.cells #[.pointer (some ⟨g, 0, none⟩)] 48 (0, 0))); clear h)
    | (go_at_call 25; (with_reducible refine (InByte H1.out.r1 (Int.le_refl 0) HZ.out HSL.out _ _ _ HR0.out).mono ?_); rintro e w2 ⟨rfl, h⟩; have H2 := Aside0.mk ((h.alloc (.cells #[(.int .u8 1), .int .i64 0, .int .i64 0, .string ⟨#[]⟩, .int .i64 0, .int .i64 0] 33 (0, 0))).r2.r1); clear h)
    | (go_at_call 26; (with_reducible refine (rfields1 H2.out HI0.out HS.out p1 p2 p3 p4 HE1.out HE2.out HE3.out HE4.out).mono ?_); rintro e w3 ⟨rfl, h⟩; have zb := (blk_cell h.at1 0).trans rfl; have H3 := Aside0.mk h.r2; clear h)
    | (go_at_call 33; (with_reducible refine (InFaultX H3.out).mono ?_); rintro e w4 ⟨fv, rfl, h⟩; have zd := (blk_cell h.at2 0).trans rfl; have za0 := (blk_cell h.at1 0).trans rfl; have za1 := (blk_cell h.at1 1).trans rfl; have za2 := (blk_cell h.at1 2).trans rfl; have za3 := (blk_cell h.at1 3).trans rfl; have za4 := (blk_cell h.at1 4).trans rfl; have za5 := (blk_cell h.at1 5).trans rfl; have H4 := Aside0.mk h; clear h))
  go_region_with (go_at_call 34; (with_reducible refine (InLeft H4.out.drew HN0.out HN1.out HSL.out).mono ?_); rintro e w5 ⟨rfl, h⟩; have zq0 := (blk_cell h.at1 0).trans rfl; have zq1 := (blk_cell h.at1 1).trans rfl; have zq2 := (blk_cell h.at1 2).trans rfl; have zq3 := (blk_cell h.at1 3).trans rfl; have zq4 := (blk_cell h.at1 4).trans rfl; have zq5 := (blk_cell h.at1 5).trans rfl; have zr0 := (blk_cell h.at3 0).trans rfl; have zr1 := (blk_cell h.at3 1).trans rfl; have zr2 := (blk_cell h.at3 2).trans rfl; have zr3 := (blk_cell h.at3 3).trans rfl; have zr4 := (blk_cell h.at3 4).trans rfl; have zr5 := (blk_cell h.at3 5).trans rfl; have fz := blk_frozen h.at3 0; have fz1 := blk_frozen h.at3 1; have fz2 := blk_frozen h.at3 2; have fz3 := blk_frozen h.at3 3; have fz4 := blk_frozen h.at3 4; have fz5 := blk_frozen h.at3 5; have H5 := Aside0.mk h; clear h)
  all_goals go_wp2
  all_goals
    have HF := ((((((H5.out.r3.set 0 ((.int .u8 1))).set 1 (.int .i64 (rN s p0))).set 2 (.int .i64 0)).set 3 (.string (rT s p1))).set 4 (.int .i64 (rI s p2))).set 5 (.int .i64 (rI s p3)))
    exact bodyPost_ret (res19 _ _ _ _ _ _ _ _ _ _ _ rfl rfl rfl ((blk_cell HF.at0 0).trans rfl) ((blk_cell HF.at0 1).trans rfl) ((blk_cell HF.at0 2).trans rfl) ((blk_cell HF.at0 3).trans rfl) ((blk_cell HF.at0 4).trans rfl) ((blk_cell HF.at0 5).trans rfl)) rfl ⟨rfl, HF.tail.tail.tail.tail⟩
set_option maxHeartbeats 4000000 in
set_option maxRecDepth 100000 in
theorem read2 (h : Own w0 w R) (hs : s.size < 1000000) (h0 : rdByte s 0 0 = (2, p0.1, p0.2)) (p1 p2 p3 : Int × Int) (e1 : rN' s p0 = p1) (e2 : rN' s p1 = p2) (e3 : rI' s p2 = p3) (hn : inS s p3) :
    Calls Try.prog 19 #[.string s] w fun e w' => e = .returned (.tuple #[.agg #[(.int .u8 2), .int .i64 (rN s p0), .int .i64 (rN s p1), .string ⟨#[]⟩, .int .i64 (rI s p2), .int .i64 0], .int .i64 p3.1, .bool (p3.2 == 0)]) ∧ Own w0 w' R := by
  have i0 : inS s p0 := by have := rB_in (s := s) (p := (0, 0)) ⟨by simp, by simp⟩; unfold rB' at this; rw [h0] at this; exact this
  have H := Aside0.mk (h.alloc (.cells #[(.int .u8 0), .int .i64 0, .int .i64 0, .string ⟨#[]⟩, .int .i64 0, .int .i64 0] 33 (0, 0)))
  have HI0 := Aside0.mk i0
  have HR0 := Aside0.mk h0
  have HS := Aside0.mk hs
  have HSL := Aside0.mk (Nat.le_of_lt hs)
  have HZ := Aside0.mk (show (0 : Int) ≤ s.size by omega)
  have HN0 := Aside0.mk (show 0 ≤ p3.1 from hn.1)
  have HN1 := Aside0.mk (show p3.1 ≤ s.size from hn.2)
  have hw2 : IntKind.i64.wrap ((s.size : Int) - ((s.size : Int) - p3.1)) = p3.1 := by have h1 := hn.1; have h2 := hn.2; rw [IntKind.wrap_i64]; omega
  have hw : wrap64 ((s.size : Int) - ((s.size : Int) - p3.1)) = p3.1 := by have h1 := hn.1; have h2 := hn.2; unfold wrap64; omega
  have HE1 := Aside0.mk e1
  have HE2 := Aside0.mk e2
  have HE3 := Aside0.mk e3
  clear h hs h0 i0 hn e1 e2 e3
  go_enter Try.func19, Try.ntmps19
  go_wp2_with (first
    | (go_at_call 24; (with_reducible refine (InOf H.out s).mono ?_); rintro e w1 ⟨g, rfl, h⟩; have H1 := Aside0.mk (h.alloc (.cells #[.pointer (some ⟨g, 0, none⟩)] 48 (0, 0))); clear h)
    | (go_at_call 25; (with_reducible refine (InByte H1.out.r1 (Int.le_refl 0) HZ.out HSL.out _ _ _ HR0.out).mono ?_); rintro e w2 ⟨rfl, h⟩; have H2 := Aside0.mk ((h.alloc (.cells #[(.int .u8 2), .int .i64 0, .int .i64 0, .string ⟨#[]⟩, .int .i64 0, .int .i64 0] 33 (0, 0))).r2.r1); clear h)
    | (go_at_call 26; (with_reducible refine (rfields2 H2.out HI0.out HS.out p1 p2 p3 HE1.out HE2.out HE3.out).mono ?_); rintro e w3 ⟨rfl, h⟩; have zb := (blk_cell h.at1 0).trans rfl; have H3 := Aside0.mk h.r2; clear h)
    | (go_at_call 33; (with_reducible refine (InFaultX H3.out).mono ?_); rintro e w4 ⟨fv, rfl, h⟩; have zd := (blk_cell h.at2 0).trans rfl; have za0 := (blk_cell h.at1 0).trans rfl; have za1 := (blk_cell h.at1 1).trans rfl; have za2 := (blk_cell h.at1 2).trans rfl; have za3 := (blk_cell h.at1 3).trans rfl; have za4 := (blk_cell h.at1 4).trans rfl; have za5 := (blk_cell h.at1 5).trans rfl; have H4 := Aside0.mk h; clear h))
  go_region_with (go_at_call 34; (with_reducible refine (InLeft H4.out.drew HN0.out HN1.out HSL.out).mono ?_); rintro e w5 ⟨rfl, h⟩; have zq0 := (blk_cell h.at1 0).trans rfl; have zq1 := (blk_cell h.at1 1).trans rfl; have zq2 := (blk_cell h.at1 2).trans rfl; have zq3 := (blk_cell h.at1 3).trans rfl; have zq4 := (blk_cell h.at1 4).trans rfl; have zq5 := (blk_cell h.at1 5).trans rfl; have zr0 := (blk_cell h.at3 0).trans rfl; have zr1 := (blk_cell h.at3 1).trans rfl; have zr2 := (blk_cell h.at3 2).trans rfl; have zr3 := (blk_cell h.at3 3).trans rfl; have zr4 := (blk_cell h.at3 4).trans rfl; have zr5 := (blk_cell h.at3 5).trans rfl; have fz := blk_frozen h.at3 0; have fz1 := blk_frozen h.at3 1; have fz2 := blk_frozen h.at3 2; have fz3 := blk_frozen h.at3 3; have fz4 := blk_frozen h.at3 4; have fz5 := blk_frozen h.at3 5; have H5 := Aside0.mk h; clear h)
  all_goals go_wp2
  all_goals
    have HF := ((((((H5.out.r3.set 0 ((.int .u8 2))).set 1 (.int .i64 (rN s p0))).set 2 (.int .i64 (rN s p1))).set 3 (.string ⟨#[]⟩)).set 4 (.int .i64 (rI s p2))).set 5 (.int .i64 0))
    exact bodyPost_ret (res19 _ _ _ _ _ _ _ _ _ _ _ rfl rfl rfl ((blk_cell HF.at0 0).trans rfl) ((blk_cell HF.at0 1).trans rfl) ((blk_cell HF.at0 2).trans rfl) ((blk_cell HF.at0 3).trans rfl) ((blk_cell HF.at0 4).trans rfl) ((blk_cell HF.at0 5).trans rfl)) rfl ⟨rfl, HF.tail.tail.tail.tail⟩
set_option maxHeartbeats 4000000 in
set_option maxRecDepth 100000 in
theorem read3 (h : Own w0 w R) (hs : s.size < 1000000) (h0 : rdByte s 0 0 = (3, p0.1, p0.2)) (p1 p2 : Int × Int) (e1 : rN' s p0 = p1) (e2 : rN' s p1 = p2) (hn : inS s p2) :
    Calls Try.prog 19 #[.string s] w fun e w' => e = .returned (.tuple #[.agg #[(.int .u8 3), .int .i64 (rN s p0), .int .i64 (rN s p1), .string ⟨#[]⟩, .int .i64 0, .int .i64 0], .int .i64 p2.1, .bool (p2.2 == 0)]) ∧ Own w0 w' R := by
  have i0 : inS s p0 := by have := rB_in (s := s) (p := (0, 0)) ⟨by simp, by simp⟩; unfold rB' at this; rw [h0] at this; exact this
  have H := Aside0.mk (h.alloc (.cells #[(.int .u8 0), .int .i64 0, .int .i64 0, .string ⟨#[]⟩, .int .i64 0, .int .i64 0] 33 (0, 0)))
  have HI0 := Aside0.mk i0
  have HR0 := Aside0.mk h0
  have HS := Aside0.mk hs
  have HSL := Aside0.mk (Nat.le_of_lt hs)
  have HZ := Aside0.mk (show (0 : Int) ≤ s.size by omega)
  have HN0 := Aside0.mk (show 0 ≤ p2.1 from hn.1)
  have HN1 := Aside0.mk (show p2.1 ≤ s.size from hn.2)
  have hw2 : IntKind.i64.wrap ((s.size : Int) - ((s.size : Int) - p2.1)) = p2.1 := by have h1 := hn.1; have h2 := hn.2; rw [IntKind.wrap_i64]; omega
  have hw : wrap64 ((s.size : Int) - ((s.size : Int) - p2.1)) = p2.1 := by have h1 := hn.1; have h2 := hn.2; unfold wrap64; omega
  have HE1 := Aside0.mk e1
  have HE2 := Aside0.mk e2
  clear h hs h0 i0 hn e1 e2
  go_enter Try.func19, Try.ntmps19
  go_wp2_with (first
    | (go_at_call 24; (with_reducible refine (InOf H.out s).mono ?_); rintro e w1 ⟨g, rfl, h⟩; have H1 := Aside0.mk (h.alloc (.cells #[.pointer (some ⟨g, 0, none⟩)] 48 (0, 0))); clear h)
    | (go_at_call 25; (with_reducible refine (InByte H1.out.r1 (Int.le_refl 0) HZ.out HSL.out _ _ _ HR0.out).mono ?_); rintro e w2 ⟨rfl, h⟩; have H2 := Aside0.mk ((h.alloc (.cells #[(.int .u8 3), .int .i64 0, .int .i64 0, .string ⟨#[]⟩, .int .i64 0, .int .i64 0] 33 (0, 0))).r2.r1); clear h)
    | (go_at_call 26; (with_reducible refine (rfields3 H2.out HI0.out HS.out p1 p2 HE1.out HE2.out).mono ?_); rintro e w3 ⟨rfl, h⟩; have zb := (blk_cell h.at1 0).trans rfl; have H3 := Aside0.mk h.r2; clear h)
    | (go_at_call 33; (with_reducible refine (InFaultX H3.out).mono ?_); rintro e w4 ⟨fv, rfl, h⟩; have zd := (blk_cell h.at2 0).trans rfl; have za0 := (blk_cell h.at1 0).trans rfl; have za1 := (blk_cell h.at1 1).trans rfl; have za2 := (blk_cell h.at1 2).trans rfl; have za3 := (blk_cell h.at1 3).trans rfl; have za4 := (blk_cell h.at1 4).trans rfl; have za5 := (blk_cell h.at1 5).trans rfl; have H4 := Aside0.mk h; clear h))
  go_region_with (go_at_call 34; (with_reducible refine (InLeft H4.out.drew HN0.out HN1.out HSL.out).mono ?_); rintro e w5 ⟨rfl, h⟩; have zq0 := (blk_cell h.at1 0).trans rfl; have zq1 := (blk_cell h.at1 1).trans rfl; have zq2 := (blk_cell h.at1 2).trans rfl; have zq3 := (blk_cell h.at1 3).trans rfl; have zq4 := (blk_cell h.at1 4).trans rfl; have zq5 := (blk_cell h.at1 5).trans rfl; have zr0 := (blk_cell h.at3 0).trans rfl; have zr1 := (blk_cell h.at3 1).trans rfl; have zr2 := (blk_cell h.at3 2).trans rfl; have zr3 := (blk_cell h.at3 3).trans rfl; have zr4 := (blk_cell h.at3 4).trans rfl; have zr5 := (blk_cell h.at3 5).trans rfl; have fz := blk_frozen h.at3 0; have fz1 := blk_frozen h.at3 1; have fz2 := blk_frozen h.at3 2; have fz3 := blk_frozen h.at3 3; have fz4 := blk_frozen h.at3 4; have fz5 := blk_frozen h.at3 5; have H5 := Aside0.mk h; clear h)
  all_goals go_wp2
  all_goals
    have HF := ((((((H5.out.r3.set 0 ((.int .u8 3))).set 1 (.int .i64 (rN s p0))).set 2 (.int .i64 (rN s p1))).set 3 (.string ⟨#[]⟩)).set 4 (.int .i64 0)).set 5 (.int .i64 0))
    exact bodyPost_ret (res19 _ _ _ _ _ _ _ _ _ _ _ rfl rfl rfl ((blk_cell HF.at0 0).trans rfl) ((blk_cell HF.at0 1).trans rfl) ((blk_cell HF.at0 2).trans rfl) ((blk_cell HF.at0 3).trans rfl) ((blk_cell HF.at0 4).trans rfl) ((blk_cell HF.at0 5).trans rfl)) rfl ⟨rfl, HF.tail.tail.tail.tail⟩
set_option maxHeartbeats 4000000 in
set_option maxRecDepth 100000 in
theorem read4 (h : Own w0 w R) (hs : s.size < 1000000) (h0 : rdByte s 0 0 = (4, p0.1, p0.2)) (p1 : Int × Int) (e1 : rN' s p0 = p1) (hn : inS s p1) :
    Calls Try.prog 19 #[.string s] w fun e w' => e = .returned (.tuple #[.agg #[(.int .u8 4), .int .i64 (rN s p0), .int .i64 0, .string ⟨#[]⟩, .int .i64 0, .int .i64 0], .int .i64 p1.1, .bool (p1.2 == 0)]) ∧ Own w0 w' R := by
  have i0 : inS s p0 := by have := rB_in (s := s) (p := (0, 0)) ⟨by simp, by simp⟩; unfold rB' at this; rw [h0] at this; exact this
  have H := Aside0.mk (h.alloc (.cells #[(.int .u8 0), .int .i64 0, .int .i64 0, .string ⟨#[]⟩, .int .i64 0, .int .i64 0] 33 (0, 0)))
  have HI0 := Aside0.mk i0
  have HR0 := Aside0.mk h0
  have HS := Aside0.mk hs
  have HSL := Aside0.mk (Nat.le_of_lt hs)
  have HZ := Aside0.mk (show (0 : Int) ≤ s.size by omega)
  have HN0 := Aside0.mk (show 0 ≤ p1.1 from hn.1)
  have HN1 := Aside0.mk (show p1.1 ≤ s.size from hn.2)
  have hw2 : IntKind.i64.wrap ((s.size : Int) - ((s.size : Int) - p1.1)) = p1.1 := by have h1 := hn.1; have h2 := hn.2; rw [IntKind.wrap_i64]; omega
  have hw : wrap64 ((s.size : Int) - ((s.size : Int) - p1.1)) = p1.1 := by have h1 := hn.1; have h2 := hn.2; unfold wrap64; omega
  have HE1 := Aside0.mk e1
  clear h hs h0 i0 hn e1
  go_enter Try.func19, Try.ntmps19
  go_wp2_with (first
    | (go_at_call 24; (with_reducible refine (InOf H.out s).mono ?_); rintro e w1 ⟨g, rfl, h⟩; have H1 := Aside0.mk (h.alloc (.cells #[.pointer (some ⟨g, 0, none⟩)] 48 (0, 0))); clear h)
    | (go_at_call 25; (with_reducible refine (InByte H1.out.r1 (Int.le_refl 0) HZ.out HSL.out _ _ _ HR0.out).mono ?_); rintro e w2 ⟨rfl, h⟩; have H2 := Aside0.mk ((h.alloc (.cells #[(.int .u8 4), .int .i64 0, .int .i64 0, .string ⟨#[]⟩, .int .i64 0, .int .i64 0] 33 (0, 0))).r2.r1); clear h)
    | (go_at_call 26; (with_reducible refine (rfields4 H2.out HI0.out HS.out p1 HE1.out).mono ?_); rintro e w3 ⟨rfl, h⟩; have zb := (blk_cell h.at1 0).trans rfl; have H3 := Aside0.mk h.r2; clear h)
    | (go_at_call 33; (with_reducible refine (InFaultX H3.out).mono ?_); rintro e w4 ⟨fv, rfl, h⟩; have zd := (blk_cell h.at2 0).trans rfl; have za0 := (blk_cell h.at1 0).trans rfl; have za1 := (blk_cell h.at1 1).trans rfl; have za2 := (blk_cell h.at1 2).trans rfl; have za3 := (blk_cell h.at1 3).trans rfl; have za4 := (blk_cell h.at1 4).trans rfl; have za5 := (blk_cell h.at1 5).trans rfl; have H4 := Aside0.mk h; clear h))
  go_region_with (go_at_call 34; (with_reducible refine (InLeft H4.out.drew HN0.out HN1.out HSL.out).mono ?_); rintro e w5 ⟨rfl, h⟩; have zq0 := (blk_cell h.at1 0).trans rfl; have zq1 := (blk_cell h.at1 1).trans rfl; have zq2 := (blk_cell h.at1 2).trans rfl; have zq3 := (blk_cell h.at1 3).trans rfl; have zq4 := (blk_cell h.at1 4).trans rfl; have zq5 := (blk_cell h.at1 5).trans rfl; have zr0 := (blk_cell h.at3 0).trans rfl; have zr1 := (blk_cell h.at3 1).trans rfl; have zr2 := (blk_cell h.at3 2).trans rfl; have zr3 := (blk_cell h.at3 3).trans rfl; have zr4 := (blk_cell h.at3 4).trans rfl; have zr5 := (blk_cell h.at3 5).trans rfl; have fz := blk_frozen h.at3 0; have fz1 := blk_frozen h.at3 1; have fz2 := blk_frozen h.at3 2; have fz3 := blk_frozen h.at3 3; have fz4 := blk_frozen h.at3 4; have fz5 := blk_frozen h.at3 5; have H5 := Aside0.mk h; clear h)
  all_goals go_wp2
  all_goals
    have HF := ((((((H5.out.r3.set 0 ((.int .u8 4))).set 1 (.int .i64 (rN s p0))).set 2 (.int .i64 0)).set 3 (.string ⟨#[]⟩)).set 4 (.int .i64 0)).set 5 (.int .i64 0))
    exact bodyPost_ret (res19 _ _ _ _ _ _ _ _ _ _ _ rfl rfl rfl ((blk_cell HF.at0 0).trans rfl) ((blk_cell HF.at0 1).trans rfl) ((blk_cell HF.at0 2).trans rfl) ((blk_cell HF.at0 3).trans rfl) ((blk_cell HF.at0 4).trans rfl) ((blk_cell HF.at0 5).trans rfl)) rfl ⟨rfl, HF.tail.tail.tail.tail⟩
set_option maxHeartbeats 4000000 in
set_option maxRecDepth 100000 in
theorem read5 (h : Own w0 w R) (hs : s.size < 1000000) (h0 : rdByte s 0 0 = (5, p0.1, p0.2)) (p1 : Int × Int) (e1 : rN' s p0 = p1) (hn : inS s p1) :
    Calls Try.prog 19 #[.string s] w fun e w' => e = .returned (.tuple #[.agg #[(.int .u8 5), .int .i64 (rN s p0), .int .i64 0, .string ⟨#[]⟩, .int .i64 0, .int .i64 0], .int .i64 p1.1, .bool (p1.2 == 0)]) ∧ Own w0 w' R := by
  have i0 : inS s p0 := by have := rB_in (s := s) (p := (0, 0)) ⟨by simp, by simp⟩; unfold rB' at this; rw [h0] at this; exact this
  have H := Aside0.mk (h.alloc (.cells #[(.int .u8 0), .int .i64 0, .int .i64 0, .string ⟨#[]⟩, .int .i64 0, .int .i64 0] 33 (0, 0)))
  have HI0 := Aside0.mk i0
  have HR0 := Aside0.mk h0
  have HS := Aside0.mk hs
  have HSL := Aside0.mk (Nat.le_of_lt hs)
  have HZ := Aside0.mk (show (0 : Int) ≤ s.size by omega)
  have HN0 := Aside0.mk (show 0 ≤ p1.1 from hn.1)
  have HN1 := Aside0.mk (show p1.1 ≤ s.size from hn.2)
  have hw2 : IntKind.i64.wrap ((s.size : Int) - ((s.size : Int) - p1.1)) = p1.1 := by have h1 := hn.1; have h2 := hn.2; rw [IntKind.wrap_i64]; omega
  have hw : wrap64 ((s.size : Int) - ((s.size : Int) - p1.1)) = p1.1 := by have h1 := hn.1; have h2 := hn.2; unfold wrap64; omega
  have HE1 := Aside0.mk e1
  clear h hs h0 i0 hn e1
  go_enter Try.func19, Try.ntmps19
  go_wp2_with (first
    | (go_at_call 24; (with_reducible refine (InOf H.out s).mono ?_); rintro e w1 ⟨g, rfl, h⟩; have H1 := Aside0.mk (h.alloc (.cells #[.pointer (some ⟨g, 0, none⟩)] 48 (0, 0))); clear h)
    | (go_at_call 25; (with_reducible refine (InByte H1.out.r1 (Int.le_refl 0) HZ.out HSL.out _ _ _ HR0.out).mono ?_); rintro e w2 ⟨rfl, h⟩; have H2 := Aside0.mk ((h.alloc (.cells #[(.int .u8 5), .int .i64 0, .int .i64 0, .string ⟨#[]⟩, .int .i64 0, .int .i64 0] 33 (0, 0))).r2.r1); clear h)
    | (go_at_call 26; (with_reducible refine (rfields5 H2.out HI0.out HS.out p1 HE1.out).mono ?_); rintro e w3 ⟨rfl, h⟩; have zb := (blk_cell h.at1 0).trans rfl; have H3 := Aside0.mk h.r2; clear h)
    | (go_at_call 33; (with_reducible refine (InFaultX H3.out).mono ?_); rintro e w4 ⟨fv, rfl, h⟩; have zd := (blk_cell h.at2 0).trans rfl; have za0 := (blk_cell h.at1 0).trans rfl; have za1 := (blk_cell h.at1 1).trans rfl; have za2 := (blk_cell h.at1 2).trans rfl; have za3 := (blk_cell h.at1 3).trans rfl; have za4 := (blk_cell h.at1 4).trans rfl; have za5 := (blk_cell h.at1 5).trans rfl; have H4 := Aside0.mk h; clear h))
  go_region_with (go_at_call 34; (with_reducible refine (InLeft H4.out.drew HN0.out HN1.out HSL.out).mono ?_); rintro e w5 ⟨rfl, h⟩; have zq0 := (blk_cell h.at1 0).trans rfl; have zq1 := (blk_cell h.at1 1).trans rfl; have zq2 := (blk_cell h.at1 2).trans rfl; have zq3 := (blk_cell h.at1 3).trans rfl; have zq4 := (blk_cell h.at1 4).trans rfl; have zq5 := (blk_cell h.at1 5).trans rfl; have zr0 := (blk_cell h.at3 0).trans rfl; have zr1 := (blk_cell h.at3 1).trans rfl; have zr2 := (blk_cell h.at3 2).trans rfl; have zr3 := (blk_cell h.at3 3).trans rfl; have zr4 := (blk_cell h.at3 4).trans rfl; have zr5 := (blk_cell h.at3 5).trans rfl; have fz := blk_frozen h.at3 0; have fz1 := blk_frozen h.at3 1; have fz2 := blk_frozen h.at3 2; have fz3 := blk_frozen h.at3 3; have fz4 := blk_frozen h.at3 4; have fz5 := blk_frozen h.at3 5; have H5 := Aside0.mk h; clear h)
  all_goals go_wp2
  all_goals
    have HF := ((((((H5.out.r3.set 0 ((.int .u8 5))).set 1 (.int .i64 (rN s p0))).set 2 (.int .i64 0)).set 3 (.string ⟨#[]⟩)).set 4 (.int .i64 0)).set 5 (.int .i64 0))
    exact bodyPost_ret (res19 _ _ _ _ _ _ _ _ _ _ _ rfl rfl rfl ((blk_cell HF.at0 0).trans rfl) ((blk_cell HF.at0 1).trans rfl) ((blk_cell HF.at0 2).trans rfl) ((blk_cell HF.at0 3).trans rfl) ((blk_cell HF.at0 4).trans rfl) ((blk_cell HF.at0 5).trans rfl)) rfl ⟨rfl, HF.tail.tail.tail.tail⟩
set_option maxHeartbeats 4000000 in
set_option maxRecDepth 100000 in
theorem read6 (h : Own w0 w R) (hs : s.size < 1000000) (h0 : rdByte s 0 0 = (6, p0.1, p0.2)) (p1 : Int × Int) (e1 : rN' s p0 = p1) (hn : inS s p1) :
    Calls Try.prog 19 #[.string s] w fun e w' => e = .returned (.tuple #[.agg #[(.int .u8 6), .int .i64 (rN s p0), .int .i64 0, .string ⟨#[]⟩, .int .i64 0, .int .i64 0], .int .i64 p1.1, .bool (p1.2 == 0)]) ∧ Own w0 w' R := by
  have i0 : inS s p0 := by have := rB_in (s := s) (p := (0, 0)) ⟨by simp, by simp⟩; unfold rB' at this; rw [h0] at this; exact this
  have H := Aside0.mk (h.alloc (.cells #[(.int .u8 0), .int .i64 0, .int .i64 0, .string ⟨#[]⟩, .int .i64 0, .int .i64 0] 33 (0, 0)))
  have HI0 := Aside0.mk i0
  have HR0 := Aside0.mk h0
  have HS := Aside0.mk hs
  have HSL := Aside0.mk (Nat.le_of_lt hs)
  have HZ := Aside0.mk (show (0 : Int) ≤ s.size by omega)
  have HN0 := Aside0.mk (show 0 ≤ p1.1 from hn.1)
  have HN1 := Aside0.mk (show p1.1 ≤ s.size from hn.2)
  have hw2 : IntKind.i64.wrap ((s.size : Int) - ((s.size : Int) - p1.1)) = p1.1 := by have h1 := hn.1; have h2 := hn.2; rw [IntKind.wrap_i64]; omega
  have hw : wrap64 ((s.size : Int) - ((s.size : Int) - p1.1)) = p1.1 := by have h1 := hn.1; have h2 := hn.2; unfold wrap64; omega
  have HE1 := Aside0.mk e1
  clear h hs h0 i0 hn e1
  go_enter Try.func19, Try.ntmps19
  go_wp2_with (first
    | (go_at_call 24; (with_reducible refine (InOf H.out s).mono ?_); rintro e w1 ⟨g, rfl, h⟩; have H1 := Aside0.mk (h.alloc (.cells #[.pointer (some ⟨g, 0, none⟩)] 48 (0, 0))); clear h)
    | (go_at_call 25; (with_reducible refine (InByte H1.out.r1 (Int.le_refl 0) HZ.out HSL.out _ _ _ HR0.out).mono ?_); rintro e w2 ⟨rfl, h⟩; have H2 := Aside0.mk ((h.alloc (.cells #[(.int .u8 6), .int .i64 0, .int .i64 0, .string ⟨#[]⟩, .int .i64 0, .int .i64 0] 33 (0, 0))).r2.r1); clear h)
    | (go_at_call 26; (with_reducible refine (rfields6 H2.out HI0.out HS.out p1 HE1.out).mono ?_); rintro e w3 ⟨rfl, h⟩; have zb := (blk_cell h.at1 0).trans rfl; have H3 := Aside0.mk h.r2; clear h)
    | (go_at_call 33; (with_reducible refine (InFaultX H3.out).mono ?_); rintro e w4 ⟨fv, rfl, h⟩; have zd := (blk_cell h.at2 0).trans rfl; have za0 := (blk_cell h.at1 0).trans rfl; have za1 := (blk_cell h.at1 1).trans rfl; have za2 := (blk_cell h.at1 2).trans rfl; have za3 := (blk_cell h.at1 3).trans rfl; have za4 := (blk_cell h.at1 4).trans rfl; have za5 := (blk_cell h.at1 5).trans rfl; have H4 := Aside0.mk h; clear h))
  go_region_with (go_at_call 34; (with_reducible refine (InLeft H4.out.drew HN0.out HN1.out HSL.out).mono ?_); rintro e w5 ⟨rfl, h⟩; have zq0 := (blk_cell h.at1 0).trans rfl; have zq1 := (blk_cell h.at1 1).trans rfl; have zq2 := (blk_cell h.at1 2).trans rfl; have zq3 := (blk_cell h.at1 3).trans rfl; have zq4 := (blk_cell h.at1 4).trans rfl; have zq5 := (blk_cell h.at1 5).trans rfl; have zr0 := (blk_cell h.at3 0).trans rfl; have zr1 := (blk_cell h.at3 1).trans rfl; have zr2 := (blk_cell h.at3 2).trans rfl; have zr3 := (blk_cell h.at3 3).trans rfl; have zr4 := (blk_cell h.at3 4).trans rfl; have zr5 := (blk_cell h.at3 5).trans rfl; have fz := blk_frozen h.at3 0; have fz1 := blk_frozen h.at3 1; have fz2 := blk_frozen h.at3 2; have fz3 := blk_frozen h.at3 3; have fz4 := blk_frozen h.at3 4; have fz5 := blk_frozen h.at3 5; have H5 := Aside0.mk h; clear h)
  all_goals go_wp2
  all_goals
    have HF := ((((((H5.out.r3.set 0 ((.int .u8 6))).set 1 (.int .i64 (rN s p0))).set 2 (.int .i64 0)).set 3 (.string ⟨#[]⟩)).set 4 (.int .i64 0)).set 5 (.int .i64 0))
    exact bodyPost_ret (res19 _ _ _ _ _ _ _ _ _ _ _ rfl rfl rfl ((blk_cell HF.at0 0).trans rfl) ((blk_cell HF.at0 1).trans rfl) ((blk_cell HF.at0 2).trans rfl) ((blk_cell HF.at0 3).trans rfl) ((blk_cell HF.at0 4).trans rfl) ((blk_cell HF.at0 5).trans rfl)) rfl ⟨rfl, HF.tail.tail.tail.tail⟩
set_option maxHeartbeats 4000000 in
set_option maxRecDepth 100000 in
theorem read7 (h : Own w0 w R) (hs : s.size < 1000000) (h0 : rdByte s 0 0 = (7, p0.1, p0.2)) (p1 : Int × Int) (e1 : rN' s p0 = p1) (hn : inS s p1) :
    Calls Try.prog 19 #[.string s] w fun e w' => e = .returned (.tuple #[.agg #[(.int .u8 7), .int .i64 (rN s p0), .int .i64 0, .string ⟨#[]⟩, .int .i64 0, .int .i64 0], .int .i64 p1.1, .bool (p1.2 == 0)]) ∧ Own w0 w' R := by
  have i0 : inS s p0 := by have := rB_in (s := s) (p := (0, 0)) ⟨by simp, by simp⟩; unfold rB' at this; rw [h0] at this; exact this
  have H := Aside0.mk (h.alloc (.cells #[(.int .u8 0), .int .i64 0, .int .i64 0, .string ⟨#[]⟩, .int .i64 0, .int .i64 0] 33 (0, 0)))
  have HI0 := Aside0.mk i0
  have HR0 := Aside0.mk h0
  have HS := Aside0.mk hs
  have HSL := Aside0.mk (Nat.le_of_lt hs)
  have HZ := Aside0.mk (show (0 : Int) ≤ s.size by omega)
  have HN0 := Aside0.mk (show 0 ≤ p1.1 from hn.1)
  have HN1 := Aside0.mk (show p1.1 ≤ s.size from hn.2)
  have hw2 : IntKind.i64.wrap ((s.size : Int) - ((s.size : Int) - p1.1)) = p1.1 := by have h1 := hn.1; have h2 := hn.2; rw [IntKind.wrap_i64]; omega
  have hw : wrap64 ((s.size : Int) - ((s.size : Int) - p1.1)) = p1.1 := by have h1 := hn.1; have h2 := hn.2; unfold wrap64; omega
  have HE1 := Aside0.mk e1
  clear h hs h0 i0 hn e1
  go_enter Try.func19, Try.ntmps19
  go_wp2_with (first
    | (go_at_call 24; (with_reducible refine (InOf H.out s).mono ?_); rintro e w1 ⟨g, rfl, h⟩; have H1 := Aside0.mk (h.alloc (.cells #[.pointer (some ⟨g, 0, none⟩)] 48 (0, 0))); clear h)
    | (go_at_call 25; (with_reducible refine (InByte H1.out.r1 (Int.le_refl 0) HZ.out HSL.out _ _ _ HR0.out).mono ?_); rintro e w2 ⟨rfl, h⟩; have H2 := Aside0.mk ((h.alloc (.cells #[(.int .u8 7), .int .i64 0, .int .i64 0, .string ⟨#[]⟩, .int .i64 0, .int .i64 0] 33 (0, 0))).r2.r1); clear h)
    | (go_at_call 26; (with_reducible refine (rfields7 H2.out HI0.out HS.out p1 HE1.out).mono ?_); rintro e w3 ⟨rfl, h⟩; have zb := (blk_cell h.at1 0).trans rfl; have H3 := Aside0.mk h.r2; clear h)
    | (go_at_call 33; (with_reducible refine (InFaultX H3.out).mono ?_); rintro e w4 ⟨fv, rfl, h⟩; have zd := (blk_cell h.at2 0).trans rfl; have za0 := (blk_cell h.at1 0).trans rfl; have za1 := (blk_cell h.at1 1).trans rfl; have za2 := (blk_cell h.at1 2).trans rfl; have za3 := (blk_cell h.at1 3).trans rfl; have za4 := (blk_cell h.at1 4).trans rfl; have za5 := (blk_cell h.at1 5).trans rfl; have H4 := Aside0.mk h; clear h))
  go_region_with (go_at_call 34; (with_reducible refine (InLeft H4.out.drew HN0.out HN1.out HSL.out).mono ?_); rintro e w5 ⟨rfl, h⟩; have zq0 := (blk_cell h.at1 0).trans rfl; have zq1 := (blk_cell h.at1 1).trans rfl; have zq2 := (blk_cell h.at1 2).trans rfl; have zq3 := (blk_cell h.at1 3).trans rfl; have zq4 := (blk_cell h.at1 4).trans rfl; have zq5 := (blk_cell h.at1 5).trans rfl; have zr0 := (blk_cell h.at3 0).trans rfl; have zr1 := (blk_cell h.at3 1).trans rfl; have zr2 := (blk_cell h.at3 2).trans rfl; have zr3 := (blk_cell h.at3 3).trans rfl; have zr4 := (blk_cell h.at3 4).trans rfl; have zr5 := (blk_cell h.at3 5).trans rfl; have fz := blk_frozen h.at3 0; have fz1 := blk_frozen h.at3 1; have fz2 := blk_frozen h.at3 2; have fz3 := blk_frozen h.at3 3; have fz4 := blk_frozen h.at3 4; have fz5 := blk_frozen h.at3 5; have H5 := Aside0.mk h; clear h)
  all_goals go_wp2
  all_goals
    have HF := ((((((H5.out.r3.set 0 ((.int .u8 7))).set 1 (.int .i64 (rN s p0))).set 2 (.int .i64 0)).set 3 (.string ⟨#[]⟩)).set 4 (.int .i64 0)).set 5 (.int .i64 0))
    exact bodyPost_ret (res19 _ _ _ _ _ _ _ _ _ _ _ rfl rfl rfl ((blk_cell HF.at0 0).trans rfl) ((blk_cell HF.at0 1).trans rfl) ((blk_cell HF.at0 2).trans rfl) ((blk_cell HF.at0 3).trans rfl) ((blk_cell HF.at0 4).trans rfl) ((blk_cell HF.at0 5).trans rfl)) rfl ⟨rfl, HF.tail.tail.tail.tail⟩
set_option maxHeartbeats 4000000 in
set_option maxRecDepth 100000 in
theorem read8 (h : Own w0 w R) (hs : s.size < 1000000) (h0 : rdByte s 0 0 = (8, p0.1, p0.2)) (p1 : Int × Int) (e1 : rN' s p0 = p1) (hn : inS s p1) :
    Calls Try.prog 19 #[.string s] w fun e w' => e = .returned (.tuple #[.agg #[(.int .u8 8), .int .i64 (rN s p0), .int .i64 0, .string ⟨#[]⟩, .int .i64 0, .int .i64 0], .int .i64 p1.1, .bool (p1.2 == 0)]) ∧ Own w0 w' R := by
  have i0 : inS s p0 := by have := rB_in (s := s) (p := (0, 0)) ⟨by simp, by simp⟩; unfold rB' at this; rw [h0] at this; exact this
  have H := Aside0.mk (h.alloc (.cells #[(.int .u8 0), .int .i64 0, .int .i64 0, .string ⟨#[]⟩, .int .i64 0, .int .i64 0] 33 (0, 0)))
  have HI0 := Aside0.mk i0
  have HR0 := Aside0.mk h0
  have HS := Aside0.mk hs
  have HSL := Aside0.mk (Nat.le_of_lt hs)
  have HZ := Aside0.mk (show (0 : Int) ≤ s.size by omega)
  have HN0 := Aside0.mk (show 0 ≤ p1.1 from hn.1)
  have HN1 := Aside0.mk (show p1.1 ≤ s.size from hn.2)
  have hw2 : IntKind.i64.wrap ((s.size : Int) - ((s.size : Int) - p1.1)) = p1.1 := by have h1 := hn.1; have h2 := hn.2; rw [IntKind.wrap_i64]; omega
  have hw : wrap64 ((s.size : Int) - ((s.size : Int) - p1.1)) = p1.1 := by have h1 := hn.1; have h2 := hn.2; unfold wrap64; omega
  have HE1 := Aside0.mk e1
  clear h hs h0 i0 hn e1
  go_enter Try.func19, Try.ntmps19
  go_wp2_with (first
    | (go_at_call 24; (with_reducible refine (InOf H.out s).mono ?_); rintro e w1 ⟨g, rfl, h⟩; have H1 := Aside0.mk (h.alloc (.cells #[.pointer (some ⟨g, 0, none⟩)] 48 (0, 0))); clear h)
    | (go_at_call 25; (with_reducible refine (InByte H1.out.r1 (Int.le_refl 0) HZ.out HSL.out _ _ _ HR0.out).mono ?_); rintro e w2 ⟨rfl, h⟩; have H2 := Aside0.mk ((h.alloc (.cells #[(.int .u8 8), .int .i64 0, .int .i64 0, .string ⟨#[]⟩, .int .i64 0, .int .i64 0] 33 (0, 0))).r2.r1); clear h)
    | (go_at_call 26; (with_reducible refine (rfields8 H2.out HI0.out HS.out p1 HE1.out).mono ?_); rintro e w3 ⟨rfl, h⟩; have zb := (blk_cell h.at1 0).trans rfl; have H3 := Aside0.mk h.r2; clear h)
    | (go_at_call 33; (with_reducible refine (InFaultX H3.out).mono ?_); rintro e w4 ⟨fv, rfl, h⟩; have zd := (blk_cell h.at2 0).trans rfl; have za0 := (blk_cell h.at1 0).trans rfl; have za1 := (blk_cell h.at1 1).trans rfl; have za2 := (blk_cell h.at1 2).trans rfl; have za3 := (blk_cell h.at1 3).trans rfl; have za4 := (blk_cell h.at1 4).trans rfl; have za5 := (blk_cell h.at1 5).trans rfl; have H4 := Aside0.mk h; clear h))
  go_region_with (go_at_call 34; (with_reducible refine (InLeft H4.out.drew HN0.out HN1.out HSL.out).mono ?_); rintro e w5 ⟨rfl, h⟩; have zq0 := (blk_cell h.at1 0).trans rfl; have zq1 := (blk_cell h.at1 1).trans rfl; have zq2 := (blk_cell h.at1 2).trans rfl; have zq3 := (blk_cell h.at1 3).trans rfl; have zq4 := (blk_cell h.at1 4).trans rfl; have zq5 := (blk_cell h.at1 5).trans rfl; have zr0 := (blk_cell h.at3 0).trans rfl; have zr1 := (blk_cell h.at3 1).trans rfl; have zr2 := (blk_cell h.at3 2).trans rfl; have zr3 := (blk_cell h.at3 3).trans rfl; have zr4 := (blk_cell h.at3 4).trans rfl; have zr5 := (blk_cell h.at3 5).trans rfl; have fz := blk_frozen h.at3 0; have fz1 := blk_frozen h.at3 1; have fz2 := blk_frozen h.at3 2; have fz3 := blk_frozen h.at3 3; have fz4 := blk_frozen h.at3 4; have fz5 := blk_frozen h.at3 5; have H5 := Aside0.mk h; clear h)
  all_goals go_wp2
  all_goals
    have HF := ((((((H5.out.r3.set 0 ((.int .u8 8))).set 1 (.int .i64 (rN s p0))).set 2 (.int .i64 0)).set 3 (.string ⟨#[]⟩)).set 4 (.int .i64 0)).set 5 (.int .i64 0))
    exact bodyPost_ret (res19 _ _ _ _ _ _ _ _ _ _ _ rfl rfl rfl ((blk_cell HF.at0 0).trans rfl) ((blk_cell HF.at0 1).trans rfl) ((blk_cell HF.at0 2).trans rfl) ((blk_cell HF.at0 3).trans rfl) ((blk_cell HF.at0 4).trans rfl) ((blk_cell HF.at0 5).trans rfl)) rfl ⟨rfl, HF.tail.tail.tail.tail⟩
end
end Go.Proofs.Ytapkoiaeghjpdaa.PScriptWrites
