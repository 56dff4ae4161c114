/- Acts as bytes (package script): what read hands back, by kinds. -/
import Derived.Test.YtapkoiaeghjpdaaScr3
import Derived.Test.YtapkoiaeghjpdaaScr2
namespace Go.Proofs.Ytapkoiaeghjpdaa.PScriptWrites
open Go.RowKit Go.Proofs.YtapkoiaeghjpdaaW.PrintWords Go.Proofs.YtapkoiaeghjpdaaW.PrintLast Go.Proofs.YtapkoiaeghjpdaaW.PrintMore
open Go.Proofs.YtapkoiaeghjpdaaO
attribute [local go_sem] max2_int min2_int max_two min_two max_three min_three max_four min_four
set_option linter.unusedVariables false
set_option linter.unusedSimpArgs false
section
variable {w0 w w' : World} {R : List Asn} {gc gx gi : Nat} {t : Nat} {s : ByteArray} {p0 : Int × Int}
set_option maxHeartbeats 4000000 in
set_option maxRecDepth 100000 in
theorem rfields1 (h : Own w0 w (Blk gc (.cells #[(.int .u8 1), .int .i64 0, .int .i64 0, .string ⟨#[]⟩, .int .i64 0, .int .i64 0] t (0, 0)) :: Blk gx (.cells #[.pointer (some ⟨gi, 0, none⟩)] 48 (0, 0)) :: InA gi s p0.1 p0.2 :: R)) (i0 : inS s p0) (hs : s.size < 1000000) (p1 p2 p3 p4 : Int × Int) (e1 : rN' s p0 = p1) (e2 : rT' s p1 = p2) (e3 : rI' s p2 = p3) (e4 : rI' s p3 = p4) :
    Calls Try.prog 26 #[.pointer (some ⟨gc, 0, none⟩), .func (.func 27) #[] #[.pointer (some ⟨gx, 0, none⟩)], .func (.func 29) #[] #[.pointer (some ⟨gx, 0, none⟩)], .func (.func 31) #[] #[.pointer (some ⟨gx, 0, none⟩)]] w fun e w' => e = .returned (.bool true) ∧ Own w0 w' (Blk gc (.cells #[(.int .u8 1), .int .i64 (rN s p0), .int .i64 0, .string (rT s p1), .int .i64 (rI s p2), .int .i64 (rI s p3)] t (0, 0)) :: Blk gx (.cells #[.pointer (some ⟨gi, 0, none⟩)] 48 (0, 0)) :: InA gi s p4.1 p4.2 :: R) := by
  have z0 := (blk_cell h.at0 0).trans rfl
  have H0 := Aside0.mk h
  have i1 : inS s p1 := e1 ▸ rN_in i0
  have i2 : inS s p2 := e2 ▸ rT_in hs i1
  have i3 : inS s p3 := e3 ▸ (rI_in i2).1
  have i4 : inS s p4 := e4 ▸ (rI_in i3).1
  have HI0 := Aside0.mk i0
  have HI1 := Aside0.mk i1
  have HI2 := Aside0.mk i2
  have HI3 := Aside0.mk i3
  have HI4 := Aside0.mk i4
  have HE1 := Aside0.mk e1
  have HE2 := Aside0.mk e2
  have HE3 := Aside0.mk e3
  have HE4 := Aside0.mk e4
  have HS := Aside0.mk hs
  clear h hs i0 i1 i2 i3 i4 e1 e2 e3 e4
  go_enter Try.func26, Try.ntmps26
  go_wp2_with (first
    | (go_at_call 27; (with_reducible refine (rnum H0.out 1 (.int .i64 0) rfl HI0.out HS.out p1 HE1.out).mono ?_); rintro e w1 ⟨rfl, h⟩; have H1 := Aside0.mk h; clear h)
    | (go_at_call 31; (with_reducible refine (rtext H1.out 3 (.string ⟨#[]⟩) rfl HI1.out HS.out p2 HE2.out).mono ?_); rintro e w2 ⟨rfl, h⟩; have H2 := Aside0.mk h; clear h)
    | (go_at_call 29; (with_reducible refine (rint H2.out 4 (.int .i64 0) rfl HI2.out HS.out p3 HE3.out).mono ?_); rintro e w3 ⟨rfl, h⟩; have H3 := Aside0.mk h; clear h)
    | (go_at_call 29; (with_reducible refine (rint H3.out 5 (.int .i64 0) rfl HI3.out HS.out p4 HE4.out).mono ?_); rintro e w4 ⟨rfl, h⟩; have H4 := Aside0.mk h; clear h))
  go_ret
  exact ⟨rfl, H4.out⟩
set_option maxHeartbeats 4000000 in
set_option maxRecDepth 100000 in
theorem rfields2 (h : Own w0 w (Blk gc (.cells #[(.int .u8 2), .int .i64 0, .int .i64 0, .string ⟨#[]⟩, .int .i64 0, .int .i64 0] t (0, 0)) :: Blk gx (.cells #[.pointer (some ⟨gi, 0, none⟩)] 48 (0, 0)) :: InA gi s p0.1 p0.2 :: R)) (i0 : inS s p0) (hs : s.size < 1000000) (p1 p2 p3 : Int × Int) (e1 : rN' s p0 = p1) (e2 : rN' s p1 = p2) (e3 : rI' s p2 = p3) :
    Calls Try.prog 26 #[.pointer (some ⟨gc, 0, none⟩), .func (.func 27) #[] #[.pointer (some ⟨gx, 0, none⟩)], .func (.func 29) #[] #[.pointer (some ⟨gx, 0, none⟩)], .func (.func 31) #[] #[.pointer (some ⟨gx, 0, none⟩)]] w fun e w' => e = .returned (.bool true) ∧ Own w0 w' (Blk gc (.cells #[(.int .u8 2), .int .i64 (rN s p0), .int .i64 (rN s p1), .string ⟨#[]⟩, .int .i64 (rI s p2), .int .i64 0] t (0, 0)) :: Blk gx (.cells #[.pointer (some ⟨gi, 0, none⟩)] 48 (0, 0)) :: InA gi s p3.1 p3.2 :: R) := by
  have z0 := (blk_cell h.at0 0).trans rfl
  have H0 := Aside0.mk h
  have i1 : inS s p1 := e1 ▸ rN_in i0
  have i2 : inS s p2 := e2 ▸ rN_in i1
  have i3 : inS s p3 := e3 ▸ (rI_in i2).1
  have HI0 := Aside0.mk i0
  have HI1 := Aside0.mk i1
  have HI2 := Aside0.mk i2
  have HI3 := Aside0.mk i3
  have HE1 := Aside0.mk e1
  have HE2 := Aside0.mk e2
  have HE3 := Aside0.mk e3
  have HS := Aside0.mk hs
  clear h hs i0 i1 i2 i3 e1 e2 e3
  go_enter Try.func26, Try.ntmps26
  go_wp2_with (first
    | (go_at_call 27; (with_reducible refine (rnum H0.out 1 (.int .i64 0) rfl HI0.out HS.out p1 HE1.out).mono ?_); rintro e w1 ⟨rfl, h⟩; have H1 := Aside0.mk h; clear h)
    | (go_at_call 27; (with_reducible refine (rnum H1.out 2 (.int .i64 0) rfl HI1.out HS.out p2 HE2.out).mono ?_); rintro e w2 ⟨rfl, h⟩; have H2 := Aside0.mk h; clear h)
    | (go_at_call 29; (with_reducible refine (rint H2.out 4 (.int .i64 0) rfl HI2.out HS.out p3 HE3.out).mono ?_); rintro e w3 ⟨rfl, h⟩; have H3 := Aside0.mk h; clear h))
  go_ret
  exact ⟨rfl, H3.out⟩
set_option maxHeartbeats 4000000 in
set_option maxRecDepth 100000 in
theorem rfields3 (h : Own w0 w (Blk gc (.cells #[(.int .u8 3), .int .i64 0, .int .i64 0, .string ⟨#[]⟩, .int .i64 0, .int .i64 0] t (0, 0)) :: Blk gx (.cells #[.pointer (some ⟨gi, 0, none⟩)] 48 (0, 0)) :: InA gi s p0.1 p0.2 :: R)) (i0 : inS s p0) (hs : s.size < 1000000) (p1 p2 : Int × Int) (e1 : rN' s p0 = p1) (e2 : rN' s p1 = p2) :
    Calls Try.prog 26 #[.pointer (some ⟨gc, 0, none⟩), .func (.func 27) #[] #[.pointer (some ⟨gx, 0, none⟩)], .func (.func 29) #[] #[.pointer (some ⟨gx, 0, none⟩)], .func (.func 31) #[] #[.pointer (some ⟨gx, 0, none⟩)]] w fun e w' => e = .returned (.bool true) ∧ Own w0 w' (Blk gc (.cells #[(.int .u8 3), .int .i64 (rN s p0), .int .i64 (rN s p1), .string ⟨#[]⟩, .int .i64 0, .int .i64 0] t (0, 0)) :: Blk gx (.cells #[.pointer (some ⟨gi, 0, none⟩)] 48 (0, 0)) :: InA gi s p2.1 p2.2 :: R) := by
  have z0 := (blk_cell h.at0 0).trans rfl
  have H0 := Aside0.mk h
  have i1 : inS s p1 := e1 ▸ rN_in i0
  have i2 : inS s p2 := e2 ▸ rN_in i1
  have HI0 := Aside0.mk i0
  have HI1 := Aside0.mk i1
  have HI2 := Aside0.mk i2
  have HE1 := Aside0.mk e1
  have HE2 := Aside0.mk e2
  have HS := Aside0.mk hs
  clear h hs i0 i1 i2 e1 e2
  go_enter Try.func26, Try.ntmps26
  go_wp2_with (first
    | (go_at_call 27; (with_reducible refine (rnum H0.out 1 (.int .i64 0) rfl HI0.out HS.out p1 HE1.out).mono ?_); rintro e w1 ⟨rfl, h⟩; have H1 := Aside0.mk h; clear h)
    | (go_at_call 27; (with_reducible refine (rnum H1.out 2 (.int .i64 0) rfl HI1.out HS.out p2 HE2.out).mono ?_); rintro e w2 ⟨rfl, h⟩; have H2 := Aside0.mk h; clear h))
  go_ret
  exact ⟨rfl, H2.out⟩
set_option maxHeartbeats 4000000 in
set_option maxRecDepth 100000 in
theorem rfields4 (h : Own w0 w (Blk gc (.cells #[(.int .u8 4), .int .i64 0, .int .i64 0, .string ⟨#[]⟩, .int .i64 0, .int .i64 0] t (0, 0)) :: Blk gx (.cells #[.pointer (some ⟨gi, 0, none⟩)] 48 (0, 0)) :: InA gi s p0.1 p0.2 :: R)) (i0 : inS s p0) (hs : s.size < 1000000) (p1 : Int × Int) (e1 : rN' s p0 = p1) :
    Calls Try.prog 26 #[.pointer (some ⟨gc, 0, none⟩), .func (.func 27) #[] #[.pointer (some ⟨gx, 0, none⟩)], .func (.func 29) #[] #[.pointer (some ⟨gx, 0, none⟩)], .func (.func 31) #[] #[.pointer (some ⟨gx, 0, none⟩)]] w fun e w' => e = .returned (.bool true) ∧ Own w0 w' (Blk gc (.cells #[(.int .u8 4), .int .i64 (rN s p0), .int .i64 0, .string ⟨#[]⟩, .int .i64 0, .int .i64 0] t (0, 0)) :: Blk gx (.cells #[.pointer (some ⟨gi, 0, none⟩)] 48 (0, 0)) :: InA gi s p1.1 p1.2 :: R) := by
  have z0 := (blk_cell h.at0 0).trans rfl
  have H0 := Aside0.mk h
  have i1 : inS s p1 := e1 ▸ rN_in i0
  have HI0 := Aside0.mk i0
  have HI1 := Aside0.mk i1
  have HE1 := Aside0.mk e1
  have HS := Aside0.mk hs
  clear h hs i0 i1 e1
  go_enter Try.func26, Try.ntmps26
  go_wp2_with (first
    | (go_at_call 27; (with_reducible refine (rnum H0.out 1 (.int .i64 0) rfl HI0.out HS.out p1 HE1.out).mono ?_); rintro e w1 ⟨rfl, h⟩; have H1 := Aside0.mk h; clear h))
  go_ret
  exact ⟨rfl, H1.out⟩
set_option maxHeartbeats 4000000 in
set_option maxRecDepth 100000 in
theorem rfields5 (h : Own w0 w (Blk gc (.cells #[(.int .u8 5), .int .i64 0, .int .i64 0, .string ⟨#[]⟩, .int .i64 0, .int .i64 0] t (0, 0)) :: Blk gx (.cells #[.pointer (some ⟨gi, 0, none⟩)] 48 (0, 0)) :: InA gi s p0.1 p0.2 :: R)) (i0 : inS s p0) (hs : s.size < 1000000) (p1 : Int × Int) (e1 : rN' s p0 = p1) :
    Calls Try.prog 26 #[.pointer (some ⟨gc, 0, none⟩), .func (.func 27) #[] #[.pointer (some ⟨gx, 0, none⟩)], .func (.func 29) #[] #[.pointer (some ⟨gx, 0, none⟩)], .func (.func 31) #[] #[.pointer (some ⟨gx, 0, none⟩)]] w fun e w' => e = .returned (.bool true) ∧ Own w0 w' (Blk gc (.cells #[(.int .u8 5), .int .i64 (rN s p0), .int .i64 0, .string ⟨#[]⟩, .int .i64 0, .int .i64 0] t (0, 0)) :: Blk gx (.cells #[.pointer (some ⟨gi, 0, none⟩)] 48 (0, 0)) :: InA gi s p1.1 p1.2 :: R) := by
  have z0 := (blk_cell h.at0 0).trans rfl
  have H0 := Aside0.mk h
  have i1 : inS s p1 := e1 ▸ rN_in i0
  have HI0 := Aside0.mk i0
  have HI1 := Aside0.mk i1
  have HE1 := Aside0.mk e1
  have HS := Aside0.mk hs
  clear h hs i0 i1 e1
  go_enter Try.func26, Try.ntmps26
  go_wp2_with (first
    | (go_at_call 27; (with_reducible refine (rnum H0.out 1 (.int .i64 0) rfl HI0.out HS.out p1 HE1.out).mono ?_); rintro e w1 ⟨rfl, h⟩; have H1 := Aside0.mk h; clear h))
  go_ret
  exact ⟨rfl, H1.out⟩
set_option maxHeartbeats 4000000 in
set_option maxRecDepth 100000 in
theorem rfields6 (h : Own w0 w (Blk gc (.cells #[(.int .u8 6), .int .i64 0, .int .i64 0, .string ⟨#[]⟩, .int .i64 0, .int .i64 0] t (0, 0)) :: Blk gx (.cells #[.pointer (some ⟨gi, 0, none⟩)] 48 (0, 0)) :: InA gi s p0.1 p0.2 :: R)) (i0 : inS s p0) (hs : s.size < 1000000) (p1 : Int × Int) (e1 : rN' s p0 = p1) :
    Calls Try.prog 26 #[.pointer (some ⟨gc, 0, none⟩), .func (.func 27) #[] #[.pointer (some ⟨gx, 0, none⟩)], .func (.func 29) #[] #[.pointer (some ⟨gx, 0, none⟩)], .func (.func 31) #[] #[.pointer (some ⟨gx, 0, none⟩)]] w fun e w' => e = .returned (.bool true) ∧ Own w0 w' (Blk gc (.cells #[(.int .u8 6), .int .i64 (rN s p0), .int .i64 0, .string ⟨#[]⟩, .int .i64 0, .int .i64 0] t (0, 0)) :: Blk gx (.cells #[.pointer (some ⟨gi, 0, none⟩)] 48 (0, 0)) :: InA gi s p1.1 p1.2 :: R) := by
  have z0 := (blk_cell h.at0 0).trans rfl
  have H0 := Aside0.mk h
  have i1 : inS s p1 := e1 ▸ rN_in i0
  have HI0 := Aside0.mk i0
  have HI1 := Aside0.mk i1
  have HE1 := Aside0.mk e1
  have HS := Aside0.mk hs
  clear h hs i0 i1 e1
  go_enter Try.func26, Try.ntmps26
  go_wp2_with (first
    | (go_at_call 27; (with_reducible refine (rnum H0.out 1 (.int .i64 0) rfl HI0.out HS.out p1 HE1.out).mono ?_); rintro e w1 ⟨rfl, h⟩; have H1 := Aside0.mk h; clear h))
  go_ret
  exact ⟨rfl, H1.out⟩
set_option maxHeartbeats 4000000 in
set_option maxRecDepth 100000 in
theorem rfields7 (h : Own w0 w (Blk gc (.cells #[(.int .u8 7), .int .i64 0, .int .i64 0, .string ⟨#[]⟩, .int .i64 0, .int .i64 0] t (0, 0)) :: Blk gx (.cells #[.pointer (some ⟨gi, 0, none⟩)] 48 (0, 0)) :: InA gi s p0.1 p0.2 :: R)) (i0 : inS s p0) (hs : s.size < 1000000) (p1 : Int × Int) (e1 : rN' s p0 = p1) :
    Calls Try.prog 26 #[.pointer (some ⟨gc, 0, none⟩), .func (.func 27) #[] #[.pointer (some ⟨gx, 0, none⟩)], .func (.func 29) #[] #[.pointer (some ⟨gx, 0, none⟩)], .func (.func 31) #[] #[.pointer (some ⟨gx, 0, none⟩)]] w fun e w' => e = .returned (.bool true) ∧ Own w0 w' (Blk gc (.cells #[(.int .u8 7), .int .i64 (rN s p0), .int .i64 0, .string ⟨#[]⟩, .int .i64 0, .int .i64 0] t (0, 0)) :: Blk gx (.cells #[.pointer (some ⟨gi, 0, none⟩)] 48 (0, 0)) :: InA gi s p1.1 p1.2 :: R) := by
  have z0 := (blk_cell h.at0 0).trans rfl
  have H0 := Aside0.mk h
  have i1 : inS s p1 := e1 ▸ rN_in i0
  have HI0 := Aside0.mk i0
  have HI1 := Aside0.mk i1
  have HE1 := Aside0.mk e1
  have HS := Aside0.mk hs
  clear h hs i0 i1 e1
  go_enter Try.func26, Try.ntmps26
  go_wp2_with (first
    | (go_at_call 27; (with_reducible refine (rnum H0.out 1 (.int .i64 0) rfl HI0.out HS.out p1 HE1.out).mono ?_); rintro e w1 ⟨rfl, h⟩; have H1 := Aside0.mk h; clear h))
  go_ret
  exact ⟨rfl, H1.out⟩
set_option maxHeartbeats 4000000 in
set_option maxRecDepth 100000 in
theorem rfields8 (h : Own w0 w (Blk gc (.cells #[(.int .u8 8), .int .i64 0, .int .i64 0, .string ⟨#[]⟩, .int .i64 0, .int .i64 0] t (0, 0)) :: Blk gx (.cells #[.pointer (some ⟨gi, 0, none⟩)] 48 (0, 0)) :: InA gi s p0.1 p0.2 :: R)) (i0 : inS s p0) (hs : s.size < 1000000) (p1 : Int × Int) (e1 : rN' s p0 = p1) :
    Calls Try.prog 26 #[.pointer (some ⟨gc, 0, none⟩), .func (.func 27) #[] #[.pointer (some ⟨gx, 0, none⟩)], .func (.func 29) #[] #[.pointer (some ⟨gx, 0, none⟩)], .func (.func 31) #[] #[.pointer (some ⟨gx, 0, none⟩)]] w fun e w' => e = .returned (.bool true) ∧ Own w0 w' (Blk gc (.cells #[(.int .u8 8), .int .i64 (rN s p0), .int .i64 0, .string ⟨#[]⟩, .int .i64 0, .int .i64 0] t (0, 0)) :: Blk gx (.cells #[.pointer (some ⟨gi, 0, none⟩)] 48 (0, 0)) :: InA gi s p1.1 p1.2 :: R) := by
  have z0 := (blk_cell h.at0 0).trans rfl
  have H0 := Aside0.mk h
  have i1 : inS s p1 := e1 ▸ rN_in i0
  have HI0 := Aside0.mk i0
  have HI1 := Aside0.mk i1
  have HE1 := Aside0.mk e1
  have HS := Aside0.mk hs
  clear h hs i0 i1 e1
  go_enter Try.func26, Try.ntmps26
  go_wp2_with (first
    | (go_at_call 27; (with_reducible refine (rnum H0.out 1 (.int .i64 0) rfl HI0.out HS.out p1 HE1.out).mono ?_); rintro e w1 ⟨rfl, h⟩; have H1 := Aside0.mk h; clear h))
  go_ret
  exact ⟨rfl, H1.out⟩
end
end Go.Proofs.Ytapkoiaeghjpdaa.PScriptWrites
