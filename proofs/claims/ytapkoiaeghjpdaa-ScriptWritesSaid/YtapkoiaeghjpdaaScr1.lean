/- Acts as bytes (package script): what write's closures do. -/
import Derived.Test.YtapkoiaeghjpdaaPack5
namespace Go.Proofs.Ytapkoiaeghjpdaa.PScriptWrites
open Go.RowKit Go.Proofs.YtapkoiaeghjpdaaW.PrintWords Go.Proofs.YtapkoiaeghjpdaaW.PrintLast Go.Proofs.YtapkoiaeghjpdaaW.PrintMore
open Go.Proofs.YtapkoiaeghjpdaaO
attribute [local go_sem] max2_int min2_int max_two min_two max_three min_three max_four min_four
set_option linter.unusedVariables false
set_option linter.unusedSimpArgs false
abbrev ActS := S33
/-- An int as a uint64. -/
def uN (x : Int) : Nat := (x % 18446744073709551616).toNat
theorem uN_lt (x : Int) : uN x < 2 ^ 64 := by unfold uN; omega
theorem uN_is (x : Int) : IntKind.u64.wrap x = ((uN x : Nat) : Int) := by unfold uN; simp only [IntKind.wrap, IntKind.bits, IntKind.signed]; simp; omega
theorem uN_of (x : Int) (h0 : 0 ≤ x) (h1 : x < 18446744073709551616) : ((uN x : Nat) : Int) = x := by unfold uN; omega
def numOk (x : Int) : Bool := decide (0 ≤ x) && decide (x ≤ 2147483647)
def textOk (s : ByteArray) : Bool := decide (s.size ≤ 255)
theorem len_ok {a : Nat} (h : a < 10000000000) : a < 10000000000 := h
theorem numB_len10 (n : Nat) (h : n < 2 ^ 64) : (numB n).length ≤ 10 := (numB_len n 10 (pow10 n h)).2
section
variable {w0 w w' : World} {R : List Asn} {gc gok go : Nat} {cs : Array Value} {ok : Bool} {l : List Int} {t : Nat}
set_option maxHeartbeats 4000000 in
set_option maxRecDepth 100000 in
theorem wnum (h : Own w0 w (Blk gc (.cells cs t (0, 0)) :: Blk gok (.cells #[.bool ok] 4 (0, 0)) :: Out go l :: R)) (k : Nat) (x : Int) (hk : cs[k]? = some (.int .i64 x)) (hl : l.length < 10000000000) :
    Calls Try.prog 41 #[.pointer (some ⟨gc, k, none⟩), .pointer (some ⟨gok, 0, none⟩), .pointer (some ⟨go, 0, none⟩)] w fun e w' => e = .returned (.tuple #[]) ∧ Own w0 w' (Blk gc (.cells (cs.setIfInBounds k (.int .i64 0)) t (0, 0)) :: Blk gok (.cells #[.bool (ok && numOk x)] 4 (0, 0)) :: Out go (l ++ numB (uN x)) :: R) := by
  have z1 : w.cell? ⟨gok, 0, none⟩ = some (.bool ok) := (blk_cell h.at1 0).trans rfl
  have f1 := blk_frozen h.at1 0
  have zk : w.cell? ⟨gc, k, none⟩ = some (.int .i64 x) := (blk_cell h.at0 k).trans hk
  have hu := uN_is x
  have HK := Lib.hid hk
  have HL := Aside0.mk (show l.length < 10000000000000 by omega)
  have HU := Aside0.mk (uN_lt x)
  clear hk
  go_enter Try.func41, Try.ntmps41
  cases ok with
  | false =>
    have HE := Lib.hid (show (false && numOk x) = false from rfl)
    have h2 := (h.r1.set 0 (.bool false)).r1
    have zk2 := (blk_cell h2.at0 k).trans HK.out
    have H2 := Aside0.mk h2
    clear h2 h
    go_wp2_with (go_at_call 42; (with_reducible refine (OutNum H2.out.r2 ((uN x : Nat) : Int) (uN x) rfl HU.out HL.out).mono ?_); rintro e w6 ⟨rfl, h⟩; have H6 := Aside0.mk h.r1; have zk6 := (blk_cell h.at1 k).trans HK.out; have fk6 := blk_frozen h.at1 k; clear h)
    go_end0
    exact ⟨rfl, by rw [HE.out]; exact (H6.out.set k (.int .i64 0)).r1.r2.r2⟩
  | true =>
    by_cases c0 : 0 ≤ x
    · have d0 : decide (x ≥ 0) = true := decide_eq_true c0
      have d0b : decide (0 ≤ x) = true := decide_eq_true c0
      by_cases c1 : x ≤ 2147483647
      · have d1 : decide (x ≤ 2147483647) = true := decide_eq_true c1
        have HE := Lib.hid (show (true && numOk x) = true from by unfold numOk; rw [d0b, d1]; rfl)
        have h2 := (h.r1.set 0 (.bool true)).r1
        have zk2 := (blk_cell h2.at0 k).trans HK.out
        have H2 := Aside0.mk h2
        clear h2 h
        go_wp2_with (go_at_call 42; (with_reducible refine (OutNum H2.out.r2 ((uN x : Nat) : Int) (uN x) rfl HU.out HL.out).mono ?_); rintro e w6 ⟨rfl, h⟩; have H6 := Aside0.mk h.r1; have zk6 := (blk_cell h.at1 k).trans HK.out; have fk6 := blk_frozen h.at1 k; clear h)
        go_end0
        exact ⟨rfl, by rw [HE.out]; exact (H6.out.set k (.int .i64 0)).r1.r2.r2⟩
      · have d1 : decide (x ≤ 2147483647) = false := decide_eq_false c1
        have HE := Lib.hid (show (true && numOk x) = false from by unfold numOk; rw [d0b, d1]; rfl)
        have h2 := (h.r1.set 0 (.bool false)).r1
        have zk2 := (blk_cell h2.at0 k).trans HK.out
        have H2 := Aside0.mk h2
        clear h2 h
        go_wp2_with (go_at_call 42; (with_reducible refine (OutNum H2.out.r2 ((uN x : Nat) : Int) (uN x) rfl HU.out HL.out).mono ?_); rintro e w6 ⟨rfl, h⟩; have H6 := Aside0.mk h.r1; have zk6 := (blk_cell h.at1 k).trans HK.out; have fk6 := blk_frozen h.at1 k; clear h)
        go_end0
        exact ⟨rfl, by rw [HE.out]; exact (H6.out.set k (.int .i64 0)).r1.r2.r2⟩
    · have d0 : decide (x ≥ 0) = false := decide_eq_false c0
      have d0b : decide (0 ≤ x) = false := decide_eq_false c0
      have HE := Lib.hid (show (true && numOk x) = false from by unfold numOk; rw [d0b]; rfl)
      have h2 := (h.r1.set 0 (.bool false)).r1
      have zk2 := (blk_cell h2.at0 k).trans HK.out
      have H2 := Aside0.mk h2
      clear h2 h
      go_wp2_with (go_at_call 42; (with_reducible refine (OutNum H2.out.r2 ((uN x : Nat) : Int) (uN x) rfl HU.out HL.out).mono ?_); rintro e w6 ⟨rfl, h⟩; have H6 := Aside0.mk h.r1; have zk6 := (blk_cell h.at1 k).trans HK.out; have fk6 := blk_frozen h.at1 k; clear h)
      go_end0
      exact ⟨rfl, by rw [HE.out]; exact (H6.out.set k (.int .i64 0)).r1.r2.r2⟩
set_option maxHeartbeats 4000000 in
set_option maxRecDepth 100000 in
theorem wint (h : Own w0 w (Blk gc (.cells cs t (0, 0)) :: Blk gok (.cells #[.bool ok] 4 (0, 0)) :: Out go l :: R)) (k : Nat) (x : Int) (hk : cs[k]? = some (.int .i64 x)) (hx0 : -(2^63) ≤ x) (hx1 : x < 2 ^ 63) (hl : l.length < 10000000000) :
    Calls Try.prog 43 #[.pointer (some ⟨gc, k, none⟩), .pointer (some ⟨go, 0, none⟩)] w fun e w' => e = .returned (.tuple #[]) ∧ Own w0 w' (Blk gc (.cells (cs.setIfInBounds k (.int .i64 0)) t (0, 0)) :: Blk gok (.cells #[.bool (ok)] 4 (0, 0)) :: Out go (l ++ numB (zigN x)) :: R) := by
  have zk : w.cell? ⟨gc, k, none⟩ = some (.int .i64 x) := (blk_cell h.at0 k).trans hk
  have HK := Lib.hid hk
  have HL := Aside0.mk (show l.length < 10000000000000 by omega)
  have H := Aside0.mk h
  have HX := Aside0.mk (And.intro hx0 hx1)
  clear hk h hx0 hx1
  go_enter Try.func43, Try.ntmps43
  go_wp2_with (go_at_call 44; (with_reducible refine (OutInt H.out.r2 x HX.out.1 HX.out.2 HL.out).mono ?_); rintro e w6 ⟨rfl, h⟩; have H6 := Aside0.mk h.r1; have zk6 := (blk_cell h.at1 k).trans HK.out; have fk6 := blk_frozen h.at1 k; clear h)
  go_end0
  exact ⟨rfl, (H6.out.set k (.int .i64 0)).r1.r2.r2⟩
set_option maxHeartbeats 4000000 in
set_option maxRecDepth 100000 in
theorem wtext (h : Own w0 w (Blk gc (.cells cs t (0, 0)) :: Blk gok (.cells #[.bool ok] 4 (0, 0)) :: Out go l :: R)) (k : Nat) (s : ByteArray) (hk : cs[k]? = some (.string s)) (hs : s.size < 1000000) (hl : l.length < 10000000000) :
    Calls Try.prog 45 #[.pointer (some ⟨gc, k, none⟩), .pointer (some ⟨gok, 0, none⟩), .pointer (some ⟨go, 0, none⟩)] w fun e w' => e = .returned (.tuple #[]) ∧ Own w0 w' (Blk gc (.cells (cs.setIfInBounds k (.string ⟨#[]⟩)) t (0, 0)) :: Blk gok (.cells #[.bool (ok && textOk s)] 4 (0, 0)) :: Out go (l ++ (numB s.size ++ bytesOf s)) :: R) := by
  have z1 : w.cell? ⟨gok, 0, none⟩ = some (.bool ok) := (blk_cell h.at1 0).trans rfl
  have f1 := blk_frozen h.at1 0
  have zk : w.cell? ⟨gc, k, none⟩ = some (.string s) := (blk_cell h.at0 k).trans hk
  have HK := Lib.hid hk
  have HL := Aside0.mk (show l.length < 1000000000000 by omega)
  have HS := Aside0.mk hs
  clear hk hs
  go_enter Try.func45, Try.ntmps45
  cases ok with
  | false =>
    have HE := Lib.hid (show (false && textOk s) = false from rfl)
    have h2 := (h.r1.set 0 (.bool false)).r1
    have zk2 := (blk_cell h2.at0 k).trans HK.out
    have H2 := Aside0.mk h2
    clear h2 h
    go_wp2_with (go_at_call 46; (with_reducible refine (OutText H2.out.r2 s HS.out HL.out).mono ?_); rintro e w6 ⟨rfl, h⟩; have H6 := Aside0.mk h.r1; have zk6 := (blk_cell h.at1 k).trans HK.out; have fk6 := blk_frozen h.at1 k; clear h)
    go_end0
    exact ⟨rfl, by rw [HE.out]; exact (H6.out.set k (.string ⟨#[]⟩)).r1.r2.r2⟩
  | true =>
    by_cases c1 : s.size ≤ 255
    · have d1 : decide (s.size ≤ 255) = true := decide_eq_true c1
      have d1b : decide ((s.size : Int) ≤ 255) = true := decide_eq_true (by omega)
      have HE := Lib.hid (show (true && textOk s) = true from by unfold textOk; rw [d1]; rfl)
      have h2 := (h.r1.set 0 (.bool true)).r1
      have zk2 := (blk_cell h2.at0 k).trans HK.out
      have H2 := Aside0.mk h2
      clear h2 h
      go_wp2_with (go_at_call 46; (with_reducible refine (OutText H2.out.r2 s HS.out HL.out).mono ?_); rintro e w6 ⟨rfl, h⟩; have H6 := Aside0.mk h.r1; have zk6 := (blk_cell h.at1 k).trans HK.out; have fk6 := blk_frozen h.at1 k; clear h)
      go_end0
      exact ⟨rfl, by rw [HE.out]; exact (H6.out.set k (.string ⟨#[]⟩)).r1.r2.r2⟩
    · have d1 : decide (s.size ≤ 255) = false := decide_eq_false c1
      have d1b : decide ((s.size : Int) ≤ 255) = false := decide_eq_false (by omega)
      have HE := Lib.hid (show (true && textOk s) = false from by unfold textOk; rw [d1]; rfl)
      have h2 := (h.r1.set 0 (.bool false)).r1
      have zk2 := (blk_cell h2.at0 k).trans HK.out
      have H2 := Aside0.mk h2
      clear h2 h
      go_wp2_with (go_at_call 46; (with_reducible refine (OutText H2.out.r2 s HS.out HL.out).mono ?_); rintro e w6 ⟨rfl, h⟩; have H6 := Aside0.mk h.r1; have zk6 := (blk_cell h.at1 k).trans HK.out; have fk6 := blk_frozen h.at1 k; clear h)
      go_end0
      exact ⟨rfl, by rw [HE.out]; exact (H6.out.set k (.string ⟨#[]⟩)).r1.r2.r2⟩
set_option maxHeartbeats 4000000 in
set_option maxRecDepth 100000 in
theorem wfields1 {f1 f2 f4 f5 : Int} {f3 : ByteArray} (h : Own w0 w (Blk gc (.cells #[(.int .u8 1), .int .i64 f1, .int .i64 f2, .string f3, .int .i64 f4, .int .i64 f5] t (0, 0)) :: Blk gok (.cells #[.bool true] 4 (0, 0)) :: Out go l :: R)) (hx4 : -(2^63) ≤ f4 ∧ f4 < 2 ^ 63) (hx5 : -(2^63) ≤ f5 ∧ f5 < 2 ^ 63) (hs : f3.size < 1000000) (hl : l.length ≤ 1) :
    Calls Try.prog 26 #[.pointer (some ⟨gc, 0, none⟩), .func (.func 41) #[] #[.pointer (some ⟨gok, 0, none⟩), .pointer (some ⟨go, 0, none⟩)], .func (.func 43) #[] #[.pointer (some ⟨go, 0, none⟩)], .func (.func 45) #[] #[.pointer (some ⟨gok, 0, none⟩), .pointer (some ⟨go, 0, none⟩)]] w fun e w' => e = .returned (.bool true) ∧ Own w0 w' (Blk gc (.cells #[(.int .u8 1), .int .i64 0, .int .i64 f2, .string ⟨#[]⟩, .int .i64 0, .int .i64 0] t (0, 0)) :: Blk gok (.cells #[.bool ((true && numOk f1) && textOk f3)] 4 (0, 0)) :: Out go ((((l ++ numB (uN f1)) ++ (numB f3.size ++ bytesOf f3)) ++ numB (zigN f4)) ++ numB (zigN f5)) :: R) := by
  have z0 := (blk_cell h.at0 0).trans rfl
  have H0 := Aside0.mk h
  have HX4 := Aside0.mk hx4
  have HX5 := Aside0.mk hx5
  have HS := Aside0.mk hs
  have HL0 := Aside0.mk (show (l).length < 10000000000 from len_ok (by (try simp only [List.length_append]); have a1 := numB_len10 (uN f1) (uN_lt f1); have a2 := numB_len10 (uN f2) (uN_lt f2); have a3 := numB_len10 f3.size (by omega); have a4 := numB_len10 (zigN f4) (zigN_lt f4 hx4.1 hx4.2); have a5 := numB_len10 (zigN f5) (zigN_lt f5 hx5.1 hx5.2); have a6 := bytesOf_length f3; omega))
  have HL1 := Aside0.mk (show ((l ++ numB (uN f1))).length < 10000000000 from len_ok (by (try simp only [List.length_append]); have a1 := numB_len10 (uN f1) (uN_lt f1); have a2 := numB_len10 (uN f2) (uN_lt f2); have a3 := numB_len10 f3.size (by omega); have a4 := numB_len10 (zigN f4) (zigN_lt f4 hx4.1 hx4.2); have a5 := numB_len10 (zigN f5) (zigN_lt f5 hx5.1 hx5.2); have a6 := bytesOf_length f3; omega))
  have HL2 := Aside0.mk (show (((l ++ numB (uN f1)) ++ (numB f3.size ++ bytesOf f3))).length < 10000000000 from len_ok (by (try simp only [List.length_append]); have a1 := numB_len10 (uN f1) (uN_lt f1); have a2 := numB_len10 (uN f2) (uN_lt f2); have a3 := numB_len10 f3.size (by omega); have a4 := numB_len10 (zigN f4) (zigN_lt f4 hx4.1 hx4.2); have a5 := numB_len10 (zigN f5) (zigN_lt f5 hx5.1 hx5.2); have a6 := bytesOf_length f3; omega))
  have HL3 := Aside0.mk (show ((((l ++ numB (uN f1)) ++ (numB f3.size ++ bytesOf f3)) ++ numB (zigN f4))).length < 10000000000 from len_ok (by (try simp only [List.length_append]); have a1 := numB_len10 (uN f1) (uN_lt f1); have a2 := numB_len10 (uN f2) (uN_lt f2); have a3 := numB_len10 f3.size (by omega); have a4 := numB_len10 (zigN f4) (zigN_lt f4 hx4.1 hx4.2); have a5 := numB_len10 (zigN f5) (zigN_lt f5 hx5.1 hx5.2); have a6 := bytesOf_length f3; omega))
  clear h hx4 hx5
  go_enter Try.func26, Try.ntmps26
  go_wp2_with (first
    | (go_at_call 41; (with_reducible refine (wnum H0.out 1 f1 rfl HL0.out).mono ?_); rintro e w1 ⟨rfl, h⟩; have H1 := Aside0.mk h; clear h)
    | (go_at_call 45; (with_reducible refine (wtext H1.out 3 f3 rfl HS.out HL1.out).mono ?_); rintro e w2 ⟨rfl, h⟩; have H2 := Aside0.mk h; clear h)
    | (go_at_call 43; (with_reducible refine (wint H2.out 4 f4 rfl HX4.out.1 HX4.out.2 HL2.out).mono ?_); rintro e w3 ⟨rfl, h⟩; have H3 := Aside0.mk h; clear h)
    | (go_at_call 43; (with_reducible refine (wint H3.out 5 f5 rfl HX5.out.1 HX5.out.2 HL3.out).mono ?_); rintro e w4 ⟨rfl, h⟩; have H4 := Aside0.mk h; clear h))
  go_ret
  exact ⟨rfl, H4.out⟩
set_option maxHeartbeats 4000000 in
set_option maxRecDepth 100000 in
theorem wfields2 {f1 f2 f4 f5 : Int} {f3 : ByteArray} (h : Own w0 w (Blk gc (.cells #[(.int .u8 2), .int .i64 f1, .int .i64 f2, .string f3, .int .i64 f4, .int .i64 f5] t (0, 0)) :: Blk gok (.cells #[.bool true] 4 (0, 0)) :: Out go l :: R)) (hx4 : -(2^63) ≤ f4 ∧ f4 < 2 ^ 63) (hx5 : -(2^63) ≤ f5 ∧ f5 < 2 ^ 63) (hs : f3.size < 1000000) (hl : l.length ≤ 1) :
    Calls Try.prog 26 #[.pointer (some ⟨gc, 0, none⟩), .func (.func 41) #[] #[.pointer (some ⟨gok, 0, none⟩), .pointer (some ⟨go, 0, none⟩)], .func (.func 43) #[] #[.pointer (some ⟨go, 0, none⟩)], .func (.func 45) #[] #[.pointer (some ⟨gok, 0, none⟩), .pointer (some ⟨go, 0, none⟩)]] w fun e w' => e = .returned (.bool true) ∧ Own w0 w' (Blk gc (.cells #[(.int .u8 2), .int .i64 0, .int .i64 0, .string f3, .int .i64 0, .int .i64 f5] t (0, 0)) :: Blk gok (.cells #[.bool ((true && numOk f1) && numOk f2)] 4 (0, 0)) :: Out go (((l ++ numB (uN f1)) ++ numB (uN f2)) ++ numB (zigN f4)) :: R) := by
  have z0 := (blk_cell h.at0 0).trans rfl
  have H0 := Aside0.mk h
  have HX4 := Aside0.mk hx4
  have HX5 := Aside0.mk hx5
  have HS := Aside0.mk hs
  have HL0 := Aside0.mk (show (l).length < 10000000000 from len_ok (by (try simp only [List.length_append]); have a1 := numB_len10 (uN f1) (uN_lt f1); have a2 := numB_len10 (uN f2) (uN_lt f2); have a3 := numB_len10 f3.size (by omega); have a4 := numB_len10 (zigN f4) (zigN_lt f4 hx4.1 hx4.2); have a5 := numB_len10 (zigN f5) (zigN_lt f5 hx5.1 hx5.2); have a6 := bytesOf_length f3; omega))
  have HL1 := Aside0.mk (show ((l ++ numB (uN f1))).length < 10000000000 from len_ok (by (try simp only [List.length_append]); have a1 := numB_len10 (uN f1) (uN_lt f1); have a2 := numB_len10 (uN f2) (uN_lt f2); have a3 := numB_len10 f3.size (by omega); have a4 := numB_len10 (zigN f4) (zigN_lt f4 hx4.1 hx4.2); have a5 := numB_len10 (zigN f5) (zigN_lt f5 hx5.1 hx5.2); have a6 := bytesOf_length f3; omega))
  have HL2 := Aside0.mk (show (((l ++ numB (uN f1)) ++ numB (uN f2))).length < 10000000000 from len_ok (by (try simp only [List.length_append]); have a1 := numB_len10 (uN f1) (uN_lt f1); have a2 := numB_len10 (uN f2) (uN_lt f2); have a3 := numB_len10 f3.size (by omega); have a4 := numB_len10 (zigN f4) (zigN_lt f4 hx4.1 hx4.2); have a5 := numB_len10 (zigN f5) (zigN_lt f5 hx5.1 hx5.2); have a6 := bytesOf_length f3; omega))
  clear h hx4 hx5
  go_enter Try.func26, Try.ntmps26
  go_wp2_with (first
    | (go_at_call 41; (with_reducible refine (wnum H0.out 1 f1 rfl HL0.out).mono ?_); rintro e w1 ⟨rfl, h⟩; have H1 := Aside0.mk h; clear h)
    | (go_at_call 41; (with_reducible refine (wnum H1.out 2 f2 rfl HL1.out).mono ?_); rintro e w2 ⟨rfl, h⟩; have H2 := Aside0.mk h; clear h)
    | (go_at_call 43; (with_reducible refine (wint H2.out 4 f4 rfl HX4.out.1 HX4.out.2 HL2.out).mono ?_); rintro e w3 ⟨rfl, h⟩; have H3 := Aside0.mk h; clear h))
  go_ret
  exact ⟨rfl, H3.out⟩
set_option maxHeartbeats 4000000 in
set_option maxRecDepth 100000 in
theorem wfields3 {f1 f2 f4 f5 : Int} {f3 : ByteArray} (h : Own w0 w (Blk gc (.cells #[(.int .u8 3), .int .i64 f1, .int .i64 f2, .string f3, .int .i64 f4, .int .i64 f5] t (0, 0)) :: Blk gok (.cells #[.bool true] 4 (0, 0)) :: Out go l :: R)) (hx4 : -(2^63) ≤ f4 ∧ f4 < 2 ^ 63) (hx5 : -(2^63) ≤ f5 ∧ f5 < 2 ^ 63) (hs : f3.size < 1000000) (hl : l.length ≤ 1) :
    Calls Try.prog 26 #[.pointer (some ⟨gc, 0, none⟩), .func (.func 41) #[] #[.pointer (some ⟨gok, 0, none⟩), .pointer (some ⟨go, 0, none⟩)], .func (.func 43) #[] #[.pointer (some ⟨go, 0, none⟩)], .func (.func 45) #[] #[.pointer (some ⟨gok, 0, none⟩), .pointer (some ⟨go, 0, none⟩)]] w fun e w' => e = .returned (.bool true) ∧ Own w0 w' (Blk gc (.cells #[(.int .u8 3), .int .i64 0, .int .i64 0, .string f3, .int .i64 f4, .int .i64 f5] t (0, 0)) :: Blk gok (.cells #[.bool ((true && numOk f1) && numOk f2)] 4 (0, 0)) :: Out go ((l ++ numB (uN f1)) ++ numB (uN f2)) :: R) := by
  have z0 := (blk_cell h.at0 0).trans rfl
  have H0 := Aside0.mk h
  have HX4 := Aside0.mk hx4
  have HX5 := Aside0.mk hx5
  have HS := Aside0.mk hs
  have HL0 := Aside0.mk (show (l).length < 10000000000 from len_ok (by (try simp only [List.length_append]); have a1 := numB_len10 (uN f1) (uN_lt f1); have a2 := numB_len10 (uN f2) (uN_lt f2); have a3 := numB_len10 f3.size (by omega); have a4 := numB_len10 (zigN f4) (zigN_lt f4 hx4.1 hx4.2); have a5 := numB_len10 (zigN f5) (zigN_lt f5 hx5.1 hx5.2); have a6 := bytesOf_length f3; omega))
  have HL1 := Aside0.mk (show ((l ++ numB (uN f1))).length < 10000000000 from len_ok (by (try simp only [List.length_append]); have a1 := numB_len10 (uN f1) (uN_lt f1); have a2 := numB_len10 (uN f2) (uN_lt f2); have a3 := numB_len10 f3.size (by omega); have a4 := numB_len10 (zigN f4) (zigN_lt f4 hx4.1 hx4.2); have a5 := numB_len10 (zigN f5) (zigN_lt f5 hx5.1 hx5.2); have a6 := bytesOf_length f3; omega))
  clear h hx4 hx5
  go_enter Try.func26, Try.ntmps26
  go_wp2_with (first
    | (go_at_call 41; (with_reducible refine (wnum H0.out 1 f1 rfl HL0.out).mono ?_); rintro e w1 ⟨rfl, h⟩; have H1 := Aside0.mk h; clear h)
    | (go_at_call 41; (with_reducible refine (wnum H1.out 2 f2 rfl HL1.out).mono ?_); rintro e w2 ⟨rfl, h⟩; have H2 := Aside0.mk h; clear h))
  go_ret
  exact ⟨rfl, H2.out⟩
set_option maxHeartbeats 4000000 in
set_option maxRecDepth 100000 in
theorem wfields4 {f1 f2 f4 f5 : Int} {f3 : ByteArray} (h : Own w0 w (Blk gc (.cells #[(.int .u8 4), .int .i64 f1, .int .i64 f2, .string f3, .int .i64 f4, .int .i64 f5] t (0, 0)) :: Blk gok (.cells #[.bool true] 4 (0, 0)) :: Out go l :: R)) (hx4 : -(2^63) ≤ f4 ∧ f4 < 2 ^ 63) (hx5 : -(2^63) ≤ f5 ∧ f5 < 2 ^ 63) (hs : f3.size < 1000000) (hl : l.length ≤ 1) :
    Calls Try.prog 26 #[.pointer (some ⟨gc, 0, none⟩), .func (.func 41) #[] #[.pointer (some ⟨gok, 0, none⟩), .pointer (some ⟨go, 0, none⟩)], .func (.func 43) #[] #[.pointer (some ⟨go, 0, none⟩)], .func (.func 45) #[] #[.pointer (some ⟨gok, 0, none⟩), .pointer (some ⟨go, 0, none⟩)]] w fun e w' => e = .returned (.bool true) ∧ Own w0 w' (Blk gc (.cells #[(.int .u8 4), .int .i64 0, .int .i64 f2, .string f3, .int .i64 f4, .int .i64 f5] t (0, 0)) :: Blk gok (.cells #[.bool (true && numOk f1)] 4 (0, 0)) :: Out go (l ++ numB (uN f1)) :: R) := by
  have z0 := (blk_cell h.at0 0).trans rfl
  have H0 := Aside0.mk h
  have HX4 := Aside0.mk hx4
  have HX5 := Aside0.mk hx5
  have HS := Aside0.mk hs
  have HL0 := Aside0.mk (show (l).length < 10000000000 from len_ok (by (try simp only [List.length_append]); have a1 := numB_len10 (uN f1) (uN_lt f1); have a2 := numB_len10 (uN f2) (uN_lt f2); have a3 := numB_len10 f3.size (by omega); have a4 := numB_len10 (zigN f4) (zigN_lt f4 hx4.1 hx4.2); have a5 := numB_len10 (zigN f5) (zigN_lt f5 hx5.1 hx5.2); have a6 := bytesOf_length f3; omega))
  clear h hx4 hx5
  go_enter Try.func26, Try.ntmps26
  go_wp2_with (first
    | (go_at_call 41; (with_reducible refine (wnum H0.out 1 f1 rfl HL0.out).mono ?_); rintro e w1 ⟨rfl, h⟩; have H1 := Aside0.mk h; clear h))
  go_ret
  exact ⟨rfl, H1.out⟩
set_option maxHeartbeats 4000000 in
set_option maxRecDepth 100000 in
theorem wfields5 {f1 f2 f4 f5 : Int} {f3 : ByteArray} (h : Own w0 w (Blk gc (.cells #[(.int .u8 5), .int .i64 f1, .int .i64 f2, .string f3, .int .i64 f4, .int .i64 f5] t (0, 0)) :: Blk gok (.cells #[.bool true] 4 (0, 0)) :: Out go l :: R)) (hx4 : -(2^63) ≤ f4 ∧ f4 < 2 ^ 63) (hx5 : -(2^63) ≤ f5 ∧ f5 < 2 ^ 63) (hs : f3.size < 1000000) (hl : l.length ≤ 1) :
    Calls Try.prog 26 #[.pointer (some ⟨gc, 0, none⟩), .func (.func 41) #[] #[.pointer (some ⟨gok, 0, none⟩), .pointer (some ⟨go, 0, none⟩)], .func (.func 43) #[] #[.pointer (some ⟨go, 0, none⟩)], .func (.func 45) #[] #[.pointer (some ⟨gok, 0, none⟩), .pointer (some ⟨go, 0, none⟩)]] w fun e w' => e = .returned (.bool true) ∧ Own w0 w' (Blk gc (.cells #[(.int .u8 5), .int .i64 0, .int .i64 f2, .string f3, .int .i64 f4, .int .i64 f5] t (0, 0)) :: Blk gok (.cells #[.bool (true && numOk f1)] 4 (0, 0)) :: Out go (l ++ numB (uN f1)) :: R) := by
  have z0 := (blk_cell h.at0 0).trans rfl
  have H0 := Aside0.mk h
  have HX4 := Aside0.mk hx4
  have HX5 := Aside0.mk hx5
  have HS := Aside0.mk hs
  have HL0 := Aside0.mk (show (l).length < 10000000000 from len_ok (by (try simp only [List.length_append]); have a1 := numB_len10 (uN f1) (uN_lt f1); have a2 := numB_len10 (uN f2) (uN_lt f2); have a3 := numB_len10 f3.size (by omega); have a4 := numB_len10 (zigN f4) (zigN_lt f4 hx4.1 hx4.2); have a5 := numB_len10 (zigN f5) (zigN_lt f5 hx5.1 hx5.2); have a6 := bytesOf_length f3; omega))
  clear h hx4 hx5
  go_enter Try.func26, Try.ntmps26
  go_wp2_with (first
    | (go_at_call 41; (with_reducible refine (wnum H0.out 1 f1 rfl HL0.out).mono ?_); rintro e w1 ⟨rfl, h⟩; have H1 := Aside0.mk h; clear h))
  go_ret
  exact ⟨rfl, H1.out⟩
set_option maxHeartbeats 4000000 in
set_option maxRecDepth 100000 in
theorem wfields6 {f1 f2 f4 f5 : Int} {f3 : ByteArray} (h : Own w0 w (Blk gc (.cells #[(.int .u8 6), .int .i64 f1, .int .i64 f2, .string f3, .int .i64 f4, .int .i64 f5] t (0, 0)) :: Blk gok (.cells #[.bool true] 4 (0, 0)) :: Out go l :: R)) (hx4 : -(2^63) ≤ f4 ∧ f4 < 2 ^ 63) (hx5 : -(2^63) ≤ f5 ∧ f5 < 2 ^ 63) (hs : f3.size < 1000000) (hl : l.length ≤ 1) :
    Calls Try.prog 26 #[.pointer (some ⟨gc, 0, none⟩), .func (.func 41) #[] #[.pointer (some ⟨gok, 0, none⟩), .pointer (some ⟨go, 0, none⟩)], .func (.func 43) #[] #[.pointer (some ⟨go, 0, none⟩)], .func (.func 45) #[] #[.pointer (some ⟨gok, 0, none⟩), .pointer (some ⟨go, 0, none⟩)]] w fun e w' => e = .returned (.bool true) ∧ Own w0 w' (Blk gc (.cells #[(.int .u8 6), .int .i64 0, .int .i64 f2, .string f3, .int .i64 f4, .int .i64 f5] t (0, 0)) :: Blk gok (.cells #[.bool (true && numOk f1)] 4 (0, 0)) :: Out go (l ++ numB (uN f1)) :: R) := by
  have z0 := (blk_cell h.at0 0).trans rfl
  have H0 := Aside0.mk h
  have HX4 := Aside0.mk hx4
  have HX5 := Aside0.mk hx5
  have HS := Aside0.mk hs
  have HL0 := Aside0.mk (show (l).length < 10000000000 from len_ok (by (try simp only [List.length_append]); have a1 := numB_len10 (uN f1) (uN_lt f1); have a2 := numB_len10 (uN f2) (uN_lt f2); have a3 := numB_len10 f3.size (by omega); have a4 := numB_len10 (zigN f4) (zigN_lt f4 hx4.1 hx4.2); have a5 := numB_len10 (zigN f5) (zigN_lt f5 hx5.1 hx5.2); have a6 := bytesOf_length f3; omega))
  clear h hx4 hx5
  go_enter Try.func26, Try.ntmps26
  go_wp2_with (first
    | (go_at_call 41; (with_reducible refine (wnum H0.out 1 f1 rfl HL0.out).mono ?_); rintro e w1 ⟨rfl, h⟩; have H1 := Aside0.mk h; clear h))
  go_ret
  exact ⟨rfl, H1.out⟩
set_option maxHeartbeats 4000000 in
set_option maxRecDepth 100000 in
theorem wfields7 {f1 f2 f4 f5 : Int} {f3 : ByteArray} (h : Own w0 w (Blk gc (.cells #[(.int .u8 7), .int .i64 f1, .int .i64 f2, .string f3, .int .i64 f4, .int .i64 f5] t (0, 0)) :: Blk gok (.cells #[.bool true] 4 (0, 0)) :: Out go l :: R)) (hx4 : -(2^63) ≤ f4 ∧ f4 < 2 ^ 63) (hx5 : -(2^63) ≤ f5 ∧ f5 < 2 ^ 63) (hs : f3.size < 1000000) (hl : l.length ≤ 1) :
    Calls Try.prog 26 #[.pointer (some ⟨gc, 0, none⟩), .func (.func 41) #[] #[.pointer (some ⟨gok, 0, none⟩), .pointer (some ⟨go, 0, none⟩)], .func (.func 43) #[] #[.pointer (some ⟨go, 0, none⟩)], .func (.func 45) #[] #[.pointer (some ⟨gok, 0, none⟩), .pointer (some ⟨go, 0, none⟩)]] w fun e w' => e = .returned (.bool true) ∧ Own w0 w' (Blk gc (.cells #[(.int .u8 7), .int .i64 0, .int .i64 f2, .string f3, .int .i64 f4, .int .i64 f5] t (0, 0)) :: Blk gok (.cells #[.bool (true && numOk f1)] 4 (0, 0)) :: Out go (l ++ numB (uN f1)) :: R) := by
  have z0 := (blk_cell h.at0 0).trans rfl
  have H0 := Aside0.mk h
  have HX4 := Aside0.mk hx4
  have HX5 := Aside0.mk hx5
  have HS := Aside0.mk hs
  have HL0 := Aside0.mk (show (l).length < 10000000000 from len_ok (by (try simp only [List.length_append]); have a1 := numB_len10 (uN f1) (uN_lt f1); have a2 := numB_len10 (uN f2) (uN_lt f2); have a3 := numB_len10 f3.size (by omega); have a4 := numB_len10 (zigN f4) (zigN_lt f4 hx4.1 hx4.2); have a5 := numB_len10 (zigN f5) (zigN_lt f5 hx5.1 hx5.2); have a6 := bytesOf_length f3; omega))
  clear h hx4 hx5
  go_enter Try.func26, Try.ntmps26
  go_wp2_with (first
    | (go_at_call 41; (with_reducible refine (wnum H0.out 1 f1 rfl HL0.out).mono ?_); rintro e w1 ⟨rfl, h⟩; have H1 := Aside0.mk h; clear h))
  go_ret
  exact ⟨rfl, H1.out⟩
set_option maxHeartbeats 4000000 in
set_option maxRecDepth 100000 in
theorem wfields8 {f1 f2 f4 f5 : Int} {f3 : ByteArray} (h : Own w0 w (Blk gc (.cells #[(.int .u8 8), .int .i64 f1, .int .i64 f2, .string f3, .int .i64 f4, .int .i64 f5] t (0, 0)) :: Blk gok (.cells #[.bool true] 4 (0, 0)) :: Out go l :: R)) (hx4 : -(2^63) ≤ f4 ∧ f4 < 2 ^ 63) (hx5 : -(2^63) ≤ f5 ∧ f5 < 2 ^ 63) (hs : f3.size < 1000000) (hl : l.length ≤ 1) :
    Calls Try.prog 26 #[.pointer (some ⟨gc, 0, none⟩), .func (.func 41) #[] #[.pointer (some ⟨gok, 0, none⟩), .pointer (some ⟨go, 0, none⟩)], .func (.func 43) #[] #[.pointer (some ⟨go, 0, none⟩)], .func (.func 45) #[] #[.pointer (some ⟨gok, 0, none⟩), .pointer (some ⟨go, 0, none⟩)]] w fun e w' => e = .returned (.bool true) ∧ Own w0 w' (Blk gc (.cells #[(.int .u8 8), .int .i64 0, .int .i64 f2, .string f3, .int .i64 f4, .int .i64 f5] t (0, 0)) :: Blk gok (.cells #[.bool (true && numOk f1)] 4 (0, 0)) :: Out go (l ++ numB (uN f1)) :: R) := by
  have z0 := (blk_cell h.at0 0).trans rfl
  have H0 := Aside0.mk h
  have HX4 := Aside0.mk hx4
  have HX5 := Aside0.mk hx5
  have HS := Aside0.mk hs
  have HL0 := Aside0.mk (show (l).length < 10000000000 from len_ok (by (try simp only [List.length_append]); have a1 := numB_len10 (uN f1) (uN_lt f1); have a2 := numB_len10 (uN f2) (uN_lt f2); have a3 := numB_len10 f3.size (by omega); have a4 := numB_len10 (zigN f4) (zigN_lt f4 hx4.1 hx4.2); have a5 := numB_len10 (zigN f5) (zigN_lt f5 hx5.1 hx5.2); have a6 := bytesOf_length f3; omega))
  clear h hx4 hx5
  go_enter Try.func26, Try.ntmps26
  go_wp2_with (first
    | (go_at_call 41; (with_reducible refine (wnum H0.out 1 f1 rfl HL0.out).mono ?_); rintro e w1 ⟨rfl, h⟩; have H1 := Aside0.mk h; clear h))
  go_ret
  exact ⟨rfl, H1.out⟩
end
end Go.Proofs.Ytapkoiaeghjpdaa.PScriptWrites
