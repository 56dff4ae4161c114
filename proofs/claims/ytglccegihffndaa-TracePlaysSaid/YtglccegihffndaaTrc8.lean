/- Traces: rows as blocks; the laws' helpers awake and put. -/
import Derived.Test.YtglccegihffndaaTrcE
import Derived.Lib.SmallJoins
namespace Go.Proofs.Ytglccegihffndaa.PTracePlays
open Go.RowKit Go.Proofs.YtglccegihffndaaW.PrintWords Go.Proofs.YtglccegihffndaaW.PrintLast Go.Proofs.YtglccegihffndaaW.PrintMore
open Go.Proofs.YtglccegihffndaaO
attribute [local go_sem] max2_int min2_int max_two min_two max_three min_three max_four min_four
set_option linter.unusedVariables false
set_option linter.unusedSimpArgs false
section
variable {w0 w w' : World} {R : List Asn} {g : Nat} {ss : List (List TO × List TA)}
abbrev toldV (x : TO) : List Value := [.string x.f0.f0, .int .i64 x.f0.f1, .int .i64 x.f0.f2.f0, .int .i64 x.f0.f2.f1, .int .i64 x.f0.f2.f2, .int .i64 x.f0.f2.f3, .int .i64 x.f0.f2.f4.f0, .int .i64 x.f0.f2.f4.f1, .int .i64 x.f0.f2.f4.f2, .int .i64 x.f0.f2.f4.f3, .int .i64 x.f1, .int .i64 x.f2]
abbrev appV (x : TA) : List Value := [.int .i64 x.f0.f0, .int .i64 x.f0.f1, .int .i64 x.f0.f2, .int .u8 x.f0.f3, .string x.f0.f4, .int .i64 x.f0.f5, .int .i64 x.f0.f6, .int .i64 x.f0.f7, .int .i64 x.f1]
/-- A row's block, with the cells of its elements. -/
theorem row_blk {α : Type} {d : Kd α} {e b n c : Nat} {l : List α} (h : Own w0 w (Row d e (.slice (some ⟨b, 0, none⟩) n c) l :: R)) : ∃ cs, Own w0 w (Blk b (.cells cs e (0, 0)) :: R) ∧ ∀ j x, l[j]? = some x → ∃ c', d.K w x c' ∧ ∀ i u, c'[i]? = some u → cs[j * d.sz + i]? = some u := by
  obtain ⟨A, c0, e1, _, hC⟩ := h.row_reads
  cases e1
  obtain ⟨F, hr, hF⟩ := h.row_out
  have hFb : F b := hr.1 b (by simp [Value.ownBlock])
  obtain ⟨inner, ho, _⟩ := hr.2
  obtain ⟨cells, hg⟩ := own_typed ho b (by simp [Value.ownBlock])
  refine ⟨cells, h.step fun F2 hF2 hB2 => ⟨rfl, rfl, rfl, Nat.le_refl _, fun k _ _ => rfl, fun k => k = b, ⟨hg, fun _ => Iff.rfl⟩, fun k hk => .inl (hF2.1.1 k (by rw [hk]; simp [Value.ownBlock]))⟩, fun j x hx => ?_⟩
  obtain ⟨ad, e2, hc⟩ := hC.2.2 (by have := (List.getElem?_eq_some_iff.1 hx).1; omega)
  cases e2
  obtain ⟨cs, _, hK, hcell⟩ := hc j x hx
  refine ⟨cs, hK, fun i u hu => ?_⟩
  have h1 := hcell i u hu
  rw [add_at] at h1
  exact (blk_cell hg _).symm.trans h1
theorem told_blk {e b n c : Nat} {l : List TO} (h : Own w0 w (Row k46 e (.slice (some ⟨b, 0, none⟩) n c) l :: R)) : ∃ cs, Own w0 w (Blk b (.cells cs e (0, 0)) :: R) ∧ ∀ j x, l[j]? = some x → ∀ i u, (toldV x)[i]? = some u → cs[j * 12 + i]? = some u := by
  obtain ⟨cs, h1, h2⟩ := row_blk h
  refine ⟨cs, h1, fun j x hx i u hu => ?_⟩
  obtain ⟨c', hK, hc⟩ := h2 j x hx
  rw [k46_open hK] at hc
  exact hc i u hu
theorem app_blk {e b n c : Nat} {l : List TA} (h : Own w0 w (Row k48 e (.slice (some ⟨b, 0, none⟩) n c) l :: R)) : ∃ cs, Own w0 w (Blk b (.cells cs e (0, 0)) :: R) ∧ ∀ j x, l[j]? = some x → ∀ i u, (appV x)[i]? = some u → cs[j * 9 + i]? = some u := by
  obtain ⟨cs, h1, h2⟩ := row_blk h
  refine ⟨cs, h1, fun j x hx i u hu => ?_⟩
  obtain ⟨c', hK, hc⟩ := h2 j x hx
  rw [k48_open hK] at hc
  exact hc i u hu
theorem told_cell {e b n c : Nat} {l : List TO} (h : Own w0 w (Row k46 e (.slice (some ⟨b, 0, none⟩) n c) l :: R)) (j : Nat) (x : TO) (hx : l[j]? = some x) (i : Nat) (u : Value) (hu : (toldV x)[i]? = some u) : w.cell? ⟨b, j * 12 + i, none⟩ = some u := by
  obtain ⟨cs, h1, h2⟩ := told_blk h
  exact (blk_cell h1.at0 _).trans (h2 j x hx i u hu)
theorem app_cell {e b n c : Nat} {l : List TA} (h : Own w0 w (Row k48 e (.slice (some ⟨b, 0, none⟩) n c) l :: R)) (j : Nat) (x : TA) (hx : l[j]? = some x) (i : Nat) (u : Value) (hu : (appV x)[i]? = some u) : w.cell? ⟨b, j * 9 + i, none⟩ = some u := by
  obtain ⟨cs, h1, h2⟩ := app_blk h
  exact (blk_cell h1.at0 _).trans (h2 j x hx i u hu)
theorem row_form' {α : Type} {d : Kd α} {e : Nat} {v : Value} {ys : List α} (h : Own w0 w (Row d e v ys :: R)) (hp : 0 < ys.length) : ∃ b c, v = .slice (some ⟨b, 0, none⟩) ys.length c := by
  obtain ⟨F, hr, _⟩ := h.row_out
  obtain ⟨inner, hi⟩ := Kd.R_own hr
  exact Go.Joins.ownsRow_form hi hp
theorem TrNewI (h : Own w0 w R) (m : Int) (n : Nat) (hm : m = n) (h1 : 1 ≤ n) (h8 : n ≤ 8) : Calls Try.prog 10 #[.int .i64 m] w fun e w' => ∃ g : Nat, e = .returned (.tuple #[.pointer (some ⟨g, 0, none⟩), .int .i64 0]) ∧ Own w0 w' (Tr g (List.replicate n ([], [])) :: R) := by
  subst hm
  exact TrNew h n h1 h8
theorem TrOutsE (h : Own w0 w (Tr g ss :: R)) (part : Int) (l : List TO) (n : Nat) (hl : (sAt ss part).1 = l) (hn : l.length = n) (hb : n ≤ 1000000000) : Calls Try.prog 11 #[.pointer (some ⟨g, 0, none⟩), .int .i64 part] w fun e w' => ∃ A c, e = .returned (.slice A n c) ∧ Own w0 w' (Row k46 46 (.slice A n c) l :: Tr g ss :: R) := by
  subst hl
  subst hn
  exact TrOuts h part hb
theorem TrItemsE (h : Own w0 w (Tr g ss :: R)) (part : Int) (l : List TA) (n : Nat) (hl : (sAt ss part).2 = l) (hn : l.length = n) (hb : n ≤ 1000000000) : Calls Try.prog 12 #[.pointer (some ⟨g, 0, none⟩), .int .i64 part] w fun e w' => ∃ A c, e = .returned (.slice A n c) ∧ Own w0 w' (Row k48 48 (.slice A n c) l :: Tr g ss :: R) := by
  subst hl
  subst hn
  exact TrItems h part hb
theorem TrTellE (h : Own w0 w (Tr g ss :: R)) (part node epoch : Int) (A : Option Addr) (n c : Nat) (l : List S44) (hn : l.length = n) (hl : (sAt ss part).1.length + n ≤ 1000000000) (hrd : ∀ v, Own w0 v R → Kd.C k44 v A l.length l) (r : Int) (ss' : List (List TO × List TA)) (hr : errR ss.length part = r) (hs : tellR ss part node epoch l = ss') : Calls Try.prog 13 #[.pointer (some ⟨g, 0, none⟩), .int .i64 part, .int .i64 node, .int .i64 epoch, .slice A n c] w fun e w' => e = .returned (.int .i64 r) ∧ Own w0 w' (Tr g ss' :: R) := by
  subst hr
  subst hs
  exact TrTell h part node epoch A n c l hn hl hrd
theorem TrApplyE (h : Own w0 w (Tr g ss :: R)) (part : Int) (x : S31) (code : Int) (hl : (sAt ss part).2.length ≤ 1000000000) (r : Int) (ss' : List (List TO × List TA)) (hr : errR ss.length part = r) (hs : applyR ss part x code = ss') : Calls Try.prog 14 #[.pointer (some ⟨g, 0, none⟩), .int .i64 part, .agg (itemV x), .int .i64 code] w fun e w' => e = .returned (.int .i64 r) ∧ Own w0 w' (Tr g ss' :: R) := by
  subst hr
  subst hs
  exact TrApply h part x code hl
end
section
variable {w0 w w' : World} {R : List Asn} {g : Nat}
abbrev outA : S44 := ⟨⟨#[97]⟩, 10, ⟨0, 0, 0, 0, ⟨0, 0, 0, 0⟩⟩⟩
abbrev itemA : S31 := ⟨0, 1, 0, 0, ⟨#[]⟩, 0, 0, 0⟩
def awk0 : List (List TO × List TA) := [([], []), ([], [])]
def awk1 : List (List TO × List TA) := [([], []), ([⟨outA, 0, 3⟩], [])]
def awk2 : List (List TO × List TA) := [([], [⟨itemA, 2⟩]), ([⟨outA, 0, 3⟩], [])]
set_option maxHeartbeats 4000000 in
set_option maxRecDepth 100000 in
theorem awake_calls (w : World) : Calls Try.prog 8 #[] w fun e w' => e = .returned (.bool true) ∧ Below w.heap.size w w' := by
  have H0 := Aside0.mk (Own.nil w)
  have T1 := Aside0.mk (show errR awk0.length 1 = 0 from rfl)
  have T2 := Aside0.mk (show tellR awk0 1 0 3 [outA] = awk1 from rfl)
  have T3 := Aside0.mk (show errR awk1.length 0 = 0 from rfl)
  have T4 := Aside0.mk (show applyR awk1 0 itemA 2 = awk2 from rfl)
  have T5 := Aside0.mk (show (sAt awk2 1).1 = [⟨outA, 0, 3⟩] from rfl)
  have T6 := Aside0.mk (show (sAt awk2 0).2 = [⟨itemA, 2⟩] from rfl)
  have T7 := Aside0.mk (show (sAt awk2 0).1 = [] from rfl)
  have T8 := Aside0.mk (show (sAt awk0 1).1.length + 1 ≤ 1000000000 by decide)
  have T9 := Aside0.mk (show (sAt awk1 0).2.length ≤ 1000000000 by decide)
  have TAA := Aside0.mk (show ([⟨outA, 0, 3⟩] : List TO).length = 1 from rfl)
  have TB := Aside0.mk (show ([⟨itemA, 2⟩] : List TA).length = 1 from rfl)
  have TC := Aside0.mk (show ([] : List TO).length = 0 from rfl)
  have TD := Aside0.mk (show ([outA] : List S44).length = 1 from rfl)
  have TE := Aside0.mk (show 1 ≤ 1000000000 ∧ 0 ≤ 1000000000 by decide)
  go_enter Try.func8, Try.ntmps8
  go_wp2_with (first
    | (go_at_call 10; ((with_reducible refine (TrNewI H0.out 2 2 rfl (by decide) (by decide)).mono ?_)); rintro e w1 ⟨g, rfl, h⟩; have H1 := Aside0.mk (show Own w (w1.alloc (.cells (outV outA) 44)) (Tr g awk0 :: Blk w1.heap.size (.cells (outV outA) 44 (0, 0)) :: []) from (h.alloc _).r1); clear h)
    | (go_at_call 13; ((with_reducible refine (TrTellE H1.out 1 0 3 (some ⟨_, 0, none⟩) 1 1 [outA] TD.out T8.out (fun v h => blk_one outA h) 0 awk1 T1.out T2.out).mono ?_)); rintro e w2 ⟨rfl, h⟩; have H2 := Aside0.mk h; clear h)
    | (go_at_call 14; ((with_reducible refine (TrApplyE H2.out 0 itemA 2 T9.out 0 awk2 T3.out T4.out).mono ?_)); rintro e w3 ⟨rfl, h⟩; have H3 := Aside0.mk h; clear h)
    | (go_at_call 11; ((with_reducible refine (TrOutsE H3.out 1 [⟨outA, 0, 3⟩] 1 T5.out TAA.out TE.out.1).mono ?_)); rintro e w4 ⟨A1, c1, rfl, h⟩; obtain ⟨b1, c1', e1⟩ := row_form' h (by decide); cases e1; have H4 := Aside0.mk h; clear h)
    | (go_at_call 12; ((with_reducible refine (TrItemsE H4.out.r1 0 [⟨itemA, 2⟩] 1 T6.out TB.out TE.out.1).mono ?_)); rintro e w5 ⟨A2, c2, rfl, h⟩; obtain ⟨b2, c2', e2⟩ := row_form' h (by decide); cases e2; have H5 := Aside0.mk h; have q0 := told_cell h.r2 0 _ rfl 0 _ rfl; have q11 := told_cell h.r2 0 _ rfl 11 _ rfl; have q8 := app_cell h 0 _ rfl 8 _ rfl; have f1 := add_at b1; have f2 := add_at b2; clear h)
    | (go_at_call 11; ((with_reducible refine (TrOutsE H5.out.r1 0 [] 0 T7.out TC.out TE.out.2).mono ?_)); rintro e w6 ⟨A3, c3, rfl, h⟩; have H6 := Aside0.mk h; clear h))
  go_ret
  exact ⟨rfl, H6.out.bel⟩
end
end Go.Proofs.Ytglccegihffndaa.PTracePlays
