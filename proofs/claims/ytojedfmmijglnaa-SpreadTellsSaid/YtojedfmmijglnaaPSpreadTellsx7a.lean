-- Written by a program of this session's (wip/gprint.py): the kit's print, with functions given by hand.
import Derived.Test.YtojedfmmijglnaaPSpreadTellsx0
import Derived.Test.YtojedfmmijglnaaPSpreadTellsx1
import Derived.Test.YtojedfmmijglnaaPSpreadTellsx2
import Derived.Test.YtojedfmmijglnaaPSpreadTellsx3
import Derived.Test.YtojedfmmijglnaaPSpreadTellsx4
import Derived.Test.YtojedfmmijglnaaPSpreadTellsx5
import Derived.Test.YtojedfmmijglnaaPSpreadTellsx6
namespace Go.Proofs.Ytojedfmmijglnaa.PSpreadTells
open Go.RowKit Go.Proofs.YtojedfmmijglnaaW.PrintWords Go.Proofs.YtojedfmmijglnaaW.PrintLast Go.Proofs.YtojedfmmijglnaaW.PrintMore
attribute [local go_sem] max2_int min2_int max_two min_two max_three min_three max_four min_four   -- for this text's walks alone
set_option linter.unusedVariables false
set_option linter.unusedSimpArgs false

/-! ### meterlaw18_SpreadTells: function 5 -/
mutual
def meterlaw18_SpreadTells.j0 : Nat → Int → List (S39) → Bool → Int → Int → List Int → Int → Int → List Int → Option (Bool)
  | 0, _, _, _, _, _, _, _, _, _ => none
  | k + 1, x2, x3, x43, x213000, x213001, x213002, x214000, x214001, x214002 => if x43 = true then (some true) else (meterlaw18_SpreadTells.l0 k x2 x3 ([] : List (S41)) 0 x213000 x213001 x213002 x214000 x214001 x214002)
def meterlaw18_SpreadTells.l0 : Nat → Int → List (S39) → List (S41) → Int → Int → Int → List Int → Int → Int → List Int → Option (Bool)
  | 0, _, _, _, _, _, _, _, _, _, _ => none
  | k + 1, x2, x3, x9, x10, x213000, x213001, x213002, x214000, x214001, x214002 => if x10 < (x3.length : Int) then (if 0 ≤ x10 then (if x9.length < 8796093022208 then (meterlaw18_SpreadTells.l0 k x2 x3 (x9 ++ [(⟨(rd_T39 x3 x10).f0, (rd_T39 x3 x10).f1⟩ : S41)]) (wrap64 (x10 + 1)) x213000 x213001 x213002 x214000 x214001 x214002) else (none)) else (none)) else ((meterlaw18_copied.f x213000 x213001 x213002).bind fun bt220 => ((meterlaw18_copied.f x214000 x214001 x214002).bind fun bt225 => ((spread_Keep.f bt220.1 bt220.2.1 bt220.2.2 bt225.1 bt225.2.1 bt225.2.2).bind fun bt232 => ((meterref18_Keep.f k x213000 x213001 x213002 x214000 x214001 x214002).bind fun bt239 => ((spread_Diff.f k bt220.1 bt220.2.1 bt220.2.2 bt225.1 bt225.2.1 bt225.2.2).bind fun bt246 => ((meterref18_Diff.f k x213000 x213001 x213002 x214000 x214001 x214002).bind fun bt250 => ((spread_Patch.f bt220.1 bt220.2.1 bt220.2.2 x2 x3).bind fun bt254 => ((meterref18_Patch.f k x213000 x213001 x213002 x2 x9).bind fun bt261 => (if (bt232.2.2.2 != bt239.2.2.2) = true then (meterlaw18_SpreadTells.j2 k true x213000 x213001 x213002 x214000 x214001 x214002 bt220.1 bt220.2.1 bt220.2.2 bt225.1 bt225.2.1 bt225.2.2 bt232.1 bt232.2.1 bt232.2.2.1 bt254.1 bt254.2.1 bt254.2.2.1) else ((meterref17_Same.f k bt232.1 bt232.2.1 bt232.2.2.1 bt239.1 bt239.2.1 bt239.2.2.1).bind fun t268 => (if t268 = true then (if (bt246.2 != bt250.2) = true then (meterlaw18_SpreadTells.j2 k true x213000 x213001 x213002 x214000 x214001 x214002 bt220.1 bt220.2.1 bt220.2.2 bt225.1 bt225.2.1 bt225.2.2 bt232.1 bt232.2.1 bt232.2.2.1 bt254.1 bt254.2.1 bt254.2.2.1) else ((meterlaw18_same.f k bt246.1 bt250.1).bind fun t269 => (if t269 = true then (if bt254.2.2.2 = bt261.2.2.2 then ((meterref17_Same.f k bt254.1 bt254.2.1 bt254.2.2.1 bt261.1 bt261.2.1 bt261.2.2.1).bind fun t270 => (meterlaw18_SpreadTells.j2 k (!t270) x213000 x213001 x213002 x214000 x214001 x214002 bt220.1 bt220.2.1 bt220.2.2 bt225.1 bt225.2.1 bt225.2.2 bt232.1 bt232.2.1 bt232.2.2.1 bt254.1 bt254.2.1 bt254.2.2.1)) else (meterlaw18_SpreadTells.j2 k true x213000 x213001 x213002 x214000 x214001 x214002 bt220.1 bt220.2.1 bt220.2.2 bt225.1 bt225.2.1 bt225.2.2 bt232.1 bt232.2.1 bt232.2.2.1 bt254.1 bt254.2.1 bt254.2.2.1)) else (meterlaw18_SpreadTells.j2 k true x213000 x213001 x213002 x214000 x214001 x214002 bt220.1 bt220.2.1 bt220.2.2 bt225.1 bt225.2.1 bt225.2.2 bt232.1 bt232.2.1 bt232.2.2.1 bt254.1 bt254.2.1 bt254.2.2.1)))) else (meterlaw18_SpreadTells.j2 k true x213000 x213001 x213002 x214000 x214001 x214002 bt220.1 bt220.2.1 bt220.2.2 bt225.1 bt225.2.1 bt225.2.2 bt232.1 bt232.2.1 bt232.2.2.1 bt254.1 bt254.2.1 bt254.2.2.1))))))))))))
def meterlaw18_SpreadTells.j2 : Nat → Bool → Int → Int → List Int → Int → Int → List Int → Int → Int → List Int → Int → Int → List Int → Int → Int → List Int → Int → Int → List Int → Option (Bool)
  | 0, _, _, _, _, _, _, _, _, _, _, _, _, _, _, _, _, _, _, _ => none
  | k + 1, x136, x213000, x213001, x213002, x214000, x214001, x214002, x231000, x231001, x231002, x232000, x232001, x232002, x239000, x239001, x239002, x261000, x261001, x261002 => if x136 = true then (some false) else (meterlaw18_SpreadTells.l1 k 0 x213000 x213001 x213002 x214000 x214001 x214002 x231000 x231001 x231002 x232000 x232001 x232002 x239000 x239001 x239002 x261000 x261001 x261002)
def meterlaw18_SpreadTells.l1 : Nat → Int → Int → Int → List Int → Int → Int → List Int → Int → Int → List Int → Int → Int → List Int → Int → Int → List Int → Int → Int → List Int → Option (Bool)
  | 0, _, _, _, _, _, _, _, _, _, _, _, _, _, _, _, _, _, _, _ => none
  | k + 1, x25, x213000, x213001, x213002, x214000, x214001, x214002, x231000, x231001, x231002, x232000, x232001, x232002, x239000, x239001, x239002, x261000, x261001, x261002 => if x25 < (x239002.length : Int) then (if 0 ≤ x25 then (meterlaw18_SpreadTells.l1 k (wrap64 (x25 + 1)) x213000 x213001 x213002 x214000 x214001 x214002 x231000 x231001 x231002 x232000 x232001 x232002 x239000 x239001 (x239002.set (x25 : Int).toNat 99) x261000 x261001 x261002) else (none)) else (meterlaw18_SpreadTells.l2 k 0 x213000 x213001 x213002 x214000 x214001 x214002 x231000 x231001 x231002 x232000 x232001 x232002 x261000 x261001 x261002)
def meterlaw18_SpreadTells.l2 : Nat → Int → Int → Int → List Int → Int → Int → List Int → Int → Int → List Int → Int → Int → List Int → Int → Int → List Int → Option (Bool)
  | 0, _, _, _, _, _, _, _, _, _, _, _, _, _, _, _, _ => none
  | k + 1, x26, x213000, x213001, x213002, x214000, x214001, x214002, x231000, x231001, x231002, x232000, x232001, x232002, x261000, x261001, x261002 => if x26 < (x261002.length : Int) then (if 0 ≤ x26 then (meterlaw18_SpreadTells.l2 k (wrap64 (x26 + 1)) x213000 x213001 x213002 x214000 x214001 x214002 x231000 x231001 x231002 x232000 x232001 x232002 x261000 x261001 (x261002.set (x26 : Int).toNat 99)) else (none)) else ((meterref17_Same.f k x231000 x231001 x231002 x213000 x213001 x213002).bind fun t273 => (if t273 = true then ((meterref17_Same.f k x232000 x232001 x232002 x214000 x214001 x214002).bind fun t274 => (some t274)) else (some false)))
end
def meterlaw18_SpreadTells.f (k : Nat) (a0_0 : Int) (a0_1 : Int) (l0_2 : List Int) (a1_0 : Int) (a1_1 : Int) (l1_2 : List Int) (a2 : Int) (l3 : List (S39)) : Option (Bool) := (meterlaw18_awake.f).bind fun t214 => (if t214 = true then (if (l0_2.length : Int) > 1000 then (meterlaw18_SpreadTells.j0 k a2 l3 true a0_0 a0_1 l0_2 a1_0 a1_1 l1_2) else (if (l1_2.length : Int) > 1000 then (meterlaw18_SpreadTells.j0 k a2 l3 true a0_0 a0_1 l0_2 a1_0 a1_1 l1_2) else (meterlaw18_SpreadTells.j0 k a2 l3 (decide ((l3.length : Int) > 1000)) a0_0 a0_1 l0_2 a1_0 a1_1 l1_2))) else (some false))
theorem meterlaw18_SpreadTells.mono_l : ∀ k, (∀ y0 y1 y2 y3 y4 y5 y6 y7 y8, LeO (meterlaw18_SpreadTells.j0 k y0 y1 y2 y3 y4 y5 y6 y7 y8) (meterlaw18_SpreadTells.j0 (k + 1) y0 y1 y2 y3 y4 y5 y6 y7 y8)) ∧ (∀ y0 y1 y2 y3 y4 y5 y6 y7 y8 y9, LeO (meterlaw18_SpreadTells.l0 k y0 y1 y2 y3 y4 y5 y6 y7 y8 y9) (meterlaw18_SpreadTells.l0 (k + 1) y0 y1 y2 y3 y4 y5 y6 y7 y8 y9)) ∧ (∀ y0 y1 y2 y3 y4 y5 y6 y7 y8 y9 y10 y11 y12 y13 y14 y15 y16 y17 y18, LeO (meterlaw18_SpreadTells.j2 k y0 y1 y2 y3 y4 y5 y6 y7 y8 y9 y10 y11 y12 y13 y14 y15 y16 y17 y18) (meterlaw18_SpreadTells.j2 (k + 1) y0 y1 y2 y3 y4 y5 y6 y7 y8 y9 y10 y11 y12 y13 y14 y15 y16 y17 y18)) ∧ (∀ y0 y1 y2 y3 y4 y5 y6 y7 y8 y9 y10 y11 y12 y13 y14 y15 y16 y17 y18, LeO (meterlaw18_SpreadTells.l1 k y0 y1 y2 y3 y4 y5 y6 y7 y8 y9 y10 y11 y12 y13 y14 y15 y16 y17 y18) (meterlaw18_SpreadTells.l1 (k + 1) y0 y1 y2 y3 y4 y5 y6 y7 y8 y9 y10 y11 y12 y13 y14 y15 y16 y17 y18)) ∧ (∀ y0 y1 y2 y3 y4 y5 y6 y7 y8 y9 y10 y11 y12 y13 y14 y15, LeO (meterlaw18_SpreadTells.l2 k y0 y1 y2 y3 y4 y5 y6 y7 y8 y9 y10 y11 y12 y13 y14 y15) (meterlaw18_SpreadTells.l2 (k + 1) y0 y1 y2 y3 y4 y5 y6 y7 y8 y9 y10 y11 y12 y13 y14 y15))
  | 0 => ⟨fun _ _ _ _ _ _ _ _ _ r h => by simp [meterlaw18_SpreadTells.j0] at h, fun _ _ _ _ _ _ _ _ _ _ r h => by simp [meterlaw18_SpreadTells.l0] at h, fun _ _ _ _ _ _ _ _ _ _ _ _ _ _ _ _ _ _ _ r h => by simp [meterlaw18_SpreadTells.j2] at h, fun _ _ _ _ _ _ _ _ _ _ _ _ _ _ _ _ _ _ _ r h => by simp [meterlaw18_SpreadTells.l1] at h, fun _ _ _ _ _ _ _ _ _ _ _ _ _ _ _ _ r h => by simp [meterlaw18_SpreadTells.l2] at h⟩
  | k + 1 => by
    obtain ⟨ih0, ih1, ih2, ih3, ih4⟩ := meterlaw18_SpreadTells.mono_l k
    refine ⟨?_, ?_, ?_, ?_, ?_⟩
    · intro y0 y1 y2 y3 y4 y5 y6 y7 y8
      unfold meterlaw18_SpreadTells.j0
      repeat' first
      | (with_reducible exact ih0 _ _ _ _ _ _ _ _ _)
      | (with_reducible exact ih1 _ _ _ _ _ _ _ _ _ _)
      | (with_reducible exact ih2 _ _ _ _ _ _ _ _ _ _ _ _ _ _ _ _ _ _ _)
      | (with_reducible exact ih3 _ _ _ _ _ _ _ _ _ _ _ _ _ _ _ _ _ _ _)
      | (with_reducible exact ih4 _ _ _ _ _ _ _ _ _ _ _ _ _ _ _ _)
      | (with_reducible exact meterlaw18_same.mono _ _ _)
      | (with_reducible exact meterref17_Same.mono _ _ _ _ _ _ _)
      | (with_reducible exact meterref18_Diff.mono _ _ _ _ _ _ _)
      | (with_reducible exact meterref18_Keep.mono _ _ _ _ _ _ _)
      | (with_reducible exact meterref18_Patch.mono _ _ _ _ _ _)
      | (with_reducible exact spread_Diff.mono _ _ _ _ _ _ _)
      | (with_reducible exact LeO.refl _)
      | (with_reducible exact LeO.none _)
      | (with_reducible refine LeO.ite ?_ ?_)
      | (with_reducible refine LeO.bind ?_ (fun _ => ?_))
      | exact ih0 _ _ _ _ _ _ _ _ _
      | exact ih1 _ _ _ _ _ _ _ _ _ _
      | exact ih2 _ _ _ _ _ _ _ _ _ _ _ _ _ _ _ _ _ _ _
      | exact ih3 _ _ _ _ _ _ _ _ _ _ _ _ _ _ _ _ _ _ _
      | exact ih4 _ _ _ _ _ _ _ _ _ _ _ _ _ _ _ _
      | exact meterlaw18_same.mono _ _ _
      | exact meterref17_Same.mono _ _ _ _ _ _ _
      | exact meterref18_Diff.mono _ _ _ _ _ _ _
      | exact meterref18_Keep.mono _ _ _ _ _ _ _
      | exact meterref18_Patch.mono _ _ _ _ _ _
      | exact spread_Diff.mono _ _ _ _ _ _ _
      | exact LeO.none _
      | refine LeO.ite ?_ ?_
      | refine LeO.bind ?_ (fun _ => ?_)
    · intro y0 y1 y2 y3 y4 y5 y6 y7 y8 y9
      unfold meterlaw18_SpreadTells.l0
      repeat' first
      | (with_reducible exact ih0 _ _ _ _ _ _ _ _ _)
      | (with_reducible exact ih1 _ _ _ _ _ _ _ _ _ _)
      | (with_reducible exact ih2 _ _ _ _ _ _ _ _ _ _ _ _ _ _ _ _ _ _ _)
      | (with_reducible exact ih3 _ _ _ _ _ _ _ _ _ _ _ _ _ _ _ _ _ _ _)
      | (with_reducible exact ih4 _ _ _ _ _ _ _ _ _ _ _ _ _ _ _ _)
      | (with_reducible exact meterlaw18_same.mono _ _ _)
      | (with_reducible exact meterref17_Same.mono _ _ _ _ _ _ _)
      | (with_reducible exact meterref18_Diff.mono _ _ _ _ _ _ _)
      | (with_reducible exact meterref18_Keep.mono _ _ _ _ _ _ _)
      | (with_reducible exact meterref18_Patch.mono _ _ _ _ _ _)
      | (with_reducible exact spread_Diff.mono _ _ _ _ _ _ _)
      | (with_reducible exact LeO.refl _)
      | (with_reducible exact LeO.none _)
      | (with_reducible refine LeO.ite ?_ ?_)
      | (with_reducible refine LeO.bind ?_ (fun _ => ?_))
      | exact ih0 _ _ _ _ _ _ _ _ _
      | exact ih1 _ _ _ _ _ _ _ _ _ _
      | exact ih2 _ _ _ _ _ _ _ _ _ _ _ _ _ _ _ _ _ _ _
      | exact ih3 _ _ _ _ _ _ _ _ _ _ _ _ _ _ _ _ _ _ _
      | exact ih4 _ _ _ _ _ _ _ _ _ _ _ _ _ _ _ _
      | exact meterlaw18_same.mono _ _ _
      | exact meterref17_Same.mono _ _ _ _ _ _ _
      | exact meterref18_Diff.mono _ _ _ _ _ _ _
      | exact meterref18_Keep.mono _ _ _ _ _ _ _
      | exact meterref18_Patch.mono _ _ _ _ _ _
      | exact spread_Diff.mono _ _ _ _ _ _ _
      | exact LeO.none _
      | refine LeO.ite ?_ ?_
      | refine LeO.bind ?_ (fun _ => ?_)
    · intro y0 y1 y2 y3 y4 y5 y6 y7 y8 y9 y10 y11 y12 y13 y14 y15 y16 y17 y18
      unfold meterlaw18_SpreadTells.j2
      repeat' first
      | (with_reducible exact ih0 _ _ _ _ _ _ _ _ _)
      | (with_reducible exact ih1 _ _ _ _ _ _ _ _ _ _)
      | (with_reducible exact ih2 _ _ _ _ _ _ _ _ _ _ _ _ _ _ _ _ _ _ _)
      | (with_reducible exact ih3 _ _ _ _ _ _ _ _ _ _ _ _ _ _ _ _ _ _ _)
      | (with_reducible exact ih4 _ _ _ _ _ _ _ _ _ _ _ _ _ _ _ _)
      | (with_reducible exact meterlaw18_same.mono _ _ _)
      | (with_reducible exact meterref17_Same.mono _ _ _ _ _ _ _)
      | (with_reducible exact meterref18_Diff.mono _ _ _ _ _ _ _)
      | (with_reducible exact meterref18_Keep.mono _ _ _ _ _ _ _)
      | (with_reducible exact meterref18_Patch.mono _ _ _ _ _ _)
      | (with_reducible exact spread_Diff.mono _ _ _ _ _ _ _)
      | (with_reducible exact LeO.refl _)
      | (with_reducible exact LeO.none _)
      | (with_reducible refine LeO.ite ?_ ?_)
      | (with_reducible refine LeO.bind ?_ (fun _ => ?_))
      | exact ih0 _ _ _ _ _ _ _ _ _
      | exact ih1 _ _ _ _ _ _ _ _ _ _
      | exact ih2 _ _ _ _ _ _ _ _ _ _ _ _ _ _ _ _ _ _ _
      | exact ih3 _ _ _ _ _ _ _ _ _ _ _ _ _ _ _ _ _ _ _
      | exact ih4 _ _ _ _ _ _ _ _ _ _ _ _ _ _ _ _
      | exact meterlaw18_same.mono _ _ _
      | exact meterref17_Same.mono _ _ _ _ _ _ _
      | exact meterref18_Diff.mono _ _ _ _ _ _ _
      | exact meterref18_Keep.mono _ _ _ _ _ _ _
      | exact meterref18_Patch.mono _ _ _ _ _ _
      | exact spread_Diff.mono _ _ _ _ _ _ _
      | exact LeO.none _
      | refine LeO.ite ?_ ?_
      | refine LeO.bind ?_ (fun _ => ?_)
    · intro y0 y1 y2 y3 y4 y5 y6 y7 y8 y9 y10 y11 y12 y13 y14 y15 y16 y17 y18
      unfold meterlaw18_SpreadTells.l1
      repeat' first
      | (with_reducible exact ih0 _ _ _ _ _ _ _ _ _)
      | (with_reducible exact ih1 _ _ _ _ _ _ _ _ _ _)
      | (with_reducible exact ih2 _ _ _ _ _ _ _ _ _ _ _ _ _ _ _ _ _ _ _)
      | (with_reducible exact ih3 _ _ _ _ _ _ _ _ _ _ _ _ _ _ _ _ _ _ _)
      | (with_reducible exact ih4 _ _ _ _ _ _ _ _ _ _ _ _ _ _ _ _)
      | (with_reducible exact meterlaw18_same.mono _ _ _)
      | (with_reducible exact meterref17_Same.mono _ _ _ _ _ _ _)
      | (with_reducible exact meterref18_Diff.mono _ _ _ _ _ _ _)
      | (with_reducible exact meterref18_Keep.mono _ _ _ _ _ _ _)
      | (with_reducible exact meterref18_Patch.mono _ _ _ _ _ _)
      | (with_reducible exact spread_Diff.mono _ _ _ _ _ _ _)
      | (with_reducible exact LeO.refl _)
      | (with_reducible exact LeO.none _)
      | (with_reducible refine LeO.ite ?_ ?_)
      | (with_reducible refine LeO.bind ?_ (fun _ => ?_))
      | exact ih0 _ _ _ _ _ _ _ _ _
      | exact ih1 _ _ _ _ _ _ _ _ _ _
      | exact ih2 _ _ _ _ _ _ _ _ _ _ _ _ _ _ _ _ _ _ _
      | exact ih3 _ _ _ _ _ _ _ _ _ _ _ _ _ _ _ _ _ _ _
      | exact ih4 _ _ _ _ _ _ _ _ _ _ _ _ _ _ _ _
      | exact meterlaw18_same.mono _ _ _
      | exact meterref17_Same.mono _ _ _ _ _ _ _
      | exact meterref18_Diff.mono _ _ _ _ _ _ _
      | exact meterref18_Keep.mono _ _ _ _ _ _ _
      | exact meterref18_Patch.mono _ _ _ _ _ _
      | exact spread_Diff.mono _ _ _ _ _ _ _
      | exact LeO.none _
      | refine LeO.ite ?_ ?_
      | refine LeO.bind ?_ (fun _ => ?_)
    · intro y0 y1 y2 y3 y4 y5 y6 y7 y8 y9 y10 y11 y12 y13 y14 y15
      unfold meterlaw18_SpreadTells.l2
      repeat' first
      | (with_reducible exact ih0 _ _ _ _ _ _ _ _ _)
      | (with_reducible exact ih1 _ _ _ _ _ _ _ _ _ _)
      | (with_reducible exact ih2 _ _ _ _ _ _ _ _ _ _ _ _ _ _ _ _ _ _ _)
      | (with_reducible exact ih3 _ _ _ _ _ _ _ _ _ _ _ _ _ _ _ _ _ _ _)
      | (with_reducible exact ih4 _ _ _ _ _ _ _ _ _ _ _ _ _ _ _ _)
      | (with_reducible exact meterlaw18_same.mono _ _ _)
      | (with_reducible exact meterref17_Same.mono _ _ _ _ _ _ _)
      | (with_reducible exact meterref18_Diff.mono _ _ _ _ _ _ _)
      | (with_reducible exact meterref18_Keep.mono _ _ _ _ _ _ _)
      | (with_reducible exact meterref18_Patch.mono _ _ _ _ _ _)
      | (with_reducible exact spread_Diff.mono _ _ _ _ _ _ _)
      | (with_reducible exact LeO.refl _)
      | (with_reducible exact LeO.none _)
      | (with_reducible refine LeO.ite ?_ ?_)
      | (with_reducible refine LeO.bind ?_ (fun _ => ?_))
      | exact ih0 _ _ _ _ _ _ _ _ _
      | exact ih1 _ _ _ _ _ _ _ _ _ _
      | exact ih2 _ _ _ _ _ _ _ _ _ _ _ _ _ _ _ _ _ _ _
      | exact ih3 _ _ _ _ _ _ _ _ _ _ _ _ _ _ _ _ _ _ _
      | exact ih4 _ _ _ _ _ _ _ _ _ _ _ _ _ _ _ _
      | exact meterlaw18_same.mono _ _ _
      | exact meterref17_Same.mono _ _ _ _ _ _ _
      | exact meterref18_Diff.mono _ _ _ _ _ _ _
      | exact meterref18_Keep.mono _ _ _ _ _ _ _
      | exact meterref18_Patch.mono _ _ _ _ _ _
      | exact spread_Diff.mono _ _ _ _ _ _ _
      | exact LeO.none _
      | refine LeO.ite ?_ ?_
      | refine LeO.bind ?_ (fun _ => ?_)
theorem meterlaw18_SpreadTells.mono : ∀ a0 a1 a2 a3 a4 a5 a6 a7 k, LeO (meterlaw18_SpreadTells.f k a0 a1 a2 a3 a4 a5 a6 a7) (meterlaw18_SpreadTells.f (k + 1) a0 a1 a2 a3 a4 a5 a6 a7) := by
  intro a0 a1 a2 a3 a4 a5 a6 a7 k
  obtain ⟨ih0, ih1, ih2, ih3, ih4⟩ := meterlaw18_SpreadTells.mono_l k
  unfold meterlaw18_SpreadTells.f
  repeat' first
      | (with_reducible exact ih0 _ _ _ _ _ _ _ _ _)
      | (with_reducible exact ih1 _ _ _ _ _ _ _ _ _ _)
      | (with_reducible exact ih2 _ _ _ _ _ _ _ _ _ _ _ _ _ _ _ _ _ _ _)
      | (with_reducible exact ih3 _ _ _ _ _ _ _ _ _ _ _ _ _ _ _ _ _ _ _)
      | (with_reducible exact ih4 _ _ _ _ _ _ _ _ _ _ _ _ _ _ _ _)
      | (with_reducible exact meterlaw18_same.mono _ _ _)
      | (with_reducible exact meterref17_Same.mono _ _ _ _ _ _ _)
      | (with_reducible exact meterref18_Diff.mono _ _ _ _ _ _ _)
      | (with_reducible exact meterref18_Keep.mono _ _ _ _ _ _ _)
      | (with_reducible exact meterref18_Patch.mono _ _ _ _ _ _)
      | (with_reducible exact spread_Diff.mono _ _ _ _ _ _ _)
      | (with_reducible exact LeO.refl _)
      | (with_reducible exact LeO.none _)
      | (with_reducible refine LeO.ite ?_ ?_)
      | (with_reducible refine LeO.bind ?_ (fun _ => ?_))
      | exact ih0 _ _ _ _ _ _ _ _ _
      | exact ih1 _ _ _ _ _ _ _ _ _ _
      | exact ih2 _ _ _ _ _ _ _ _ _ _ _ _ _ _ _ _ _ _ _
      | exact ih3 _ _ _ _ _ _ _ _ _ _ _ _ _ _ _ _ _ _ _
      | exact ih4 _ _ _ _ _ _ _ _ _ _ _ _ _ _ _ _
      | exact meterlaw18_same.mono _ _ _
      | exact meterref17_Same.mono _ _ _ _ _ _ _
      | exact meterref18_Diff.mono _ _ _ _ _ _ _
      | exact meterref18_Keep.mono _ _ _ _ _ _ _
      | exact meterref18_Patch.mono _ _ _ _ _ _
      | exact spread_Diff.mono _ _ _ _ _ _ _
      | exact LeO.none _
      | refine LeO.ite ?_ ?_
      | refine LeO.bind ?_ (fun _ => ?_)
def meterlaw18_SpreadTells.T9 : Bool × List (List Nat × List Nat) := (true, [([], []), ([], []), ([], []), ([1, 2], [1, 2]), ([3], [3]), ([4], [4]), ([], []), ([], []), ([6, 7], [6, 7]), ([8], [8]), ([9], [9]), ([5, 10], [5, 10]), ([11], [11]), ([0, 12], [0, 12]), ([13, 13, 0, 1, 2, 3, 4, 5, 6, 7, 8, 9, 10, 11, 12, 13], [0, 13])])
def meterlaw18_SpreadTells.B9 : List Nat := [0, 0, 0, 6, 14, 30, 0, 0, 192, 448, 960, 2046, 4094, 8191, 16383]
theorem meterlaw18_SpreadTells.tab9 : rtab .any (opsOf Try.f5 9) = meterlaw18_SpreadTells.T9 := by kernel_rfl
theorem meterlaw18_SpreadTells.bits9 : waitsOk meterlaw18_SpreadTells.T9.2 meterlaw18_SpreadTells.B9 = true := by kernel_rfl
def meterlaw18_SpreadTells.T10 : Bool × List (List Nat × List Nat) := (true, [([], []), ([0], [0]), ([], []), ([2, 1], [2]), ([], []), ([], []), ([4, 1, 3, 0, 1, 4, 5], [1, 4]), ([5, 3, 6, 0, 1, 2, 3, 4, 5, 6], [3, 5])])
def meterlaw18_SpreadTells.B10 : List Nat := [0, 1, 0, 7, 0, 0, 63, 127]
theorem meterlaw18_SpreadTells.tab10 : rtab .any (opsOf Try.f5 10) = meterlaw18_SpreadTells.T10 := by kernel_rfl
theorem meterlaw18_SpreadTells.bits10 : waitsOk meterlaw18_SpreadTells.T10.2 meterlaw18_SpreadTells.B10 = true := by kernel_rfl
set_option maxHeartbeats 8000000 in
set_option maxRecDepth 100000 in
noncomputable def meterlaw18_SpreadTells.calls_cut : PSigma fun G2_ : Prop => Aside0 G2_ → ∀ (k : Nat) (a0_0 : Int) (a0_1 : Int) (A0_2 : Option Addr) (c0_2 : Nat) (l0_2 : List Int) (a1_0 : Int) (a1_1 : Int) (A1_2 : Option Addr) (c1_2 : Nat) (l1_2 : List Int) (a2 : Int) (A3 : Option Addr) (c3 : Nat) (l3 : List (S39)) (r : Bool) (w : World) (hr0_2 : Kd.C (Kd.int .i64) w A0_2 l0_2.length l0_2) (hc0_2 : l0_2.length ≤ c0_2) (hr1_2 : Kd.C (Kd.int .i64) w A1_2 l1_2.length l1_2) (hc1_2 : l1_2.length ≤ c1_2) (hr3 : Kd.C k39 w A3 l3.length l3) (hc3 : l3.length ≤ c3) (h : meterlaw18_SpreadTells.f k a0_0 a0_1 l0_2 a1_0 a1_1 l1_2 a2 l3 = some r) (hrt_ : r = true), Calls Try.prog 5 #[.agg #[.int .i64 a0_0, .int .i64 a0_1, .slice A0_2 l0_2.length c0_2], .agg #[.int .i64 a1_0, .int .i64 a1_1, .slice A1_2 l1_2.length c1_2], .int .i64 a2, .slice A3 l3.length c3] w fun e w' => e = .returned (.bool r) ∧ Below w.heap.size w w' :=
 ⟨_,  fun hole2_ => by
  intro k a0_0 a0_1 A0_2 c0_2 l0_2 a1_0 a1_1 A1_2 c1_2 l1_2 a2 A3 c3 l3 r w hr0_2 hc0_2 hr1_2 hc1_2 hr3 hc3 h hrt_
  have hu24 := Try.underlying24
  have hu41 := Try.underlying41
  have HR0_2 := qM hr0_2
  have HC0_2 := qM hc0_2
  clear hr0_2 hc0_2
  have HR1_2 := qM hr1_2
  have HC1_2 := qM hc1_2
  clear hr1_2 hc1_2
  have HR3 := qM hr3
  have HC3 := qM hc3
  clear hr3 hc3
  have HB := qM (Below.refl w.heap.size w)
  have HRT := qM hrt_
  clear hrt_
  have H : ((meterlaw18_awake.f).bind fun t214 => (if t214 = true then (if (l0_2.length : Int) > 1000 then (meterlaw18_SpreadTells.j0 k a2 l3 true a0_0 a0_1 l0_2 a1_0 a1_1 l1_2) else (if (l1_2.length : Int) > 1000 then (meterlaw18_SpreadTells.j0 k a2 l3 true a0_0 a0_1 l0_2 a1_0 a1_1 l1_2) else (meterlaw18_SpreadTells.j0 k a2 l3 (decide ((l3.length : Int) > 1000)) a0_0 a0_1 l0_2 a1_0 a1_1 l1_2))) else (some false))) = some r := h
  clear h
  replace H := Option.bind_eq_some_iff.mp H
  obtain ⟨t214, A50, H⟩ := H
  replace H : (if t214 = true then (if (l0_2.length : Int) > 1000 then (meterlaw18_SpreadTells.j0 k a2 l3 true a0_0 a0_1 l0_2 a1_0 a1_1 l1_2) else (if (l1_2.length : Int) > 1000 then (meterlaw18_SpreadTells.j0 k a2 l3 true a0_0 a0_1 l0_2 a1_0 a1_1 l1_2) else (meterlaw18_SpreadTells.j0 k a2 l3 (decide ((l3.length : Int) > 1000)) a0_0 a0_1 l0_2 a1_0 a1_1 l1_2))) else (some false)) = some r := H
  have A5 := qM A50
  clear A50
  by_cases c6 : t214 = true
  · revert k a0_0 a0_1 A0_2 c0_2 l0_2 a1_0 a1_1 A1_2 c1_2 l1_2 a2 A3 c3 l3 r w hu24 hu41 HR0_2 HC0_2 HR1_2 HC1_2 HR3 HC3 HB HRT t214 H A5 c6
    exact hole2_.out
  replace c6 := Bool.eq_false_iff.mpr c6
  subst c6
  have H1 : (some false) = some r := by rw [if_neg (show ¬ (false = true) by decide)] at H; exact H
  clear H
  have H := H1
  clear H1
  exact absurd (H.trans (congrArg some HRT.out)) (by simp)⟩
end Go.Proofs.Ytojedfmmijglnaa.PSpreadTells
