-- Written by a program of this session's (wip/gprint.py): the kit's print, with functions given by hand.
import Derived.Test.YtnmlnghjapekcaaPTableMovesx0
import Derived.Test.YtnmlnghjapekcaaPTableMovesx1
import Derived.Test.YtnmlnghjapekcaaPTableMovesx2
import Derived.Test.YtnmlnghjapekcaaPTableMovesx3
namespace Go.Proofs.Ytnmlnghjapekcaa.PTableMoves
open Go.RowKit Go.Proofs.YtnmlnghjapekcaaW.PrintWords Go.Proofs.YtnmlnghjapekcaaW.PrintLast Go.Proofs.YtnmlnghjapekcaaW.PrintMore
attribute [local go_sem] max2_int min2_int max_two min_two max_three min_three max_four min_four   -- for this text's walks alone
set_option linter.unusedVariables false
set_option linter.unusedSimpArgs false

/-! ### meterlaw17_TableMoves: function 6 -/
mutual
def meterlaw17_TableMoves.j0 : Nat → List (S43) → Bool → Int → Int → List Int → Option (Bool)
  | 0, _, _, _, _, _ => none
  | k + 1, x2, x49, x160000, x160001, x160002 => if x49 = true then (some false) else ((table_Copy.f x160000 x160001 x160002).bind fun bt161 => (meterlaw17_TableMoves.l0 k x2 0 x160000 x160001 x160002 bt161.1 bt161.2.1 bt161.2.2))
def meterlaw17_TableMoves.l0 : Nat → List (S43) → Int → Int → Int → List Int → Int → Int → List Int → Option (Bool)
  | 0, _, _, _, _, _, _, _, _ => none
  | k + 1, x2, x10, x160000, x160001, x160002, x167000, x167001, x167002 => if x10 < (x2.length : Int) then (if 0 ≤ x10 then ((table_Owner.f x160000 x160001 x160002 ((rd_T43 x2 x10).f0)).bind fun bt168 => ((table_Move.f k x160000 x160001 x160002 ((rd_T43 x2 x10).f0) ((rd_T43 x2 x10).f1)).bind fun bt172 => (if bt168.2 = true then (if ((rd_T43 x2 x10).f1) ≥ 0 then (if ((rd_T43 x2 x10).f1) < x160001 then (meterlaw17_TableMoves.j2 k x2 x10 bt172.2.2.2 (bt168.1 != ((rd_T43 x2 x10).f1)) x160000 x160001 x160002 x167000 x167001 x167002 bt172.1 bt172.2.1 bt172.2.2.1) else (meterlaw17_TableMoves.j2 k x2 x10 bt172.2.2.2 false x160000 x160001 x160002 x167000 x167001 x167002 bt172.1 bt172.2.1 bt172.2.2.1)) else (meterlaw17_TableMoves.j2 k x2 x10 bt172.2.2.2 false x160000 x160001 x160002 x167000 x167001 x167002 bt172.1 bt172.2.1 bt172.2.2.1)) else (meterlaw17_TableMoves.j2 k x2 x10 bt172.2.2.2 false x160000 x160001 x160002 x167000 x167001 x167002 bt172.1 bt172.2.1 bt172.2.2.1)))) else (none)) else (some true)
def meterlaw17_TableMoves.j2 : Nat → List (S43) → Int → Int → Bool → Int → Int → List Int → Int → Int → List Int → Int → Int → List Int → Option (Bool)
  | 0, _, _, _, _, _, _, _, _, _, _, _, _, _ => none
  | k + 1, x2, x10, x14, x15, x160000, x160001, x160002, x167000, x167001, x167002, x179000, x179001, x179002 => if ((x14 == 0) != x15) = true then (meterlaw17_TableMoves.j3 k x2 x10 x15 true x160000 x160001 x160002 x167000 x167001 x167002 x179000 x179001 x179002) else (if 0 ≤ x10 then (if x10 < (x2.length : Int) then ((table_May.f k x160000 x160001 x160002 ((rd_T43 x2 x10).f0) ((rd_T43 x2 x10).f1)).bind fun t184 => (meterlaw17_TableMoves.j3 k x2 x10 x15 (t184 != x14) x160000 x160001 x160002 x167000 x167001 x167002 x179000 x179001 x179002)) else (none)) else (none))
def meterlaw17_TableMoves.j3 : Nat → List (S43) → Int → Bool → Bool → Int → Int → List Int → Int → Int → List Int → Int → Int → List Int → Option (Bool)
  | 0, _, _, _, _, _, _, _, _, _, _, _, _, _ => none
  | k + 1, x2, x10, x15, x130, x160000, x160001, x160002, x167000, x167001, x167002, x179000, x179001, x179002 => if x130 = true then (some false) else (if x15 = true then ((table_Right.f x179000 x179001 x179002).bind fun t185 => (if t185 = true then ((table_Newer.f x179000 x179001 x179002 x160000 x160001 x160002).bind fun t186 => (if t186 = true then ((table_Newer.f x160000 x160001 x160002 x179000 x179001 x179002).bind fun t187 => (if t187 = true then (meterlaw17_TableMoves.j4 k x2 x10 true x160000 x160001 x160002 x167000 x167001 x167002 x179000 x179001 x179002) else ((table_Newer.f x179000 x179001 x179002 x167000 x167001 x167002).bind fun t188 => (if t188 = true then ((table_Same.f k x179000 x179001 x179002 x160000 x160001 x160002).bind fun t189 => (if t189 = true then (meterlaw17_TableMoves.j4 k x2 x10 true x160000 x160001 x160002 x167000 x167001 x167002 x179000 x179001 x179002) else (meterlaw17_TableMoves.j4 k x2 x10 (x179000 != (wrap64 (x160000 + 1))) x160000 x160001 x160002 x167000 x167001 x167002 x179000 x179001 x179002))) else (meterlaw17_TableMoves.j4 k x2 x10 true x160000 x160001 x160002 x167000 x167001 x167002 x179000 x179001 x179002))))) else (meterlaw17_TableMoves.j4 k x2 x10 true x160000 x160001 x160002 x167000 x167001 x167002 x179000 x179001 x179002))) else (meterlaw17_TableMoves.j4 k x2 x10 true x160000 x160001 x160002 x167000 x167001 x167002 x179000 x179001 x179002))) else (meterlaw17_TableMoves.l0 k x2 (wrap64 (x10 + 1)) x160000 x160001 x160002 x167000 x167001 x167002))
def meterlaw17_TableMoves.j4 : Nat → List (S43) → Int → Bool → Int → Int → List Int → Int → Int → List Int → Int → Int → List Int → Option (Bool)
  | 0, _, _, _, _, _, _, _, _, _, _, _, _ => none
  | k + 1, x2, x10, x165, x160000, x160001, x160002, x167000, x167001, x167002, x179000, x179001, x179002 => if x165 = true then (some false) else (meterlaw17_TableMoves.l1 k x2 x10 0 x160000 x160001 x160002 x167000 x167001 x167002 x179000 x179001 x179002)
def meterlaw17_TableMoves.l1 : Nat → List (S43) → Int → Int → Int → Int → List Int → Int → Int → List Int → Int → Int → List Int → Option (Bool)
  | 0, _, _, _, _, _, _, _, _, _, _, _, _ => none
  | k + 1, x2, x10, x16, x160000, x160001, x160002, x167000, x167001, x167002, x179000, x179001, x179002 => if x16 < (x160002.length : Int) then ((table_Owner.f x179000 x179001 x179002 x16).bind fun bt190 => ((table_Owner.f x160000 x160001 x160002 x16).bind fun bt192 => (if 0 ≤ x10 then (if x10 < (x2.length : Int) then (if x16 = ((rd_T43 x2 x10).f0) then (if bt190.1 = ((rd_T43 x2 x10).f1) then (meterlaw17_TableMoves.l1 k x2 x10 (wrap64 (x16 + 1)) x160000 x160001 x160002 x167000 x167001 x167002 x179000 x179001 x179002) else (some false)) else (if bt190.1 = bt192.1 then (meterlaw17_TableMoves.l1 k x2 x10 (wrap64 (x16 + 1)) x160000 x160001 x160002 x167000 x167001 x167002 x179000 x179001 x179002) else (some false))) else (none)) else (none)))) else (meterlaw17_TableMoves.l0 k x2 (wrap64 (x10 + 1)) x179000 x179001 x179002 x167000 x167001 x167002)
end
def meterlaw17_TableMoves.f (k : Nat) (a0 : Int) (a1 : Int) (l2 : List (S43)) : Option (Bool) := (meterlaw17_awake.f k).bind fun t152 => (if t152 = true then (if (l2.length : Int) > 100 then (some true) else ((table_New.f k (wrap64 (1 + (wrap64 (Int.tmod a0 4)))) (wrap64 (1 + (wrap64 (Int.tmod a1 8))))).bind fun bt153 => (if bt153.2.2.2 = 0 then ((table_Right.f bt153.1 bt153.2.1 bt153.2.2.1).bind fun t160 => (if t160 = true then (meterlaw17_TableMoves.j0 k l2 (bt153.1 != 1) bt153.1 bt153.2.1 bt153.2.2.1) else (meterlaw17_TableMoves.j0 k l2 true bt153.1 bt153.2.1 bt153.2.2.1))) else (meterlaw17_TableMoves.j0 k l2 true bt153.1 bt153.2.1 bt153.2.2.1)))) else (some false))
theorem meterlaw17_TableMoves.mono_l : ∀ k, (∀ y0 y1 y2 y3 y4, LeO (meterlaw17_TableMoves.j0 k y0 y1 y2 y3 y4) (meterlaw17_TableMoves.j0 (k + 1) y0 y1 y2 y3 y4)) ∧ (∀ y0 y1 y2 y3 y4 y5 y6 y7, LeO (meterlaw17_TableMoves.l0 k y0 y1 y2 y3 y4 y5 y6 y7) (meterlaw17_TableMoves.l0 (k + 1) y0 y1 y2 y3 y4 y5 y6 y7)) ∧ (∀ y0 y1 y2 y3 y4 y5 y6 y7 y8 y9 y10 y11 y12, LeO (meterlaw17_TableMoves.j2 k y0 y1 y2 y3 y4 y5 y6 y7 y8 y9 y10 y11 y12) (meterlaw17_TableMoves.j2 (k + 1) y0 y1 y2 y3 y4 y5 y6 y7 y8 y9 y10 y11 y12)) ∧ (∀ y0 y1 y2 y3 y4 y5 y6 y7 y8 y9 y10 y11 y12, LeO (meterlaw17_TableMoves.j3 k y0 y1 y2 y3 y4 y5 y6 y7 y8 y9 y10 y11 y12) (meterlaw17_TableMoves.j3 (k + 1) y0 y1 y2 y3 y4 y5 y6 y7 y8 y9 y10 y11 y12)) ∧ (∀ y0 y1 y2 y3 y4 y5 y6 y7 y8 y9 y10 y11, LeO (meterlaw17_TableMoves.j4 k y0 y1 y2 y3 y4 y5 y6 y7 y8 y9 y10 y11) (meterlaw17_TableMoves.j4 (k + 1) y0 y1 y2 y3 y4 y5 y6 y7 y8 y9 y10 y11)) ∧ (∀ y0 y1 y2 y3 y4 y5 y6 y7 y8 y9 y10 y11, LeO (meterlaw17_TableMoves.l1 k y0 y1 y2 y3 y4 y5 y6 y7 y8 y9 y10 y11) (meterlaw17_TableMoves.l1 (k + 1) y0 y1 y2 y3 y4 y5 y6 y7 y8 y9 y10 y11))
  | 0 => ⟨fun _ _ _ _ _ r h => by simp [meterlaw17_TableMoves.j0] at h, fun _ _ _ _ _ _ _ _ r h => by simp [meterlaw17_TableMoves.l0] at h, fun _ _ _ _ _ _ _ _ _ _ _ _ _ r h => by simp [meterlaw17_TableMoves.j2] at h, fun _ _ _ _ _ _ _ _ _ _ _ _ _ r h => by simp [meterlaw17_TableMoves.j3] at h, fun _ _ _ _ _ _ _ _ _ _ _ _ r h => by simp [meterlaw17_TableMoves.j4] at h, fun _ _ _ _ _ _ _ _ _ _ _ _ r h => by simp [meterlaw17_TableMoves.l1] at h⟩
  | k + 1 => by
    obtain ⟨ih0, ih1, ih2, ih3, ih4, ih5⟩ := meterlaw17_TableMoves.mono_l k
    refine ⟨?_, ?_, ?_, ?_, ?_, ?_⟩
    · intro y0 y1 y2 y3 y4
      unfold meterlaw17_TableMoves.j0
      repeat' first
      | (with_reducible exact ih0 _ _ _ _ _)
      | (with_reducible exact ih1 _ _ _ _ _ _ _ _)
      | (with_reducible exact ih2 _ _ _ _ _ _ _ _ _ _ _ _ _)
      | (with_reducible exact ih3 _ _ _ _ _ _ _ _ _ _ _ _ _)
      | (with_reducible exact ih4 _ _ _ _ _ _ _ _ _ _ _ _)
      | (with_reducible exact ih5 _ _ _ _ _ _ _ _ _ _ _ _)
      | (with_reducible exact meterlaw17_awake.mono _)
      | (with_reducible exact table_May.mono _ _ _ _ _ _)
      | (with_reducible exact table_Move.mono _ _ _ _ _ _)
      | (with_reducible exact table_New.mono _ _ _)
      | (with_reducible exact table_Same.mono _ _ _ _ _ _ _)
      | (with_reducible exact LeO.refl _)
      | (with_reducible exact LeO.none _)
      | (with_reducible refine LeO.ite ?_ ?_)
      | (with_reducible refine LeO.bind ?_ (fun _ => ?_))
      | exact ih0 _ _ _ _ _
      | exact ih1 _ _ _ _ _ _ _ _
      | exact ih2 _ _ _ _ _ _ _ _ _ _ _ _ _
      | exact ih3 _ _ _ _ _ _ _ _ _ _ _ _ _
      | exact ih4 _ _ _ _ _ _ _ _ _ _ _ _
      | exact ih5 _ _ _ _ _ _ _ _ _ _ _ _
      | exact meterlaw17_awake.mono _
      | exact table_May.mono _ _ _ _ _ _
      | exact table_Move.mono _ _ _ _ _ _
      | exact table_New.mono _ _ _
      | exact table_Same.mono _ _ _ _ _ _ _
      | exact LeO.none _
      | refine LeO.ite ?_ ?_
      | refine LeO.bind ?_ (fun _ => ?_)
    · intro y0 y1 y2 y3 y4 y5 y6 y7
      unfold meterlaw17_TableMoves.l0
      repeat' first
      | (with_reducible exact ih0 _ _ _ _ _)
      | (with_reducible exact ih1 _ _ _ _ _ _ _ _)
      | (with_reducible exact ih2 _ _ _ _ _ _ _ _ _ _ _ _ _)
      | (with_reducible exact ih3 _ _ _ _ _ _ _ _ _ _ _ _ _)
      | (with_reducible exact ih4 _ _ _ _ _ _ _ _ _ _ _ _)
      | (with_reducible exact ih5 _ _ _ _ _ _ _ _ _ _ _ _)
      | (with_reducible exact meterlaw17_awake.mono _)
      | (with_reducible exact table_May.mono _ _ _ _ _ _)
      | (with_reducible exact table_Move.mono _ _ _ _ _ _)
      | (with_reducible exact table_New.mono _ _ _)
      | (with_reducible exact table_Same.mono _ _ _ _ _ _ _)
      | (with_reducible exact LeO.refl _)
      | (with_reducible exact LeO.none _)
      | (with_reducible refine LeO.ite ?_ ?_)
      | (with_reducible refine LeO.bind ?_ (fun _ => ?_))
      | exact ih0 _ _ _ _ _
      | exact ih1 _ _ _ _ _ _ _ _
      | exact ih2 _ _ _ _ _ _ _ _ _ _ _ _ _
      | exact ih3 _ _ _ _ _ _ _ _ _ _ _ _ _
      | exact ih4 _ _ _ _ _ _ _ _ _ _ _ _
      | exact ih5 _ _ _ _ _ _ _ _ _ _ _ _
      | exact meterlaw17_awake.mono _
      | exact table_May.mono _ _ _ _ _ _
      | exact table_Move.mono _ _ _ _ _ _
      | exact table_New.mono _ _ _
      | exact table_Same.mono _ _ _ _ _ _ _
      | exact LeO.none _
      | refine LeO.ite ?_ ?_
      | refine LeO.bind ?_ (fun _ => ?_)
    · intro y0 y1 y2 y3 y4 y5 y6 y7 y8 y9 y10 y11 y12
      unfold meterlaw17_TableMoves.j2
      repeat' first
      | (with_reducible exact ih0 _ _ _ _ _)
      | (with_reducible exact ih1 _ _ _ _ _ _ _ _)
      | (with_reducible exact ih2 _ _ _ _ _ _ _ _ _ _ _ _ _)
      | (with_reducible exact ih3 _ _ _ _ _ _ _ _ _ _ _ _ _)
      | (with_reducible exact ih4 _ _ _ _ _ _ _ _ _ _ _ _)
      | (with_reducible exact ih5 _ _ _ _ _ _ _ _ _ _ _ _)
      | (with_reducible exact meterlaw17_awake.mono _)
      | (with_reducible exact table_May.mono _ _ _ _ _ _)
      | (with_reducible exact table_Move.mono _ _ _ _ _ _)
      | (with_reducible exact table_New.mono _ _ _)
      | (with_reducible exact table_Same.mono _ _ _ _ _ _ _)
      | (with_reducible exact LeO.refl _)
      | (with_reducible exact LeO.none _)
      | (with_reducible refine LeO.ite ?_ ?_)
      | (with_reducible refine LeO.bind ?_ (fun _ => ?_))
      | exact ih0 _ _ _ _ _
      | exact ih1 _ _ _ _ _ _ _ _
      | exact ih2 _ _ _ _ _ _ _ _ _ _ _ _ _
      | exact ih3 _ _ _ _ _ _ _ _ _ _ _ _ _
      | exact ih4 _ _ _ _ _ _ _ _ _ _ _ _
      | exact ih5 _ _ _ _ _ _ _ _ _ _ _ _
      | exact meterlaw17_awake.mono _
      | exact table_May.mono _ _ _ _ _ _
      | exact table_Move.mono _ _ _ _ _ _
      | exact table_New.mono _ _ _
      | exact table_Same.mono _ _ _ _ _ _ _
      | exact LeO.none _
      | refine LeO.ite ?_ ?_
      | refine LeO.bind ?_ (fun _ => ?_)
    · intro y0 y1 y2 y3 y4 y5 y6 y7 y8 y9 y10 y11 y12
      unfold meterlaw17_TableMoves.j3
      repeat' first
      | (with_reducible exact ih0 _ _ _ _ _)
      | (with_reducible exact ih1 _ _ _ _ _ _ _ _)
      | (with_reducible exact ih2 _ _ _ _ _ _ _ _ _ _ _ _ _)
      | (with_reducible exact ih3 _ _ _ _ _ _ _ _ _ _ _ _ _)
      | (with_reducible exact ih4 _ _ _ _ _ _ _ _ _ _ _ _)
      | (with_reducible exact ih5 _ _ _ _ _ _ _ _ _ _ _ _)
      | (with_reducible exact meterlaw17_awake.mono _)
      | (with_reducible exact table_May.mono _ _ _ _ _ _)
      | (with_reducible exact table_Move.mono _ _ _ _ _ _)
      | (with_reducible exact table_New.mono _ _ _)
      | (with_reducible exact table_Same.mono _ _ _ _ _ _ _)
      | (with_reducible exact LeO.refl _)
      | (with_reducible exact LeO.none _)
      | (with_reducible refine LeO.ite ?_ ?_)
      | (with_reducible refine LeO.bind ?_ (fun _ => ?_))
      | exact ih0 _ _ _ _ _
      | exact ih1 _ _ _ _ _ _ _ _
      | exact ih2 _ _ _ _ _ _ _ _ _ _ _ _ _
      | exact ih3 _ _ _ _ _ _ _ _ _ _ _ _ _
      | exact ih4 _ _ _ _ _ _ _ _ _ _ _ _
      | exact ih5 _ _ _ _ _ _ _ _ _ _ _ _
      | exact meterlaw17_awake.mono _
      | exact table_May.mono _ _ _ _ _ _
      | exact table_Move.mono _ _ _ _ _ _
      | exact table_New.mono _ _ _
      | exact table_Same.mono _ _ _ _ _ _ _
      | exact LeO.none _
      | refine LeO.ite ?_ ?_
      | refine LeO.bind ?_ (fun _ => ?_)
    · intro y0 y1 y2 y3 y4 y5 y6 y7 y8 y9 y10 y11
      unfold meterlaw17_TableMoves.j4
      repeat' first
      | (with_reducible exact ih0 _ _ _ _ _)
      | (with_reducible exact ih1 _ _ _ _ _ _ _ _)
      | (with_reducible exact ih2 _ _ _ _ _ _ _ _ _ _ _ _ _)
      | (with_reducible exact ih3 _ _ _ _ _ _ _ _ _ _ _ _ _)
      | (with_reducible exact ih4 _ _ _ _ _ _ _ _ _ _ _ _)
      | (with_reducible exact ih5 _ _ _ _ _ _ _ _ _ _ _ _)
      | (with_reducible exact meterlaw17_awake.mono _)
      | (with_reducible exact table_May.mono _ _ _ _ _ _)
      | (with_reducible exact table_Move.mono _ _ _ _ _ _)
      | (with_reducible exact table_New.mono _ _ _)
      | (with_reducible exact table_Same.mono _ _ _ _ _ _ _)
      | (with_reducible exact LeO.refl _)
      | (with_reducible exact LeO.none _)
      | (with_reducible refine LeO.ite ?_ ?_)
      | (with_reducible refine LeO.bind ?_ (fun _ => ?_))
      | exact ih0 _ _ _ _ _
      | exact ih1 _ _ _ _ _ _ _ _
      | exact ih2 _ _ _ _ _ _ _ _ _ _ _ _ _
      | exact ih3 _ _ _ _ _ _ _ _ _ _ _ _ _
      | exact ih4 _ _ _ _ _ _ _ _ _ _ _ _
      | exact ih5 _ _ _ _ _ _ _ _ _ _ _ _
      | exact meterlaw17_awake.mono _
      | exact table_May.mono _ _ _ _ _ _
      | exact table_Move.mono _ _ _ _ _ _
      | exact table_New.mono _ _ _
      | exact table_Same.mono _ _ _ _ _ _ _
      | exact LeO.none _
      | refine LeO.ite ?_ ?_
      | refine LeO.bind ?_ (fun _ => ?_)
    · intro y0 y1 y2 y3 y4 y5 y6 y7 y8 y9 y10 y11
      unfold meterlaw17_TableMoves.l1
      repeat' first
      | (with_reducible exact ih0 _ _ _ _ _)
      | (with_reducible exact ih1 _ _ _ _ _ _ _ _)
      | (with_reducible exact ih2 _ _ _ _ _ _ _ _ _ _ _ _ _)
      | (with_reducible exact ih3 _ _ _ _ _ _ _ _ _ _ _ _ _)
      | (with_reducible exact ih4 _ _ _ _ _ _ _ _ _ _ _ _)
      | (with_reducible exact ih5 _ _ _ _ _ _ _ _ _ _ _ _)
      | (with_reducible exact meterlaw17_awake.mono _)
      | (with_reducible exact table_May.mono _ _ _ _ _ _)
      | (with_reducible exact table_Move.mono _ _ _ _ _ _)
      | (with_reducible exact table_New.mono _ _ _)
      | (with_reducible exact table_Same.mono _ _ _ _ _ _ _)
      | (with_reducible exact LeO.refl _)
      | (with_reducible exact LeO.none _)
      | (with_reducible refine LeO.ite ?_ ?_)
      | (with_reducible refine LeO.bind ?_ (fun _ => ?_))
      | exact ih0 _ _ _ _ _
      | exact ih1 _ _ _ _ _ _ _ _
      | exact ih2 _ _ _ _ _ _ _ _ _ _ _ _ _
      | exact ih3 _ _ _ _ _ _ _ _ _ _ _ _ _
      | exact ih4 _ _ _ _ _ _ _ _ _ _ _ _
      | exact ih5 _ _ _ _ _ _ _ _ _ _ _ _
      | exact meterlaw17_awake.mono _
      | exact table_May.mono _ _ _ _ _ _
      | exact table_Move.mono _ _ _ _ _ _
      | exact table_New.mono _ _ _
      | exact table_Same.mono _ _ _ _ _ _ _
      | exact LeO.none _
      | refine LeO.ite ?_ ?_
      | refine LeO.bind ?_ (fun _ => ?_)
theorem meterlaw17_TableMoves.mono : ∀ a0 a1 a2 k, LeO (meterlaw17_TableMoves.f k a0 a1 a2) (meterlaw17_TableMoves.f (k + 1) a0 a1 a2) := by
  intro a0 a1 a2 k
  obtain ⟨ih0, ih1, ih2, ih3, ih4, ih5⟩ := meterlaw17_TableMoves.mono_l k
  unfold meterlaw17_TableMoves.f
  repeat' first
      | (with_reducible exact ih0 _ _ _ _ _)
      | (with_reducible exact ih1 _ _ _ _ _ _ _ _)
      | (with_reducible exact ih2 _ _ _ _ _ _ _ _ _ _ _ _ _)
      | (with_reducible exact ih3 _ _ _ _ _ _ _ _ _ _ _ _ _)
      | (with_reducible exact ih4 _ _ _ _ _ _ _ _ _ _ _ _)
      | (with_reducible exact ih5 _ _ _ _ _ _ _ _ _ _ _ _)
      | (with_reducible exact meterlaw17_awake.mono _)
      | (with_reducible exact table_May.mono _ _ _ _ _ _)
      | (with_reducible exact table_Move.mono _ _ _ _ _ _)
      | (with_reducible exact table_New.mono _ _ _)
      | (with_reducible exact table_Same.mono _ _ _ _ _ _ _)
      | (with_reducible exact LeO.refl _)
      | (with_reducible exact LeO.none _)
      | (with_reducible refine LeO.ite ?_ ?_)
      | (with_reducible refine LeO.bind ?_ (fun _ => ?_))
      | exact ih0 _ _ _ _ _
      | exact ih1 _ _ _ _ _ _ _ _
      | exact ih2 _ _ _ _ _ _ _ _ _ _ _ _ _
      | exact ih3 _ _ _ _ _ _ _ _ _ _ _ _ _
      | exact ih4 _ _ _ _ _ _ _ _ _ _ _ _
      | exact ih5 _ _ _ _ _ _ _ _ _ _ _ _
      | exact meterlaw17_awake.mono _
      | exact table_May.mono _ _ _ _ _ _
      | exact table_Move.mono _ _ _ _ _ _
      | exact table_New.mono _ _ _
      | exact table_Same.mono _ _ _ _ _ _ _
      | exact LeO.none _
      | refine LeO.ite ?_ ?_
      | refine LeO.bind ?_ (fun _ => ?_)
def meterlaw17_TableMoves.T12 : Bool × List (List Nat × List Nat) := (true, [([], []), ([], []), ([], []), ([1, 2], [1, 2]), ([3], [3]), ([4], [4]), ([0, 5], [0, 5]), ([6], [6]), ([7], [7]), ([7], [7]), ([8, 6, 0, 1, 2, 3, 4, 5, 6, 7, 8], [8]), ([9, 10, 0, 1, 2, 3, 4, 5, 6, 7, 8, 9, 10], [9])])
def meterlaw17_TableMoves.B12 : List Nat := [0, 0, 0, 6, 14, 30, 63, 127, 255, 255, 511, 2047]
theorem meterlaw17_TableMoves.tab12 : rtab .any (opsOf Try.f6 12) = meterlaw17_TableMoves.T12 := by kernel_rfl
theorem meterlaw17_TableMoves.bits12 : waitsOk meterlaw17_TableMoves.T12.2 meterlaw17_TableMoves.B12 = true := by kernel_rfl
def meterlaw17_TableMoves.T13 : Bool × List (List Nat × List Nat) := (true, [([], []), ([], []), ([], []), ([1, 2], [1, 2]), ([3], [3]), ([4], [4]), ([], []), ([], []), ([6, 7], [6, 7]), ([8], [8]), ([9], [9]), ([0, 5, 10], [0, 5, 10]), ([11], [11]), ([12], [12]), ([12], [12]), ([], []), ([15, 13, 11, 0, 1, 2, 3, 4, 5, 6, 7, 8, 9, 10, 11, 12, 13, 15], [13, 15]), ([14, 16, 0, 1, 2, 3, 4, 5, 6, 7, 8, 9, 10, 11, 12, 13, 14, 15, 16], [14])])
def meterlaw17_TableMoves.B13 : List Nat := [0, 0, 0, 6, 14, 30, 0, 0, 192, 448, 960, 2047, 4095, 8191, 8191, 0, 49151, 131071]
theorem meterlaw17_TableMoves.tab13 : rtab .any (opsOf Try.f6 13) = meterlaw17_TableMoves.T13 := by kernel_rfl
theorem meterlaw17_TableMoves.bits13 : waitsOk meterlaw17_TableMoves.T13.2 meterlaw17_TableMoves.B13 = true := by kernel_rfl
def meterlaw17_TableMoves.T14 : Bool × List (List Nat × List Nat) := (true, [([], []), ([0], [0]), ([1], [1]), ([1], [1]), ([2, 3, 1], [1, 2, 3]), ([4, 1], [1, 4]), ([5, 1], [1, 5]), ([6, 1], [1, 6]), ([1, 7], [1, 7]), ([8, 1], [8]), ([9], [9]), ([9], [9]), ([10, 11, 9], [9, 10, 11]), ([12, 9], [9, 12]), ([13, 9], [9, 13]), ([9], [9]), ([15, 9], [9, 15]), ([14, 16, 9], [9, 14, 16]), ([9, 17], [9, 17]), ([18, 9], [18]), ([19], [19]), ([19], [19]), ([19], [19]), ([21, 22, 19], [19, 21, 22]), ([23, 19], [19, 23]), ([24, 19], [19, 24]), ([20, 25, 19], [19, 20, 25]), ([19, 26], [19, 26]), ([27, 19, 0, 1, 2, 3, 4, 5, 6, 7, 8, 9, 10, 11, 12, 13, 14, 15, 16, 17, 18, 19, 20, 21, 22, 23, 24, 25, 26, 27], [27])])
def meterlaw17_TableMoves.B14 : List Nat := [0, 1, 3, 3, 15, 31, 63, 127, 255, 511, 1023, 1023, 4095, 8191, 16383, 1023, 33791, 131071, 262143, 524287, 1048575, 1048575, 1048575, 7340031, 15728639, 32505855, 67108863, 134217727, 268435455]
theorem meterlaw17_TableMoves.tab14 : rtab .any (opsOf Try.f6 14) = meterlaw17_TableMoves.T14 := by kernel_rfl
theorem meterlaw17_TableMoves.bits14 : waitsOk meterlaw17_TableMoves.T14.2 meterlaw17_TableMoves.B14 = true := by kernel_rfl
def meterlaw17_TableMoves.T15 : Bool × List (List Nat × List Nat) := (true, [([], []), ([0], [0]), ([], []), ([1, 2], [1, 2]), ([3], [3]), ([4], [4]), ([4], [4]), ([4], [4]), ([6, 7, 4], [4, 6, 7]), ([8, 4], [4, 8]), ([9, 4], [4, 9]), ([4], [4]), ([4], [4]), ([11, 12, 4], [4, 11, 12]), ([13, 4], [4, 13]), ([14, 4], [4, 14]), ([5, 10, 15, 4, 4], [4, 5, 10, 15]), ([4], [4]), ([16, 17, 4], [4, 16, 17]), ([4, 18], [4, 18])])
def meterlaw17_TableMoves.B15 : List Nat := [0, 1, 0, 7, 15, 31, 31, 31, 223, 479, 991, 31, 31, 6175, 14367, 30751, 65535, 31, 262143, 524287]
theorem meterlaw17_TableMoves.tab15 : rtab .any (opsOf Try.f6 15) = meterlaw17_TableMoves.T15 := by kernel_rfl
theorem meterlaw17_TableMoves.bits15 : waitsOk meterlaw17_TableMoves.T15.2 meterlaw17_TableMoves.B15 = true := by kernel_rfl
set_option maxHeartbeats 8000000 in
set_option maxRecDepth 100000 in
noncomputable def meterlaw17_TableMoves.calls_cut : PSigma fun G1_ : Prop => Aside0 G1_ → ∀ (k : Nat) (a0 : Int) (a1 : Int) (A2 : Option Addr) (c2 : Nat) (l2 : List (S43)) (r : Bool) (w : World) (hr2 : Kd.C k43 w A2 l2.length l2) (hc2 : l2.length ≤ c2) (h : meterlaw17_TableMoves.f k a0 a1 l2 = some r) (hrt_ : r = true), Calls Try.prog 6 #[.int .u8 a0, .int .u8 a1, .slice A2 l2.length c2] w fun e w' => e = .returned (.bool r) ∧ Below w.heap.size w w' :=
 ⟨_,  fun hole1_ => by
  intro k a0 a1 A2 c2 l2 r w hr2 hc2 h hrt_
  have hu24 := Try.underlying24
  have HR2 := Aside0.mk hr2
  have HC2 := Aside0.mk hc2
  clear hr2 hc2
  have HB := Aside0.mk (Below.refl w.heap.size w)
  have HRT := Aside0.mk hrt_
  clear hrt_
  have H : ((meterlaw17_awake.f k).bind fun t152 => (if t152 = true then (if (l2.length : Int) > 100 then (some true) else ((table_New.f k (wrap64 (1 + (wrap64 (Int.tmod a0 4)))) (wrap64 (1 + (wrap64 (Int.tmod a1 8))))).bind fun bt153 => (if bt153.2.2.2 = 0 then ((table_Right.f bt153.1 bt153.2.1 bt153.2.2.1).bind fun t160 => (if t160 = true then (meterlaw17_TableMoves.j0 k l2 (bt153.1 != 1) bt153.1 bt153.2.1 bt153.2.2.1) else (meterlaw17_TableMoves.j0 k l2 true bt153.1 bt153.2.1 bt153.2.2.1))) else (meterlaw17_TableMoves.j0 k l2 true bt153.1 bt153.2.1 bt153.2.2.1)))) else (some false))) = some r := h
  clear h
  replace H := Option.bind_eq_some_iff.mp H
  obtain ⟨t152, A40, H⟩ := H
  replace H : (if t152 = true then (if (l2.length : Int) > 100 then (some true) else ((table_New.f k (wrap64 (1 + (wrap64 (Int.tmod a0 4)))) (wrap64 (1 + (wrap64 (Int.tmod a1 8))))).bind fun bt153 => (if bt153.2.2.2 = 0 then ((table_Right.f bt153.1 bt153.2.1 bt153.2.2.1).bind fun t160 => (if t160 = true then (meterlaw17_TableMoves.j0 k l2 (bt153.1 != 1) bt153.1 bt153.2.1 bt153.2.2.1) else (meterlaw17_TableMoves.j0 k l2 true bt153.1 bt153.2.1 bt153.2.2.1))) else (meterlaw17_TableMoves.j0 k l2 true bt153.1 bt153.2.1 bt153.2.2.1)))) else (some false)) = some r := H
  have A4 := Aside0.mk A40
  clear A40
  by_cases c5 : t152 = true
  · revert k a0 a1 A2 c2 l2 r w hu24 HR2 HC2 HB HRT t152 H A4 c5
    exact hole1_.out
  replace c5 := Bool.eq_false_iff.mpr c5
  subst c5
  have H1 : (some false) = some r := by rw [if_neg (show ¬ (false = true) by decide)] at H; exact H
  clear H
  have H := H1
  clear H1
  exact absurd (H.trans (congrArg some HRT.out)) (by simp)⟩
end Go.Proofs.Ytnmlnghjapekcaa.PTableMoves
