/- No table is newer than itself, of two at most one is newer, and what is newer than a newer one is newer; of two right ones of one size and unlike epochs just one is: for any three tables of at most 1000 owners. -/
import Derived.Test.YtnmlnghjapekcaaPTableOrderx3
namespace Go.Proofs.Ytnmlnghjapekcaa.Pure
open Go.RowKit Go.Proofs.Ytnmlnghjapekcaa.PTableOrder Go.Proofs.YtnmlnghjapekcaaW.PrintWords Go.Proofs.YtnmlnghjapekcaaW.PrintLast

/-! tables, plainly -/
def newerB (e1 n1 : Int) (l1 : List Int) (e2 n2 : Int) (l2 : List Int) : Bool := rightB e1 n1 l1 && (rightB e2 n2 l2 && (decide (n1 = n2) && (decide (l1.length = l2.length) && decide (e1 > e2))))
theorem newer_f (e1 n1 : Int) (l1 : List Int) (e2 n2 : Int) (l2 : List Int) : table_Newer.f e1 n1 l1 e2 n2 l2 = some (newerB e1 n1 l1 e2 n2 l2) := by
  unfold table_Newer.f table_Right.f newerB
  simp only [Option.bind_some]
  cases rightB e1 n1 l1
  · simp
  · cases rightB e2 n2 l2
    · simp
    · by_cases h : n1 = n2
      · by_cases h2 : l1.length = l2.length
        · simp [h, h2]
        · simp [h, h2, Int.ofNat_inj]
      · simp [h]
theorem right_f (e n : Int) (l : List Int) : table_Right.f e n l = some (rightB e n l) := rfl
theorem awake10 : meterlaw17_awake.f 10 = some true := by decide +kernel
theorem awake_f (k : Nat) (hk : 10 ≤ k) : meterlaw17_awake.f k = some true := at_rounds meterlaw17_awake.mono hk awake10
theorem great_f (e n : Int) (l : List Int) : meterlaw17_Great.f e n l = some (decide ((l.length : Int) > 1000)) := rfl
theorem j2_f (k : Nat) (x y : Bool) (e1 n1 : Int) (l1 : List Int) (e2 n2 : Int) (l2 : List Int) : meterlaw17_TableOrder.j2 (k + 1) x y e1 n1 l1 e2 n2 l2 = some (if y = true then x != newerB e2 n2 l2 e1 n1 l1 else if x = true then false else !newerB e2 n2 l2 e1 n1 l1) := by
  simp only [meterlaw17_TableOrder.j2, newer_f, Option.bind_some]
  cases x <;> cases y <;> simp
theorem j1_f (k : Nat) (x : Bool) (e1 n1 : Int) (l1 : List Int) (e2 n2 : Int) (l2 : List Int) (hx : x = newerB e1 n1 l1 e2 n2 l2) : meterlaw17_TableOrder.j1 (k + 2) x false e1 n1 l1 e2 n2 l2 = some true := by
  show meterlaw17_TableOrder.j1 ((k + 1) + 1) x false e1 n1 l1 e2 n2 l2 = _
  have j2 : ∀ y, meterlaw17_TableOrder.j2 (k + 1) x y e1 n1 l1 e2 n2 l2 = some (if y = true then x != newerB e2 n2 l2 e1 n1 l1 else if x = true then false else !newerB e2 n2 l2 e1 n1 l1) := fun y => j2_f k x y e1 n1 l1 e2 n2 l2
  generalize k + 1 = m at j2 ⊢
  simp only [meterlaw17_TableOrder.j1, right_f, Option.bind_some, j2]
  subst hx
  unfold newerB
  generalize rightB e1 n1 l1 = A
  generalize rightB e2 n2 l2 = B
  generalize l1.length = p
  generalize l2.length = q
  cases A <;> cases B <;> simp
  by_cases h1 : n1 = n2
  · by_cases h2 : p = q
    · subst h1 h2
      by_cases h3 : e1 = e2
      · subst h3
        simp
      · simp [h3]
        by_cases h4 : e2 < e1 <;> simp [h4] <;> omega
    · simp [h1, h2, Int.ofNat_inj, Ne.symm h2]
  · simp [h1, Ne.symm h1]
theorem TableOrder : meterlaw17_TableOrder.Pure := by
  intro ea na la eb nb lb ec nc lc _ _ _ _ _ _ _ _ _
  refine ⟨10, ?_⟩
  have jt : meterlaw17_TableOrder.j0 10 true ea na la eb nb lb ec nc lc = some true := by
    show meterlaw17_TableOrder.j0 (9 + 1) true ea na la eb nb lb ec nc lc = some true
    simp only [meterlaw17_TableOrder.j0, if_true]
  have jf : meterlaw17_TableOrder.j0 10 false ea na la eb nb lb ec nc lc = some true := by
    have j1 := j1_f 7 _ ea na la eb nb lb rfl
    show meterlaw17_TableOrder.j0 (9 + 1) false ea na la eb nb lb ec nc lc = some true
    have e9 : (7 + 2 : Nat) = 9 := rfl
    rw [e9] at j1
    generalize 9 = m at j1 ⊢
    simp only [meterlaw17_TableOrder.j0, newer_f, right_f, Option.bind_some]
    have irr : newerB ea na la ea na la = false := by unfold newerB; simp
    rw [irr]
    cases hx : newerB ea na la eb nb lb with
    | false =>
      rw [hx] at j1
      simp [j1]
    | true =>
      rw [hx] at j1
      have hx2 := hx
      unfold newerB at hx2
      simp only [Bool.and_eq_true, decide_eq_true_eq] at hx2
      obtain ⟨hA, hB, hn, hl, he⟩ := hx2
      have hy : newerB eb nb lb ea na la = false := by
        unfold newerB
        rw [decide_eq_false (p := eb > ea) (by omega)]
        simp
      rw [hy, hA, hB]
      cases hz : newerB eb nb lb ec nc lc with
      | false => simp [j1, show ¬ ea ≤ eb by omega]
      | true =>
        unfold newerB at hz
        simp only [Bool.and_eq_true, decide_eq_true_eq] at hz
        obtain ⟨_, hC, hn2, hl2, he2⟩ := hz
        have hw : newerB ea na la ec nc lc = true := by
          unfold newerB
          rw [hA, hC, decide_eq_true (by omega), decide_eq_true (by omega), decide_eq_true (by omega)]
          rfl
        simp [j1, hw, show ¬ ea ≤ eb by omega]
  unfold meterlaw17_TableOrder.f
  rw [awake_f 10 (by omega), great_f, great_f, great_f]
  simp only [Option.bind_some, if_true]
  by_cases h1 : (la.length : Int) > 1000
  · simp [h1, jt]
  by_cases h2 : (lb.length : Int) > 1000
  · simp [h1, h2, jt]
  by_cases h3 : (lc.length : Int) > 1000
  · simp [h1, h2, h3, jt]
  · simp [h1, h2, h3, jf]

end Go.Proofs.Ytnmlnghjapekcaa.Pure
