/- What is told of tables, and what a move makes of one, is the document's; what is handed in stays: for any two tables of at most 1000 owners, any numbers. -/
import Derived.Test.YtnmlnghjapekcaaPTableTellsx7
namespace Go.Proofs.Ytnmlnghjapekcaa.Pure
open Go.RowKit Go.Proofs.Ytnmlnghjapekcaa.PTableTells Go.Proofs.YtnmlnghjapekcaaW.PrintWords Go.Proofs.YtnmlnghjapekcaaW.PrintLast

/-! tables, plainly -/
def newerB (e1 n1 : Int) (l1 : List Int) (e2 n2 : Int) (l2 : List Int) : Bool := rightB e1 n1 l1 && (rightB e2 n2 l2 && (decide (n1 = n2) && (decide (l1.length = l2.length) && decide (e1 > e2))))
theorem newer_f (e1 n1 : Int) (l1 : List Int) (e2 n2 : Int) (l2 : List Int) : table_Newer.f e1 n1 l1 e2 n2 l2 = some (newerB e1 n1 l1 e2 n2 l2) := by
  unfold table_Newer.f table_Right.f newerB
  simp only [Option.bind_some]
  cases rightB e1 n1 l1
  · simp
  · cases rightB e2 n2 l2
    · simp
    · by_cases h : n1 = n2
      · by_cases h2 : l1.length = l2.length
        · simp [h, h2]
        · simp [h, h2, Int.ofNat_inj]
      · simp [h]
theorem right_f (e n : Int) (l : List Int) : table_Right.f e n l = some (rightB e n l) := rfl
theorem awake10 : meterlaw17_awake.f 10 = some true := by decide +kernel
theorem awake_f (k : Nat) (hk : 10 ≤ k) : meterlaw17_awake.f k = some true := at_rounds meterlaw17_awake.mono hk awake10
theorem great_f (e n : Int) (l : List Int) : meterlaw17_Great.f e n l = some (decide ((l.length : Int) > 1000)) := rfl
def mayC (e n : Int) (l : List Int) (p t : Int) : Int :=
  if rightB e n l = false ∨ e ≥ 2147483647 then 1 else if p < 0 ∨ p ≥ l.length then 21 else if t < 0 ∨ t ≥ n then 22 else if rd l p = t then 23 else 0
def moveC (e n : Int) (l : List Int) (p t : Int) : Int × Int × List Int × Int := if mayC e n l p t = 0 then (e + 1, n, l.set p.toNat t, 0) else (0, 0, [], mayC e n l p t)
theorem may_f (k : Nat) (hk : 3 ≤ k) (e n : Int) (l : List Int) (p t : Int) : table_May.f k e n l p t = some (mayC e n l p t) := by
  obtain ⟨k, rfl⟩ : ∃ m, k = m + 3 := ⟨k - 3, by omega⟩
  have j2t : table_May.j2 (k + 1) p t true e n l = some 22 := by simp [table_May.j2]
  have j2f : 0 ≤ p → p < l.length → table_May.j2 (k + 1) p t false e n l = some (if rd l p = t then 23 else 0) := by
    intro h0 h1
    simp only [table_May.j2]
    rw [if_neg (by simp), if_pos h0, if_pos h1]
    by_cases h : rd l p = t <;> simp [h]
  have j1t : table_May.j1 (k + 2) p t true e n l = some 21 := by
    show table_May.j1 ((k + 1) + 1) p t true e n l = _
    generalize k + 1 = m
    simp [table_May.j1]
  have j1f : 0 ≤ p → p < l.length → table_May.j1 (k + 2) p t false e n l = some (if t < 0 ∨ t ≥ n then 22 else if rd l p = t then 23 else 0) := by
    intro h0 h1
    have h2 := j2f h0 h1
    show table_May.j1 ((k + 1) + 1) p t false e n l = _
    generalize k + 1 = m at j2t h2
    simp only [table_May.j1]
    rw [if_neg (by simp)]
    by_cases h3 : t < 0
    · rw [if_pos h3, j2t, if_pos (.inl h3)]
    rw [if_neg h3]
    by_cases h4 : t ≥ n
    · rw [decide_eq_true h4, j2t, if_pos (.inr h4)]
    · rw [decide_eq_false h4, h2, if_neg (show ¬ (t < 0 ∨ t ≥ n) by omega)]
  have j0t : table_May.j0 (k + 3) p t true e n l = some 1 := by
    show table_May.j0 ((k + 2) + 1) p t true e n l = _
    generalize k + 2 = m
    simp [table_May.j0]
  have j0f : table_May.j0 (k + 3) p t false e n l = some (if p < 0 ∨ p ≥ l.length then 21 else if t < 0 ∨ t ≥ n then 22 else if rd l p = t then 23 else 0) := by
    show table_May.j0 ((k + 2) + 1) p t false e n l = _
    generalize k + 2 = m at j1t j1f
    simp only [table_May.j0]
    rw [if_neg (by simp)]
    by_cases h3 : p < 0
    · rw [if_pos h3, j1t, if_pos (.inl h3)]
    rw [if_neg h3]
    by_cases h4 : p ≥ (l.length : Int)
    · rw [decide_eq_true h4, j1t, if_pos (.inr h4)]
    · rw [decide_eq_false h4, j1f (by omega) (by omega), if_neg (show ¬ (p < 0 ∨ p ≥ (l.length : Int)) by omega)]
  unfold table_May.f mayC
  rw [right_f]
  simp only [Option.bind_some]
  cases hr : rightB e n l with
  | false => rw [if_neg (by simp), if_pos (.inl rfl), j0t]
  | true =>
    rw [if_pos rfl]
    by_cases h : e ≥ 2147483647
    · rw [decide_eq_true h, j0t, if_pos (.inr h)]
    · rw [decide_eq_false h, j0f, if_neg (show ¬ (true = false ∨ e ≥ 2147483647) by simp; omega)]
theorem right_len {e n : Int} {l : List Int} (h : rightB e n l = true) : 1 ≤ e ∧ 1 ≤ n ∧ n ≤ 4 ∧ 1 ≤ l.length ∧ l.length ≤ 8 ∧ l.any (badB n) = false := by
  unfold rightB at h
  simp only [Bool.and_eq_true, decide_eq_true_eq, Bool.not_eq_true'] at h
  exact ⟨h.1, h.2.1, h.2.2.1, h.2.2.2.1, h.2.2.2.2.1, h.2.2.2.2.2⟩
theorem right_mk {e n : Int} {l : List Int} (h1 : 1 ≤ e) (h2 : 1 ≤ n) (h3 : n ≤ 4) (h4 : 1 ≤ l.length) (h5 : l.length ≤ 8) (h6 : l.any (badB n) = false) : rightB e n l = true := by
  unfold rightB
  rw [decide_eq_true h1, decide_eq_true h2, decide_eq_true h3, decide_eq_true h4, decide_eq_true h5, h6]
  rfl
theorem may_zero {e n : Int} {l : List Int} {p t : Int} : mayC e n l p t = 0 ↔ rightB e n l = true ∧ e < 2147483647 ∧ 0 ≤ p ∧ p < l.length ∧ 0 ≤ t ∧ t < n ∧ rd l p ≠ t := by
  unfold mayC
  constructor
  · intro h
    by_cases h1 : rightB e n l = false ∨ e ≥ 2147483647
    · rw [if_pos h1] at h
      cases h
    rw [if_neg h1] at h
    by_cases h2 : p < 0 ∨ p ≥ l.length
    · rw [if_pos h2] at h
      cases h
    rw [if_neg h2] at h
    by_cases h3 : t < 0 ∨ t ≥ n
    · rw [if_pos h3] at h
      cases h
    rw [if_neg h3] at h
    by_cases h4 : rd l p = t
    · rw [if_pos h4] at h
      cases h
    refine ⟨?_, by omega, by omega, by omega, by omega, by omega, h4⟩
    cases hr : rightB e n l with
    | true => rfl
    | false => exact absurd (.inl hr) h1
  · rintro ⟨h1, h2, h3, h4, h5, h6, h7⟩
    rw [if_neg (by rw [h1]; simp; omega), if_neg (by omega), if_neg (by omega), if_neg h7]
theorem move_f (k : Nat) (hk : 3 ≤ k) (e n : Int) (l : List Int) (p t : Int) : table_Move.f k e n l p t = some (moveC e n l p t) := by
  unfold table_Move.f moveC
  rw [may_f k hk]
  simp only [Option.bind_some]
  by_cases h : mayC e n l p t = 0
  · obtain ⟨h1, h2, h3, h4, h5, h6, h7⟩ := may_zero.1 h
    obtain ⟨r1, r2, r3, r4, r5, r6⟩ := right_len h1
    have hc : table_Copy.f e n l = some (e, n, l) := by
      unfold table_Copy.f slices_Clone_int_int.f
      rw [if_pos (by omega)]
      rfl
    rw [if_pos h, if_pos h, hc]
    simp only [Option.bind_some]
    rw [if_pos h3, if_pos h4]
    congr 2
    unfold wrap64
    omega
  · rw [if_neg h, if_neg h]
theorem rd_set (l : List Int) (i j : Nat) (v : Int) (h : i < l.length) : rd (l.set i v) j = if i = j then v else rd l j := by
  unfold rd
  simp only [Int.toNat_natCast, List.getD_eq_getElem?_getD, List.getElem?_set]
  by_cases e : i = j
  · subst e
    simp [h]
  · simp [e]
theorem rd_get (l : List Int) (i : Nat) (h : i < l.length) : rd l i = l[i] := by
  unfold rd
  rw [Int.toNat_natCast, List.getD_eq_getElem?_getD, List.getElem?_eq_getElem h]
  rfl
theorem bad_rd {n : Int} {l : List Int} (h : l.any (badB n) = false) (i : Nat) (hi : i < l.length) : 0 ≤ rd l i ∧ rd l i < n := by
  rw [List.any_eq_false] at h
  have h2 := h l[i] (List.getElem_mem hi)
  rw [← rd_get l i hi] at h2
  unfold badB at h2
  simp only [Bool.or_eq_true, decide_eq_true_eq, not_or] at h2
  omega
theorem bad_set {n : Int} {l : List Int} (h : l.any (badB n) = false) (i : Nat) (v : Int) (h0 : 0 ≤ v) (h1 : v < n) : (l.set i v).any (badB n) = false := by
  rw [List.any_eq_false] at h ⊢
  intro x hx
  rcases List.mem_or_eq_of_mem_set hx with hx | hx
  · exact h x hx
  · subst hx
    unfold badB
    simp only [Bool.or_eq_true, decide_eq_true_eq, not_or]
    omega
theorem set_rd (l : List Int) (i : Nat) (h : i < l.length) : l.set i (rd l i) = l := by
  rw [rd_get l i h]
  exact List.set_getElem_self h
theorem right_move {e n : Int} {l : List Int} {p t : Int} (h : mayC e n l p t = 0) : rightB (e + 1) n (l.set p.toNat t) = true := by
  obtain ⟨h1, h2, h3, h4, h5, h6, h7⟩ := may_zero.1 h
  obtain ⟨r1, r2, r3, r4, r5, r6⟩ := right_len h1
  exact right_mk (by omega) r2 r3 (by rw [List.length_set]; exact r4) (by rw [List.length_set]; exact r5) (bad_set r6 _ _ h5 h6)
theorem equal_l0 (l m : List Int) (hl : l.length = m.length) (hm : l.length ≤ 9223372036854775806) : ∀ (d i k : Nat), i + d = l.length → d < k →
    slices_Equal_int_int.l0 k l m l.length i = some (decide (l.drop i = m.drop i)) := by
  intro d
  induction d with
  | zero =>
    intro i k h hk
    obtain ⟨k, rfl⟩ : ∃ z, k = z + 1 := ⟨k - 1, by omega⟩
    simp only [slices_Equal_int_int.l0]
    rw [if_neg (by omega), List.drop_of_length_le (by omega), List.drop_of_length_le (by omega)]
    simp
  | succ d ih =>
    intro i k h hk
    obtain ⟨k, rfl⟩ : ∃ z, k = z + 1 := ⟨k - 1, by omega⟩
    have hi : i < l.length := by omega
    have hj : i < m.length := by omega
    have e1 : rd l (i : Int) = l[i] := by
      unfold rd
      rw [Int.toNat_natCast, List.getD_eq_getElem?_getD, List.getElem?_eq_getElem hi]
      rfl
    have e2 : rd m (i : Int) = m[i] := by
      unfold rd
      rw [Int.toNat_natCast, List.getD_eq_getElem?_getD, List.getElem?_eq_getElem hj]
      rfl
    simp only [slices_Equal_int_int.l0]
    rw [if_pos (by omega), if_pos (by omega), if_pos (by omega), if_pos (by omega), e1, e2, List.drop_eq_getElem_cons hi, List.drop_eq_getElem_cons hj]
    by_cases he : l[i] = m[i]
    · have hn := ih (i + 1) k (by omega) (by omega)
      rw [if_pos he, show wrap64 ((i : Int) + 1) = ((i + 1 : Nat) : Int) by unfold wrap64; omega, hn]
      congr 1
      apply decide_eq_decide.2
      rw [List.cons.injEq]
      simp only [he, true_and]
    · rw [if_neg he]
      congr 1
      symm
      apply decide_eq_false
      intro hc
      exact he (List.cons.inj hc).1
theorem equal_f (l m : List Int) (hm : l.length ≤ 9223372036854775806) (k : Nat) (hk : l.length < k) : slices_Equal_int_int.f k l m = some (decide (l = m)) := by
  unfold slices_Equal_int_int.f
  by_cases h : l.length = m.length
  · have h0 := equal_l0 l m h hm l.length 0 k (by omega) hk
    rw [if_pos (by omega)]
    simpa using h0
  · rw [if_neg (by omega), decide_eq_false (fun e => h (by rw [e]))]
theorem same_f (e1 n1 : Int) (l1 : List Int) (e2 n2 : Int) (l2 : List Int) (hm : l1.length ≤ 9223372036854775806) (k : Nat) (hk : l1.length < k) : table_Same.f k e1 n1 l1 e2 n2 l2 = some (decide (e1 = e2 ∧ n1 = n2 ∧ l1 = l2)) := by
  unfold table_Same.f
  rw [equal_f l1 l2 hm k hk]
  by_cases h1 : e1 = e2
  · by_cases h2 : n1 = n2
    · simp [h1, h2]
    · simp [h1, h2]
  · simp [h1]
theorem owner_f (e n : Int) (l : List Int) (p : Int) : table_Owner.f e n l p = some (if rightB e n l = true ∧ 0 ≤ p ∧ p < l.length then (rd l p, true) else (0, false)) := by
  unfold table_Owner.f
  rw [right_f]
  simp only [Option.bind_some]
  cases hr : rightB e n l with
  | false => simp
  | true =>
    rw [if_pos rfl]
    by_cases h1 : p < 0
    · rw [if_pos h1, if_neg (by omega)]
    rw [if_neg h1]
    by_cases h2 : p ≥ (l.length : Int)
    · rw [if_pos h2, if_neg (by omega)]
    · rw [if_neg h2, if_pos (by omega), if_pos (by omega), if_pos ⟨rfl, by omega, by omega⟩]
/-! the document's answers -/
theorem rd_at (l : List Int) (i : Nat) (hi : i < l.length) : rd l (i : Int) = l[i] := by
  unfold rd
  rw [Int.toNat_natCast, List.getD_eq_getElem?_getD, List.getElem?_eq_getElem hi]
  rfl
theorem wr1 (i : Nat) (h : i < 9223372036854775000) : wrap64 ((i : Int) + 1) = ((i + 1 : Nat) : Int) := by unfold wrap64; omega
theorem refright_l0 (e n : Int) (l : List Int) (hl : l.length ≤ 8) : ∀ (d i k : Nat), i + d = l.length → d < k → meterref17_Right.l0 k i e n l = some (!((l.drop i).any (badB n))) := by
  intro d
  induction d with
  | zero =>
    intro i k h hk
    obtain ⟨k, rfl⟩ : ∃ z, k = z + 1 := ⟨k - 1, by omega⟩
    simp only [meterref17_Right.l0]
    rw [if_neg (by omega), List.drop_of_length_le (by omega)]
    rfl
  | succ d ih =>
    intro i k h hk
    obtain ⟨k, rfl⟩ : ∃ z, k = z + 1 := ⟨k - 1, by omega⟩
    have hi : i < l.length := by omega
    simp only [meterref17_Right.l0]
    rw [if_pos (by omega), if_pos (by omega), rd_at l i hi, List.drop_eq_getElem_cons hi, List.any_cons, wr1 i (by omega), ih (i + 1) k (by omega) (by omega)]
    unfold badB
    by_cases h1 : l[i] < 0
    · rw [if_pos h1, decide_eq_true h1]
      rfl
    · rw [if_neg h1, decide_eq_false h1]
      by_cases h2 : l[i] ≥ n
      · rw [if_pos h2, decide_eq_true h2]
        rfl
      · rw [if_neg h2, decide_eq_false h2]
        rfl
theorem refright_f (k : Nat) (hk : 12 ≤ k) (e n : Int) (l : List Int) : meterref17_Right.f k e n l = some (rightB e n l) := by
  obtain ⟨k, rfl⟩ : ∃ z, k = z + 1 := ⟨k - 1, by omega⟩
  have jt : ∀ a b c, meterref17_Right.j0 (k + 1) true a b c = some false := fun a b c => by
    simp only [meterref17_Right.j0]
    rw [if_pos trivial]
  have jf : l.length ≤ 8 → meterref17_Right.j0 (k + 1) false e n l = some (!(l.any (badB n))) := fun hl => by
    simp only [meterref17_Right.j0]
    rw [if_neg (by simp)]
    exact refright_l0 e n l hl l.length 0 k (by omega) (by omega)
  unfold meterref17_Right.f rightB
  generalize k + 1 = m at jt jf
  by_cases h1 : e < 1
  · rw [if_pos h1, jt, decide_eq_false (by omega)]
    rfl
  rw [if_neg h1, decide_eq_true (show 1 ≤ e by omega)]
  by_cases h2 : n < 1
  · rw [if_pos h2, jt, decide_eq_false (show ¬ 1 ≤ n by omega)]
    rfl
  rw [if_neg h2, decide_eq_true (show 1 ≤ n by omega)]
  by_cases h3 : n > 4
  · rw [if_pos h3, jt, decide_eq_false (show ¬ n ≤ 4 by omega)]
    rfl
  rw [if_neg h3, decide_eq_true (show n ≤ 4 by omega)]
  by_cases h4 : (l.length : Int) < 1
  · rw [if_pos h4, jt, decide_eq_false (show ¬ 1 ≤ l.length by omega)]
    rfl
  rw [if_neg h4, decide_eq_true (show 1 ≤ l.length by omega)]
  by_cases h5 : (l.length : Int) > 8
  · rw [decide_eq_true h5, jt, decide_eq_false (show ¬ l.length ≤ 8 by omega)]
    rfl
  rw [decide_eq_false h5, jf (by omega), decide_eq_true (show l.length ≤ 8 by omega)]
  rfl
theorem refsame_l0 (e n : Int) (l : List Int) (e2 n2 : Int) (m : List Int) (hl : l.length = m.length) (hm : l.length ≤ 1000000) : ∀ (d i k : Nat), i + d = l.length → d < k →
    meterref17_Same.l0 k i e n l e2 n2 m = some (decide (l.drop i = m.drop i)) := by
  intro d
  induction d with
  | zero =>
    intro i k h hk
    obtain ⟨k, rfl⟩ : ∃ z, k = z + 1 := ⟨k - 1, by omega⟩
    simp only [meterref17_Same.l0]
    rw [if_neg (by omega), List.drop_of_length_le (by omega), List.drop_of_length_le (by omega)]
    simp
  | succ d ih =>
    intro i k h hk
    obtain ⟨k, rfl⟩ : ∃ z, k = z + 1 := ⟨k - 1, by omega⟩
    have hi : i < l.length := by omega
    have hj : i < m.length := by omega
    simp only [meterref17_Same.l0]
    rw [if_pos (by omega), if_pos (by omega), if_pos (by omega), rd_at l i hi, rd_at m i hj, List.drop_eq_getElem_cons hi, List.drop_eq_getElem_cons hj]
    by_cases he : l[i] = m[i]
    · have hn := ih (i + 1) k (by omega) (by omega)
      rw [if_pos he, wr1 i (by omega), hn]
      congr 1
      apply decide_eq_decide.2
      rw [List.cons.injEq]
      simp only [he, true_and]
    · rw [if_neg he]
      congr 1
      symm
      apply decide_eq_false
      intro hc
      exact he (List.cons.inj hc).1
theorem refsame_f (k : Nat) (e1 n1 : Int) (l1 : List Int) (e2 n2 : Int) (l2 : List Int) (hm : l1.length ≤ 1000000) (hk : l1.length + 1 < k) : meterref17_Same.f k e1 n1 l1 e2 n2 l2 = some (decide (e1 = e2 ∧ n1 = n2 ∧ l1 = l2)) := by
  obtain ⟨k, rfl⟩ : ∃ z, k = z + 1 := ⟨k - 1, by omega⟩
  have jt : ∀ a b c d e f, meterref17_Same.j0 (k + 1) true a b c d e f = some false := fun a b c d e f => by
    simp only [meterref17_Same.j0]
    rw [if_pos trivial]
  have jf : l1.length = l2.length → meterref17_Same.j0 (k + 1) false e1 n1 l1 e2 n2 l2 = some (decide (l1 = l2)) := fun hl => by
    have := refsame_l0 e1 n1 l1 e2 n2 l2 hl hm l1.length 0 k (by omega) (by omega)
    simp only [meterref17_Same.j0]
    rw [if_neg (by simp)]
    simpa using this
  unfold meterref17_Same.f
  generalize k + 1 = m at jt jf
  by_cases h1 : e1 = e2
  · by_cases h2 : n1 = n2
    · by_cases h3 : l1.length = l2.length
      · rw [if_pos h1, if_pos h2, show ((l1.length : Int) != (l2.length : Int)) = false by simp [h3], jf h3]
        simp [h1, h2]
      · rw [if_pos h1, if_pos h2, show ((l1.length : Int) != (l2.length : Int)) = true by simp; omega, jt]
        have : ¬ l1 = l2 := fun h => h3 (by rw [h])
        simp [this]
    · rw [if_pos h1, if_neg h2, jt]
      simp [h2]
  · rw [if_neg h1, jt]
    simp [h1]
theorem refsame_refl (k : Nat) (e n : Int) (l : List Int) (hm : l.length ≤ 1000000) (hk : l.length + 1 < k) : meterref17_Same.f k e n l e n l = some true := by
  rw [refsame_f k e n l e n l hm hk]
  simp
theorem refnewer_f (k : Nat) (hk : 12 ≤ k) (e1 n1 : Int) (l1 : List Int) (e2 n2 : Int) (l2 : List Int) : meterref17_Newer.f k e1 n1 l1 e2 n2 l2 = some (newerB e1 n1 l1 e2 n2 l2) := by
  have h := newer_f e1 n1 l1 e2 n2 l2
  unfold table_Newer.f at h
  rw [right_f, right_f] at h
  unfold meterref17_Newer.f
  rw [refright_f k hk, refright_f k hk]
  exact h
theorem refnew_ok : ∀ (a : Fin 4) (b : Fin 8), (match table_New.f 20 (1 + (a.val : Int)) (1 + (b.val : Int)) with | some (e, n, l, r) => (meterref17_New.f 20 (1 + (a.val : Int)) (1 + (b.val : Int)) == some (e, n, l, r)) && decide (l.length ≤ 8) | none => false) = true := by decide +kernel
theorem new_both (k : Nat) (hk : 20 ≤ k) (p t : Int) : ∃ e n l r, table_New.f k p t = some (e, n, l, r) ∧ meterref17_New.f k p t = some (e, n, l, r) ∧ l.length ≤ 8 := by
  by_cases h : 1 ≤ p ∧ p ≤ 4 ∧ 1 ≤ t ∧ t ≤ 8
  · obtain ⟨h1, h2, h3, h4⟩ := h
    obtain ⟨a, ha⟩ := Int.eq_ofNat_of_zero_le (show 0 ≤ p - 1 by omega)
    obtain ⟨b, hb⟩ := Int.eq_ofNat_of_zero_le (show 0 ≤ t - 1 by omega)
    have q := refnew_ok ⟨a, by omega⟩ ⟨b, by omega⟩
    simp only at q
    rw [show 1 + (a : Int) = p by omega, show 1 + (b : Int) = t by omega] at q
    cases hq : table_New.f 20 p t with
    | none => rw [hq] at q; cases q
    | some x =>
      obtain ⟨e, n, l, r⟩ := x
      rw [hq] at q
      simp only [Bool.and_eq_true, beq_iff_eq, decide_eq_true_eq] at q
      exact ⟨e, n, l, r, at_rounds (table_New.mono _ _) hk hq, at_rounds (meterref17_New.mono _ _) hk q.1, q.2⟩
  · obtain ⟨k, rfl⟩ : ∃ z, k = z + 1 := ⟨k - 1, by omega⟩
    have j1 : table_New.j0 (k + 1) p t true = some (0, 0, [], 1) := by
      simp only [table_New.j0]
      rw [if_pos trivial]
    have j2 : meterref17_New.j0 (k + 1) p t true = some (0, 0, [], 1) := by
      simp only [meterref17_New.j0]
      rw [if_pos trivial]
    refine ⟨0, 0, [], 1, ?_, ?_, by simp⟩
    · unfold table_New.f
      generalize k + 1 = m at j1
      by_cases h1 : p < 1
      · rw [if_pos h1, j1]
      by_cases h2 : p > 4
      · rw [if_neg h1, if_pos h2, j1]
      by_cases h3 : t < 1
      · rw [if_neg h1, if_neg h2, if_pos h3, j1]
      rw [if_neg h1, if_neg h2, if_neg h3, decide_eq_true (show t > 8 by omega), j1]
    · unfold meterref17_New.f
      generalize k + 1 = m at j2
      by_cases h1 : p < 1
      · rw [if_pos h1, j2]
      by_cases h2 : p > 4
      · rw [if_neg h1, if_pos h2, j2]
      by_cases h3 : t < 1
      · rw [if_neg h1, if_neg h2, if_pos h3, j2]
      rw [if_neg h1, if_neg h2, if_neg h3, decide_eq_true (show t > 8 by omega), j2]
theorem take_snoc (l : List Int) (i : Nat) (h : i < l.length) : l.take i ++ [l[i]] = l.take (i + 1) := by rw [List.take_succ_eq_append_getElem h]
theorem refmove_l0 (p : Nat) (t e n : Int) (l : List Int) (a b : Int) (hl : l.length ≤ 8) (hp : p < l.length) : ∀ (d i k : Nat), i + d = l.length → d < k →
    meterref17_Move.l0 k p t i e n l a b ((l.set p t).take i) = some (a, b, l.set p t, 0) := by
  intro d
  induction d with
  | zero =>
    intro i k h hk
    obtain ⟨k, rfl⟩ : ∃ z, k = z + 1 := ⟨k - 1, by omega⟩
    simp only [meterref17_Move.l0]
    rw [if_neg (by omega), List.take_of_length_le (by rw [List.length_set]; omega)]
  | succ d ih =>
    intro i k h hk
    obtain ⟨k, rfl⟩ : ∃ z, k = z + 1 := ⟨k - 1, by omega⟩
    have hi : i < l.length := by omega
    have hs : i < (l.set p t).length := by rw [List.length_set]; exact hi
    have hn := ih (i + 1) k (by omega) (by omega)
    rw [← take_snoc _ i hs, List.getElem_set] at hn
    have hlen : ((l.set p t).take i).length < 17592186044416 := by rw [List.length_take, List.length_set]; omega
    simp only [meterref17_Move.l0]
    rw [if_pos (by omega), if_pos (by omega), wr1 i (by omega)]
    by_cases q : p = i
    · have q2 : (i : Int) = (p : Int) := by rw [q]
      rw [if_pos q2, if_pos hlen]
      rw [if_pos q] at hn
      exact hn
    · have q2 : ¬ (i : Int) = (p : Int) := fun h => q (Int.ofNat.inj h).symm
      rw [if_neg q2, if_pos hlen, rd_at l i hi]
      rw [if_neg q] at hn
      exact hn
theorem refmove_f (k : Nat) (hk : 20 ≤ k) (e n : Int) (l : List Int) (p t : Int) : meterref17_Move.f k e n l p t = some (moveC e n l p t) := by
  obtain ⟨k, rfl⟩ : ∃ z, k = z + 3 := ⟨k - 3, by omega⟩
  have rf := refright_f (k + 3) (by omega) e n l
  have cut : ∀ z : Int, z ≠ 0 → mayC e n l p t = z → moveC e n l p t = (0, 0, [], z) := fun z hz h => by
    unfold moveC
    rw [h, if_neg hz]
  by_cases h1 : rightB e n l = false ∨ e ≥ 2147483647
  · have hm : mayC e n l p t = 1 := by unfold mayC; rw [if_pos h1]
    rw [cut 1 (by decide) hm]
    have j0 : meterref17_Move.j0 ((k + 2) + 1) p t true e n l = some (0, 0, [], 1) := by
      simp only [meterref17_Move.j0]
      rw [if_pos trivial]
    unfold meterref17_Move.f
    rw [rf]
    clear hm cut rf
    generalize k + 3 = m at *
    cases hr : rightB e n l with
    | false =>
      rw [Option.bind_some, if_neg (by simp)]
      exact j0
    | true =>
      rw [hr] at h1
      have he : e ≥ 2147483647 := by
        rcases h1 with h | h
        · cases h
        · exact h
      rw [Option.bind_some, if_pos rfl, decide_eq_true he]
      exact j0
  have hr : rightB e n l = true := by
    cases h : rightB e n l
    · exact absurd (.inl h) h1
    · rfl
  have he : ¬ e ≥ 2147483647 := fun h => h1 (.inr h)
  obtain ⟨r1, r2, r3, r4, r5, r6⟩ := right_len hr
  have hwe : wrap64 (e + 1) = e + 1 := by clear cut; unfold wrap64; omega
  unfold meterref17_Move.f
  rw [rf, hr, Option.bind_some, if_pos rfl, decide_eq_false he]
  clear rf
  show meterref17_Move.j0 ((k + 2) + 1) p t false e n l = _
  by_cases h2 : p < 0 ∨ p ≥ l.length
  · have hm : mayC e n l p t = 21 := by unfold mayC; rw [if_neg h1, if_pos h2]
    rw [cut 21 (by decide) hm]
    clear hm cut
    have j1 : meterref17_Move.j1 ((k + 1) + 1) p t true e n l = some (0, 0, [], 21) := by
      simp only [meterref17_Move.j1]
      rw [if_pos trivial]
    generalize k + 2 = m at *
    simp only [meterref17_Move.j0]
    rw [if_neg (by simp)]
    by_cases h3 : p < 0
    · rw [if_pos h3]
      exact j1
    · have h4 : p ≥ (l.length : Int) := by
        rcases h2 with h | h
        · exact absurd h h3
        · exact h
      rw [if_neg h3, decide_eq_true h4]
      exact j1
  have h2a : ¬ p < 0 := fun h => h2 (.inl h)
  have h2b : ¬ p ≥ (l.length : Int) := fun h => h2 (.inr h)
  by_cases h3 : t < 0 ∨ t ≥ n
  · have hm : mayC e n l p t = 22 := by unfold mayC; rw [if_neg h1, if_neg h2, if_pos h3]
    rw [cut 22 (by decide) hm]
    clear hm cut
    have j2 : meterref17_Move.j2 (k + 1) p t true e n l = some (0, 0, [], 22) := by
      simp only [meterref17_Move.j2]
      rw [if_pos trivial]
    have j1 : meterref17_Move.j1 ((k + 1) + 1) p t false e n l = some (0, 0, [], 22) := by
      generalize k + 1 = m at *
      simp only [meterref17_Move.j1]
      rw [if_neg (by simp)]
      by_cases h4 : t < 0
      · rw [if_pos h4]
        exact j2
      · have h5 : t ≥ n := by
          rcases h3 with h | h
          · exact absurd h h4
          · exact h
        rw [if_neg h4, decide_eq_true h5]
        exact j2
    generalize k + 2 = m at *
    simp only [meterref17_Move.j0]
    rw [if_neg (by simp), if_neg h2a, decide_eq_false h2b]
    exact j1
  have h3a : ¬ t < 0 := fun h => h3 (.inl h)
  have h3b : ¬ t ≥ n := fun h => h3 (.inr h)
  have j2 : meterref17_Move.j2 (k + 1) p t false e n l = some (moveC e n l p t) := by
    by_cases h4 : rd l p = t
    · have hm : mayC e n l p t = 23 := by unfold mayC; rw [if_neg h1, if_neg h2, if_neg h3, if_pos h4]
      rw [cut 23 (by decide) hm]
      clear hm cut
      simp only [meterref17_Move.j2]
      rw [if_neg (by simp), if_pos (show 0 ≤ p by omega), if_pos (show p < (l.length : Int) by omega), if_pos h4]
    · have hm : mayC e n l p t = 0 := by unfold mayC; rw [if_neg h1, if_neg h2, if_neg h3, if_neg h4]
      have hmv : moveC e n l p t = (e + 1, n, l.set p.toNat t, 0) := by unfold moveC; rw [if_pos hm]
      rw [hmv]
      clear hm cut hmv
      simp only [meterref17_Move.j2]
      rw [if_neg (by simp), if_pos (show 0 ≤ p by omega), if_pos (show p < (l.length : Int) by omega), if_neg h4, hwe]
      obtain ⟨q, rfl⟩ := Int.eq_ofNat_of_zero_le (show 0 ≤ p by omega)
      rw [Int.toNat_natCast]
      exact refmove_l0 q t e n l (e + 1) n r5 (by omega) l.length 0 k (by omega) (by omega)
  have j1 : meterref17_Move.j1 ((k + 1) + 1) p t false e n l = some (moveC e n l p t) := by
    clear cut
    generalize k + 1 = m at *
    simp only [meterref17_Move.j1]
    rw [if_neg (by simp), if_neg h3a, decide_eq_false h3b]
    exact j2
  clear cut
  generalize k + 2 = m at *
  simp only [meterref17_Move.j0]
  rw [if_neg (by simp), if_neg h2a, decide_eq_false h2b]
  exact j1
theorem l1_true (e n : Int) (l : List Int) (f m : Int) (q : List Int) (hl : l.length ≤ 1000) (a b : Int) : ∀ (d i k : Nat) (r : List Int), i + d = r.length → r.length ≤ 1000 → 1010 + d < k →
    meterlaw17_TableTells.l1 k i e n l f m q e n l a b r = some true := by
  intro d
  induction d with
  | zero =>
    intro i k r h hr hk
    obtain ⟨k, rfl⟩ : ∃ z, k = z + 1 := ⟨k - 1, by omega⟩
    have h1 := refsame_refl k e n l (by omega) (by omega)
    have h2 := refright_f k (by omega) e n l
    have h3 := same_f e n l f m q (by omega) k (by omega)
    have h4 := refsame_f k e n l f m q (by omega) (by omega)
    have h5 := refnewer_f k (by omega) e n l f m q
    simp only [meterlaw17_TableTells.l1]
    rw [if_neg (show ¬ (i : Int) < (r.length : Int) by omega), h1, Option.bind_some, if_pos rfl, right_f, Option.bind_some, h2, Option.bind_some, if_pos (by simp), h3, Option.bind_some, h4, Option.bind_some, if_pos (by simp), newer_f, Option.bind_some, h5, Option.bind_some]
    simp
  | succ d ih =>
    intro i k r h hr hk
    obtain ⟨k, rfl⟩ : ∃ z, k = z + 1 := ⟨k - 1, by omega⟩
    have hn := ih (i + 1) k (r.set i 99) (by rw [List.length_set]; omega) (by rw [List.length_set]; omega) (by omega)
    simp only [meterlaw17_TableTells.l1]
    rw [if_pos (show (i : Int) < (r.length : Int) by omega), if_pos (show (0 : Int) ≤ (i : Int) by omega), wr1 i (by omega), Int.toNat_natCast]
    exact hn
theorem l0_true (e n : Int) (l : List Int) (f m : Int) (q : List Int) (hl : l.length ≤ 1000) (a b : Int) (r : List Int) (hr : r.length ≤ 1000) (a2 b2 : Int) : ∀ (d i k : Nat) (s : List Int), i + d = s.length → s.length ≤ 1000 → 2020 + d < k →
    meterlaw17_TableTells.l0 k i e n l f m q e n l a b r a2 b2 s = some true := by
  intro d
  induction d with
  | zero =>
    intro i k s h hs hk
    obtain ⟨k, rfl⟩ : ∃ z, k = z + 1 := ⟨k - 1, by omega⟩
    simp only [meterlaw17_TableTells.l0]
    rw [if_neg (show ¬ (i : Int) < (s.length : Int) by omega)]
    exact l1_true e n l f m q hl a b r.length 0 k r (by omega) hr (by omega)
  | succ d ih =>
    intro i k s h hs hk
    obtain ⟨k, rfl⟩ : ∃ z, k = z + 1 := ⟨k - 1, by omega⟩
    have hn := ih (i + 1) k (s.set i 99) (by rw [List.length_set]; omega) (by rw [List.length_set]; omega) (by omega)
    simp only [meterlaw17_TableTells.l0]
    rw [if_pos (show (i : Int) < (s.length : Int) by omega), if_pos (show (0 : Int) ≤ (i : Int) by omega), wr1 i (by omega), Int.toNat_natCast]
    exact hn
theorem j2_true (e n : Int) (l : List Int) (f m : Int) (q : List Int) (hl : l.length ≤ 1000) (a b : Int) (r : List Int) (hr : r.length ≤ 1000) (k : Nat) (hk : 3030 ≤ k) :
    meterlaw17_TableTells.j2 (k + 1) false e n l f m q e n l a b r = some true := by
  have h0 := l0_true e n l f m q hl a b r hr e n l.length 0 k l (by omega) hl (by omega)
  have h1 := refsame_refl k e n l (by omega) (by omega)
  simp only [meterlaw17_TableTells.j2]
  unfold table_Copy.f slices_Clone_int_int.f
  rw [if_neg (by simp), if_pos (show l.length * 8 ≤ 140737488355328 by omega), Option.bind_some, Option.bind_some, h1, Option.bind_some, if_pos rfl]
  exact h0
theorem moveC_len (e n : Int) (l : List Int) (p t : Int) (hl : l.length ≤ 1000) : (moveC e n l p t).2.2.1.length ≤ 1000 := by
  unfold moveC
  split
  · rw [List.length_set]
    exact hl
  · exact Nat.zero_le _
theorem moveC_err (e n : Int) (l : List Int) (p t : Int) : (moveC e n l p t).2.2.2 = mayC e n l p t := by
  unfold moveC
  split
  · rename_i h
    exact h.symm
  · rfl
def ownB (e n : Int) (l : List Int) (p : Int) : Bool := rightB e n l && (decide (0 ≤ p) && decide (p < (l.length : Int)))
theorem owner_b (e n : Int) (l : List Int) (p : Int) : table_Owner.f e n l p = some (if ownB e n l p = true then (rd l p, true) else (0, false)) := by
  rw [owner_f]
  congr 1
  unfold ownB
  by_cases h : rightB e n l = true ∧ 0 ≤ p ∧ p < (l.length : Int)
  · rw [if_pos h, if_pos (by simp [h.1, h.2.1, h.2.2])]
  · rw [if_neg h, if_neg (by simpa using h)]
theorem j1_true (e n : Int) (l : List Int) (f m : Int) (q : List Int) (hl : l.length ≤ 1000) (p t : Int) (a b : Int) (c : List Int) (hc : c.length ≤ 1000) (g : Int) (k : Nat) (hk : 3040 ≤ k) (x y : Int) (z : List Int) (w : Int)
    (hz : z.length ≤ 1000) (hw : mayC e n l p t = w) (o : Int) (v : Bool) (hv : ownB e n l p = v) (ho : o = if v = true then rd l p else 0) :
    meterlaw17_TableTells.j1 (k + 1) p t g g w w o v v e n l f m q e n l a b c a b c x y z x y z = some true := by
  obtain ⟨k, rfl⟩ : ∃ z, k = z + 1 := ⟨k - 1, by omega⟩
  have h2 := j2_true e n l f m q hl x y z hz k (by omega)
  have h1 := refsame_refl (k + 1) a b c (by omega) (by omega)
  have h3 := refsame_refl (k + 1) x y z (by omega) (by omega)
  have h4 := (may_f (k + 1) (by omega) e n l p t).trans (congrArg some hw)
  have hb : v = true → 0 ≤ p ∧ p < (l.length : Int) := fun h => by
    rw [← hv] at h
    unfold ownB at h
    simp only [Bool.and_eq_true, decide_eq_true_eq] at h
    exact h.2
  clear hw hk
  generalize k + 1 = k at *
  simp only [meterlaw17_TableTells.j1]
  rw [if_pos trivial, h1, Option.bind_some, if_pos rfl, if_pos trivial, h3, Option.bind_some, if_pos rfl, h4, Option.bind_some, if_pos rfl, if_neg (by simp)]
  cases v with
  | true =>
    obtain ⟨b1, b2⟩ := hb rfl
    rw [if_pos rfl, if_pos b1, if_pos b2, if_pos (ho.trans (if_pos rfl))]
    exact h2
  | false =>
    rw [if_neg (by simp), ho.trans (if_neg (by simp))]
    exact h2
theorem j0_true (e n : Int) (l : List Int) (f m : Int) (q : List Int) (hl : l.length ≤ 1000) (p t : Int) (k : Nat) (hk : 3050 ≤ k) :
    meterlaw17_TableTells.j0 (k + 1) p t false e n l f m q = some true := by
  obtain ⟨k, rfl⟩ : ∃ z, k = z + 1 := ⟨k - 1, by omega⟩
  obtain ⟨a, b, c, g, n1, n2, n3⟩ := new_both (k + 1) (by omega) p t
  have m1 := move_f (k + 1) (by omega) e n l p t
  have m2 := refmove_f (k + 1) (by omega) e n l p t
  have r1 := refright_f (k + 1) (by omega) e n l
  have ow := owner_b e n l p
  have ml := moveC_len e n l p t hl
  have me := moveC_err e n l p t
  have h1 := fun o v hv ho => j1_true e n l f m q hl p t a b c (by omega) g k (by omega) (moveC e n l p t).1 (moveC e n l p t).2.1 (moveC e n l p t).2.2.1 (moveC e n l p t).2.2.2 ml me.symm o v hv ho
  clear me
  generalize moveC e n l p t = M at *
  generalize k + 1 = k at *
  simp only [meterlaw17_TableTells.j0]
  rw [if_neg (by simp), Option.bind_some, if_pos (show ([] : List Int).length + l.length < 17592186044416 by simp; omega), List.nil_append, Option.bind_some, n1, Option.bind_some, n2, Option.bind_some, m1, Option.bind_some, m2, Option.bind_some, ow, Option.bind_some, r1, Option.bind_some]
  cases hv : ownB e n l p with
  | true =>
    have hq := hv
    unfold ownB at hq
    simp only [Bool.and_eq_true, decide_eq_true_eq] at hq
    obtain ⟨q1, q2, q3⟩ := hq
    rw [if_pos rfl, if_pos q1, if_pos q2, decide_eq_true q3]
    exact h1 _ true hv rfl
  | false =>
    rw [if_neg (show ¬ (false = true) by decide)]
    have h2 := h1 0 false hv rfl
    by_cases q1 : rightB e n l = true
    · rw [if_pos q1]
      by_cases q2 : p ≥ 0
      · have q3 : ¬ p < (l.length : Int) := fun q3 => by
          unfold ownB at hv
          rw [q1, decide_eq_true (show 0 ≤ p from q2), decide_eq_true q3] at hv
          cases hv
        rw [if_pos q2, decide_eq_false q3]
        exact h2
      · rw [if_neg q2]
        exact h2
    · rw [if_neg q1]
      exact h2
theorem TableTells : meterlaw17_TableTells.Pure := by
  intro e n l f m q p t _ _ _ _ _ _ _ _
  refine ⟨3052, ?_⟩
  have j1 : meterlaw17_TableTells.j0 (3051 + 1) p t true e n l f m q = some true := by
    simp only [meterlaw17_TableTells.j0]
    rw [if_pos trivial]
  have j0 := fun h => j0_true e n l f m q h p t 3051 (by omega)
  have aw := awake_f 3052 (by omega)
  unfold meterlaw17_TableTells.f
  rw [aw, Option.bind_some, if_pos rfl, great_f, great_f, Option.bind_some, Option.bind_some]
  by_cases h1 : (l.length : Int) > 1000
  · rw [decide_eq_true h1, if_pos rfl]
    exact j1
  · rw [decide_eq_false h1, if_neg (by simp)]
    by_cases h2 : (q.length : Int) > 1000
    · rw [decide_eq_true h2]
      exact j1
    · rw [decide_eq_false h2]
      exact j0 (by omega)

end Go.Proofs.Ytnmlnghjapekcaa.Pure
