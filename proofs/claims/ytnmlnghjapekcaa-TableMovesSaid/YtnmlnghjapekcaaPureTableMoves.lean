/- Whatever is moved, one move behind the other: the table is right, each that was made is newer than all ahead of it, and differs from the one ahead in that shard's owner alone; what may not be moved is not: for any numbers of nodes and shards and any at most 100 moves. -/
import Derived.Test.YtnmlnghjapekcaaPTableMovesx4
namespace Go.Proofs.Ytnmlnghjapekcaa.Pure
open Go.RowKit Go.Proofs.Ytnmlnghjapekcaa.PTableMoves Go.Proofs.YtnmlnghjapekcaaW.PrintWords Go.Proofs.YtnmlnghjapekcaaW.PrintLast

/-! tables, plainly -/
def newerB (e1 n1 : Int) (l1 : List Int) (e2 n2 : Int) (l2 : List Int) : Bool := rightB e1 n1 l1 && (rightB e2 n2 l2 && (decide (n1 = n2) && (decide (l1.length = l2.length) && decide (e1 > e2))))
theorem newer_f (e1 n1 : Int) (l1 : List Int) (e2 n2 : Int) (l2 : List Int) : table_Newer.f e1 n1 l1 e2 n2 l2 = some (newerB e1 n1 l1 e2 n2 l2) := by
  unfold table_Newer.f table_Right.f newerB
  simp only [Option.bind_some]
  cases rightB e1 n1 l1
  · simp
  · cases rightB e2 n2 l2
    · simp
    · by_cases h : n1 = n2
      · by_cases h2 : l1.length = l2.length
        · simp [h, h2]
        · simp [h, h2, Int.ofNat_inj]
      · simp [h]
theorem right_f (e n : Int) (l : List Int) : table_Right.f e n l = some (rightB e n l) := rfl
theorem awake10 : meterlaw17_awake.f 10 = some true := by decide +kernel
theorem awake_f (k : Nat) (hk : 10 ≤ k) : meterlaw17_awake.f k = some true := at_rounds meterlaw17_awake.mono hk awake10
def mayC (e n : Int) (l : List Int) (p t : Int) : Int :=
  if rightB e n l = false ∨ e ≥ 2147483647 then 1 else if p < 0 ∨ p ≥ l.length then 21 else if t < 0 ∨ t ≥ n then 22 else if rd l p = t then 23 else 0
def moveC (e n : Int) (l : List Int) (p t : Int) : Int × Int × List Int × Int := if mayC e n l p t = 0 then (e + 1, n, l.set p.toNat t, 0) else (0, 0, [], mayC e n l p t)
theorem may_f (k : Nat) (hk : 3 ≤ k) (e n : Int) (l : List Int) (p t : Int) : table_May.f k e n l p t = some (mayC e n l p t) := by
  obtain ⟨k, rfl⟩ : ∃ m, k = m + 3 := ⟨k - 3, by omega⟩
  have j2t : table_May.j2 (k + 1) p t true e n l = some 22 := by simp [table_May.j2]
  have j2f : 0 ≤ p → p < l.length → table_May.j2 (k + 1) p t false e n l = some (if rd l p = t then 23 else 0) := by
    intro h0 h1
    simp only [table_May.j2]
    rw [if_neg (by simp), if_pos h0, if_pos h1]
    by_cases h : rd l p = t <;> simp [h]
  have j1t : table_May.j1 (k + 2) p t true e n l = some 21 := by
    show table_May.j1 ((k + 1) + 1) p t true e n l = _
    generalize k + 1 = m
    simp [table_May.j1]
  have j1f : 0 ≤ p → p < l.length → table_May.j1 (k + 2) p t false e n l = some (if t < 0 ∨ t ≥ n then 22 else if rd l p = t then 23 else 0) := by
    intro h0 h1
    have h2 := j2f h0 h1
    show table_May.j1 ((k + 1) + 1) p t false e n l = _
    generalize k + 1 = m at j2t h2
    simp only [table_May.j1]
    rw [if_neg (by simp)]
    by_cases h3 : t < 0
    · rw [if_pos h3, j2t, if_pos (.inl h3)]
    rw [if_neg h3]
    by_cases h4 : t ≥ n
    · rw [decide_eq_true h4, j2t, if_pos (.inr h4)]
    · rw [decide_eq_false h4, h2, if_neg (show ¬ (t < 0 ∨ t ≥ n) by omega)]
  have j0t : table_May.j0 (k + 3) p t true e n l = some 1 := by
    show table_May.j0 ((k + 2) + 1) p t true e n l = _
    generalize k + 2 = m
    simp [table_May.j0]
  have j0f : table_May.j0 (k + 3) p t false e n l = some (if p < 0 ∨ p ≥ l.length then 21 else if t < 0 ∨ t ≥ n then 22 else if rd l p = t then 23 else 0) := by
    show table_May.j0 ((k + 2) + 1) p t false e n l = _
    generalize k + 2 = m at j1t j1f
    simp only [table_May.j0]
    rw [if_neg (by simp)]
    by_cases h3 : p < 0
    · rw [if_pos h3, j1t, if_pos (.inl h3)]
    rw [if_neg h3]
    by_cases h4 : p ≥ (l.length : Int)
    · rw [decide_eq_true h4, j1t, if_pos (.inr h4)]
    · rw [decide_eq_false h4, j1f (by omega) (by omega), if_neg (show ¬ (p < 0 ∨ p ≥ (l.length : Int)) by omega)]
  unfold table_May.f mayC
  rw [right_f]
  simp only [Option.bind_some]
  cases hr : rightB e n l with
  | false => rw [if_neg (by simp), if_pos (.inl rfl), j0t]
  | true =>
    rw [if_pos rfl]
    by_cases h : e ≥ 2147483647
    · rw [decide_eq_true h, j0t, if_pos (.inr h)]
    · rw [decide_eq_false h, j0f, if_neg (show ¬ (true = false ∨ e ≥ 2147483647) by simp; omega)]
theorem right_len {e n : Int} {l : List Int} (h : rightB e n l = true) : 1 ≤ e ∧ 1 ≤ n ∧ n ≤ 4 ∧ 1 ≤ l.length ∧ l.length ≤ 8 ∧ l.any (badB n) = false := by
  unfold rightB at h
  simp only [Bool.and_eq_true, decide_eq_true_eq, Bool.not_eq_true'] at h
  exact ⟨h.1, h.2.1, h.2.2.1, h.2.2.2.1, h.2.2.2.2.1, h.2.2.2.2.2⟩
theorem right_mk {e n : Int} {l : List Int} (h1 : 1 ≤ e) (h2 : 1 ≤ n) (h3 : n ≤ 4) (h4 : 1 ≤ l.length) (h5 : l.length ≤ 8) (h6 : l.any (badB n) = false) : rightB e n l = true := by
  unfold rightB
  rw [decide_eq_true h1, decide_eq_true h2, decide_eq_true h3, decide_eq_true h4, decide_eq_true h5, h6]
  rfl
theorem may_zero {e n : Int} {l : List Int} {p t : Int} : mayC e n l p t = 0 ↔ rightB e n l = true ∧ e < 2147483647 ∧ 0 ≤ p ∧ p < l.length ∧ 0 ≤ t ∧ t < n ∧ rd l p ≠ t := by
  unfold mayC
  constructor
  · intro h
    by_cases h1 : rightB e n l = false ∨ e ≥ 2147483647
    · rw [if_pos h1] at h
      cases h
    rw [if_neg h1] at h
    by_cases h2 : p < 0 ∨ p ≥ l.length
    · rw [if_pos h2] at h
      cases h
    rw [if_neg h2] at h
    by_cases h3 : t < 0 ∨ t ≥ n
    · rw [if_pos h3] at h
      cases h
    rw [if_neg h3] at h
    by_cases h4 : rd l p = t
    · rw [if_pos h4] at h
      cases h
    refine ⟨?_, by omega, by omega, by omega, by omega, by omega, h4⟩
    cases hr : rightB e n l with
    | true => rfl
    | false => exact absurd (.inl hr) h1
  · rintro ⟨h1, h2, h3, h4, h5, h6, h7⟩
    rw [if_neg (by rw [h1]; simp; omega), if_neg (by omega), if_neg (by omega), if_neg h7]
theorem move_f (k : Nat) (hk : 3 ≤ k) (e n : Int) (l : List Int) (p t : Int) : table_Move.f k e n l p t = some (moveC e n l p t) := by
  unfold table_Move.f moveC
  rw [may_f k hk]
  simp only [Option.bind_some]
  by_cases h : mayC e n l p t = 0
  · obtain ⟨h1, h2, h3, h4, h5, h6, h7⟩ := may_zero.1 h
    obtain ⟨r1, r2, r3, r4, r5, r6⟩ := right_len h1
    have hc : table_Copy.f e n l = some (e, n, l) := by
      unfold table_Copy.f slices_Clone_int_int.f
      rw [if_pos (by omega)]
      rfl
    rw [if_pos h, if_pos h, hc]
    simp only [Option.bind_some]
    rw [if_pos h3, if_pos h4]
    congr 2
    unfold wrap64
    omega
  · rw [if_neg h, if_neg h]
theorem rd_set (l : List Int) (i j : Nat) (v : Int) (h : i < l.length) : rd (l.set i v) j = if i = j then v else rd l j := by
  unfold rd
  simp only [Int.toNat_natCast, List.getD_eq_getElem?_getD, List.getElem?_set]
  by_cases e : i = j
  · subst e
    simp [h]
  · simp [e]
theorem rd_get (l : List Int) (i : Nat) (h : i < l.length) : rd l i = l[i] := by
  unfold rd
  rw [Int.toNat_natCast, List.getD_eq_getElem?_getD, List.getElem?_eq_getElem h]
  rfl
theorem bad_rd {n : Int} {l : List Int} (h : l.any (badB n) = false) (i : Nat) (hi : i < l.length) : 0 ≤ rd l i ∧ rd l i < n := by
  rw [List.any_eq_false] at h
  have h2 := h l[i] (List.getElem_mem hi)
  rw [← rd_get l i hi] at h2
  unfold badB at h2
  simp only [Bool.or_eq_true, decide_eq_true_eq, not_or] at h2
  omega
theorem bad_set {n : Int} {l : List Int} (h : l.any (badB n) = false) (i : Nat) (v : Int) (h0 : 0 ≤ v) (h1 : v < n) : (l.set i v).any (badB n) = false := by
  rw [List.any_eq_false] at h ⊢
  intro x hx
  rcases List.mem_or_eq_of_mem_set hx with hx | hx
  · exact h x hx
  · subst hx
    unfold badB
    simp only [Bool.or_eq_true, decide_eq_true_eq, not_or]
    omega
theorem set_rd (l : List Int) (i : Nat) (h : i < l.length) : l.set i (rd l i) = l := by
  rw [rd_get l i h]
  exact List.set_getElem_self h
theorem right_move {e n : Int} {l : List Int} {p t : Int} (h : mayC e n l p t = 0) : rightB (e + 1) n (l.set p.toNat t) = true := by
  obtain ⟨h1, h2, h3, h4, h5, h6, h7⟩ := may_zero.1 h
  obtain ⟨r1, r2, r3, r4, r5, r6⟩ := right_len h1
  exact right_mk (by omega) r2 r3 (by rw [List.length_set]; exact r4) (by rw [List.length_set]; exact r5) (bad_set r6 _ _ h5 h6)
theorem equal_l0 (l m : List Int) (hl : l.length = m.length) (hm : l.length ≤ 9223372036854775806) : ∀ (d i k : Nat), i + d = l.length → d < k →
    slices_Equal_int_int.l0 k l m l.length i = some (decide (l.drop i = m.drop i)) := by
  intro d
  induction d with
  | zero =>
    intro i k h hk
    obtain ⟨k, rfl⟩ : ∃ z, k = z + 1 := ⟨k - 1, by omega⟩
    simp only [slices_Equal_int_int.l0]
    rw [if_neg (by omega), List.drop_of_length_le (by omega), List.drop_of_length_le (by omega)]
    simp
  | succ d ih =>
    intro i k h hk
    obtain ⟨k, rfl⟩ : ∃ z, k = z + 1 := ⟨k - 1, by omega⟩
    have hi : i < l.length := by omega
    have hj : i < m.length := by omega
    have e1 : rd l (i : Int) = l[i] := by
      unfold rd
      rw [Int.toNat_natCast, List.getD_eq_getElem?_getD, List.getElem?_eq_getElem hi]
      rfl
    have e2 : rd m (i : Int) = m[i] := by
      unfold rd
      rw [Int.toNat_natCast, List.getD_eq_getElem?_getD, List.getElem?_eq_getElem hj]
      rfl
    simp only [slices_Equal_int_int.l0]
    rw [if_pos (by omega), if_pos (by omega), if_pos (by omega), if_pos (by omega), e1, e2, List.drop_eq_getElem_cons hi, List.drop_eq_getElem_cons hj]
    by_cases he : l[i] = m[i]
    · have hn := ih (i + 1) k (by omega) (by omega)
      rw [if_pos he, show wrap64 ((i : Int) + 1) = ((i + 1 : Nat) : Int) by unfold wrap64; omega, hn]
      congr 1
      apply decide_eq_decide.2
      rw [List.cons.injEq]
      simp only [he, true_and]
    · rw [if_neg he]
      congr 1
      symm
      apply decide_eq_false
      intro hc
      exact he (List.cons.inj hc).1
theorem equal_f (l m : List Int) (hm : l.length ≤ 9223372036854775806) (k : Nat) (hk : l.length < k) : slices_Equal_int_int.f k l m = some (decide (l = m)) := by
  unfold slices_Equal_int_int.f
  by_cases h : l.length = m.length
  · have h0 := equal_l0 l m h hm l.length 0 k (by omega) hk
    rw [if_pos (by omega)]
    simpa using h0
  · rw [if_neg (by omega), decide_eq_false (fun e => h (by rw [e]))]
theorem same_f (e1 n1 : Int) (l1 : List Int) (e2 n2 : Int) (l2 : List Int) (hm : l1.length ≤ 9223372036854775806) (k : Nat) (hk : l1.length < k) : table_Same.f k e1 n1 l1 e2 n2 l2 = some (decide (e1 = e2 ∧ n1 = n2 ∧ l1 = l2)) := by
  unfold table_Same.f
  rw [equal_f l1 l2 hm k hk]
  by_cases h1 : e1 = e2
  · by_cases h2 : n1 = n2
    · simp [h1, h2]
    · simp [h1, h2]
  · simp [h1]
theorem owner_f (e n : Int) (l : List Int) (p : Int) : table_Owner.f e n l p = some (if rightB e n l = true ∧ 0 ≤ p ∧ p < l.length then (rd l p, true) else (0, false)) := by
  unfold table_Owner.f
  rw [right_f]
  simp only [Option.bind_some]
  cases hr : rightB e n l with
  | false => simp
  | true =>
    rw [if_pos rfl]
    by_cases h1 : p < 0
    · rw [if_pos h1, if_neg (by omega)]
    rw [if_neg h1]
    by_cases h2 : p ≥ (l.length : Int)
    · rw [if_pos h2, if_neg (by omega)]
    · rw [if_neg h2, if_pos (by omega), if_pos (by omega), if_pos ⟨rfl, by omega, by omega⟩]
theorem newer_up {e n fe : Int} {m fl : List Int} (h : rightB (e + 1) n m = true) (hf : rightB fe n fl = true) (hl : m.length = fl.length) (he : fe ≤ e) : newerB (e + 1) n m fe n fl = true := by
  unfold newerB
  rw [h, hf, decide_eq_true rfl, decide_eq_true hl, decide_eq_true (show e + 1 > fe by omega)]
  rfl
theorem newer_down {e n : Int} {l m : List Int} : newerB e n l (e + 1) n m = false := by
  unfold newerB
  rw [decide_eq_false (show ¬ e > e + 1 by omega)]
  simp
theorem owner_ok {e n : Int} {l : List Int} (h : rightB e n l = true) (j : Nat) (hj : j < l.length) : table_Owner.f e n l (j : Int) = some (rd l j, true) := by
  have c : rightB e n l = true ∧ (0 : Int) ≤ (j : Int) ∧ (j : Int) < (l.length : Int) := ⟨h, by omega, by omega⟩
  rw [owner_f, if_pos c]
theorem l1_true (x2 : List S43) (i K : Nat) (hi : i < x2.length) (e n : Int) (l : List Int) (fe fn : Int) (fl : List Int) (p : Nat) (t : Int) (e0 : (rd_T43 x2 i).f0 = (p : Int)) (e1 : (rd_T43 x2 i).f1 = t) (hm : mayC e n l p t = 0)
    (h0 : ∀ k, K ≤ k → meterlaw17_TableMoves.l0 k x2 (wrap64 ((i : Int) + 1)) (e + 1) n (l.set p t) fe fn fl = some true) :
    ∀ (d j k : Nat), j + d = l.length → K + d < k → meterlaw17_TableMoves.l1 k x2 i j e n l fe fn fl (e + 1) n (l.set p t) = some true := by
  obtain ⟨h1, h2, h3, h4, h5, h6, h7⟩ := may_zero.1 hm
  obtain ⟨r1, r2, r3, r4, r5, r6⟩ := right_len h1
  have hrm := right_move hm
  rw [Int.toNat_natCast] at hrm
  clear hm h7
  have hpl : p < l.length := by omega
  intro d
  induction d with
  | zero =>
    intro j k hj hk
    obtain ⟨k, rfl⟩ : ∃ m, k = m + 1 := ⟨k - 1, by omega⟩
    simp only [meterlaw17_TableMoves.l1]
    rw [if_neg (show ¬ (j : Int) < (l.length : Int) by omega)]
    exact h0 k (by omega)
  | succ d ih =>
    intro j k hj hk
    obtain ⟨k, rfl⟩ : ∃ m, k = m + 1 := ⟨k - 1, by omega⟩
    simp only [meterlaw17_TableMoves.l1]
    have hw : wrap64 ((j : Int) + 1) = ((j + 1 : Nat) : Int) := by unfold wrap64; omega
    have nx := ih (j + 1) k (by omega) (by omega)
    rw [if_pos (show (j : Int) < (l.length : Int) by omega), owner_ok hrm j (by rw [List.length_set]; omega), owner_ok h1 j (by omega), hw, e0, e1]
    simp only [Option.bind_some]
    rw [if_pos (show (0 : Int) ≤ (i : Int) by omega), if_pos (show (i : Int) < (x2.length : Int) by omega), rd_set l p j t hpl]
    by_cases q1 : p = j
    · subst q1
      simp only [if_true]
      exact nx
    · have q2 : ¬ (j : Int) = (p : Int) := fun h => q1 (Int.ofNat.inj h).symm
      simp only [q1, q2, if_false, if_true]
      exact nx
theorem l0_true (x2 : List S43) (hx : x2.length ≤ 100) : ∀ (d i k : Nat) (e n : Int) (l : List Int) (fe : Int) (fl : List Int), i + d = x2.length → d ≤ 100 → 14 * d + 30 ≤ k → rightB e n l = true → rightB fe n fl = true → l.length = fl.length → fe ≤ e → e + d ≤ 101 →
    meterlaw17_TableMoves.l0 k x2 i e n l fe n fl = some true := by
  intro d
  induction d with
  | zero =>
    intro i k e n l fe fl hi hd hk hr hf hl he hed
    obtain ⟨k, rfl⟩ : ∃ m, k = m + 1 := ⟨k - 1, by omega⟩
    simp only [meterlaw17_TableMoves.l0]
    rw [if_neg (show ¬ (i : Int) < (x2.length : Int) by omega)]
  | succ d ih =>
    intro i k e n l fe fl hi hd hk hr hf hl he hed
    obtain ⟨k, rfl⟩ : ∃ m, k = m + 4 := ⟨k - 4, by omega⟩
    obtain ⟨r1, r2, r3, r4, r5, r6⟩ := right_len hr
    have hw : wrap64 ((i : Int) + 1) = ((i + 1 : Nat) : Int) := by unfold wrap64; omega
    have hwe : wrap64 (e + 1) = e + 1 := by unfold wrap64; omega
    have hmf := fun q (hq : 3 ≤ q) => move_f q hq e n l (rd_T43 x2 i).f0 (rd_T43 x2 i).f1
    have hyf := fun q (hq : 3 ≤ q) => may_f q hq e n l (rd_T43 x2 i).f0 (rd_T43 x2 i).f1
    have hof := owner_f e n l (rd_T43 x2 i).f0
    by_cases hm : mayC e n l (rd_T43 x2 i).f0 (rd_T43 x2 i).f1 = 0
    · obtain ⟨h1, h2, h3, h4, h5, h6, h7⟩ := may_zero.1 hm
      have hrm := right_move hm
      have n1 := newer_up hrm hr (by rw [List.length_set]) (Int.le_refl e)
      have n2 := newer_up hrm hf (by rw [List.length_set]; exact hl) he
      have n3 := newer_down (e := e) (n := n) (l := l) (m := l.set (rd_T43 x2 i).f0.toNat (rd_T43 x2 i).f1)
      have hm2 : mayC e n l ((rd_T43 x2 i).f0.toNat : Int) (rd_T43 x2 i).f1 = 0 := by rw [Int.toNat_of_nonneg h3]; exact hm
      have hmv : moveC e n l (rd_T43 x2 i).f0 (rd_T43 x2 i).f1 = (e + 1, n, l.set (rd_T43 x2 i).f0.toNat (rd_T43 x2 i).f1, 0) := by unfold moveC; rw [if_pos hm]
      have hyz := fun q (hq : 3 ≤ q) => (hyf q hq).trans (congrArg some hm)
      have l1f := fun hi => l1_true x2 i (14 * d + 30) hi e n l fe n fl (rd_T43 x2 i).f0.toNat (rd_T43 x2 i).f1 (Int.toNat_of_nonneg h3).symm rfl hm2
      have hbne : (rd l (rd_T43 x2 i).f0 != (rd_T43 x2 i).f1) = true := by simpa using h7
      clear hm hm2 h7
      have l1 := l1f (by omega) (fun k hk => by
        rw [hw]
        exact ih (i + 1) k (e + 1) n _ fe fl (by omega) (by omega) hk hrm hf (by rw [List.length_set]; exact hl) (by omega) (by omega)) l.length 0 k (by omega) (by omega)
      have sm := same_f (e + 1) n (l.set (rd_T43 x2 i).f0.toNat (rd_T43 x2 i).f1) e n l (by rw [List.length_set]; omega) (k + 1) (by rw [List.length_set]; omega)
      have j4 : meterlaw17_TableMoves.j4 (k + 1) x2 i (e + 1 != wrap64 (e + 1)) e n l fe n fl (e + 1) n (l.set (rd_T43 x2 i).f0.toNat (rd_T43 x2 i).f1) = some true := by
        rw [hwe]
        simp only [meterlaw17_TableMoves.j4]
        rw [if_neg (by simp)]
        exact l1
      have j3 : meterlaw17_TableMoves.j3 (k + 2) x2 i true false e n l fe n fl (e + 1) n (l.set (rd_T43 x2 i).f0.toNat (rd_T43 x2 i).f1) = some true := by
        show meterlaw17_TableMoves.j3 ((k + 1) + 1) x2 i true false e n l fe n fl (e + 1) n (l.set (rd_T43 x2 i).f0.toNat (rd_T43 x2 i).f1) = some true
        generalize k + 1 = q at *
        simp only [meterlaw17_TableMoves.j3]
        rw [if_neg (by simp), if_pos trivial, right_f, hrm]
        rw [Option.bind_some, if_pos rfl]
        rw [newer_f, n1]
        rw [Option.bind_some, if_pos rfl]
        rw [newer_f, n3]
        rw [Option.bind_some]
        rw [if_neg (by simp), newer_f, n2]
        rw [Option.bind_some, if_pos rfl]
        rw [sm]
        rw [Option.bind_some]
        rw [if_neg (by simp; intro h; omega)]
        exact j4
      have j2 : meterlaw17_TableMoves.j2 (k + 3) x2 i 0 true e n l fe n fl (e + 1) n (l.set (rd_T43 x2 i).f0.toNat (rd_T43 x2 i).f1) = some true := by
        have y := hyz (k + 2) (by omega)
        show meterlaw17_TableMoves.j2 ((k + 2) + 1) x2 i 0 true e n l fe n fl (e + 1) n (l.set (rd_T43 x2 i).f0.toNat (rd_T43 x2 i).f1) = some true
        generalize k + 2 = q at *
        simp only [meterlaw17_TableMoves.j2]
        rw [show (((0 : Int) == 0) != true) = false by decide, if_neg (show ¬ (false = true) by decide), if_pos (show (0 : Int) ≤ (i : Int) by omega), if_pos (show (i : Int) < (x2.length : Int) by omega), y]
        rw [Option.bind_some]
        rw [show ((0 : Int) != 0) = false by decide]
        exact j3
      have m3 := hmf (k + 3) (by omega)
      show meterlaw17_TableMoves.l0 ((k + 3) + 1) x2 i e n l fe n fl = some true
      generalize k + 3 = q at *
      simp only [meterlaw17_TableMoves.l0]
      rw [if_pos (show (i : Int) < (x2.length : Int) by omega), if_pos (show (0 : Int) ≤ (i : Int) by omega), hof, if_pos ⟨h1, h3, h4⟩, m3, hmv, Option.bind_some, Option.bind_some]
      rw [if_pos rfl]
      rw [if_pos h5, if_pos h6, hbne]
      exact j2
    · have hmv : moveC e n l (rd_T43 x2 i).f0 (rd_T43 x2 i).f1 = (0, 0, [], mayC e n l (rd_T43 x2 i).f0 (rd_T43 x2 i).f1) := by unfold moveC; rw [if_neg hm]
      have hbm : ((mayC e n l (rd_T43 x2 i).f0 (rd_T43 x2 i).f1 == 0) != false) = false := by simp [hm]
      have hz : e < 2147483647 := by clear hm; omega
      have hno : ∀ h3 : 0 ≤ (rd_T43 x2 i).f0, (rd_T43 x2 i).f0 < l.length → 0 ≤ (rd_T43 x2 i).f1 → (rd_T43 x2 i).f1 < n → rd l (rd_T43 x2 i).f0 = (rd_T43 x2 i).f1 := fun a b c d => Classical.byContradiction fun h => hm (may_zero.2 ⟨hr, hz, a, b, c, d, h⟩)
      clear hm
      have m3 := hmf (k + 3) (by omega)
      have nx := ih (i + 1) (k + 1) e n l fe fl (by omega) (by omega) (by omega) hr hf hl he (by omega)
      have j3 : meterlaw17_TableMoves.j3 (k + 2) x2 i false false e n l fe n fl 0 0 [] = some true := by
        show meterlaw17_TableMoves.j3 ((k + 1) + 1) x2 i false false e n l fe n fl 0 0 [] = some true
        generalize k + 1 = q at *
        simp only [meterlaw17_TableMoves.j3]
        rw [if_neg (by simp), if_neg (by simp), hw]
        exact nx
      have j2 : meterlaw17_TableMoves.j2 (k + 3) x2 i (mayC e n l (rd_T43 x2 i).f0 (rd_T43 x2 i).f1) false e n l fe n fl 0 0 [] = some true := by
        have y := hyf (k + 2) (by omega)
        show meterlaw17_TableMoves.j2 ((k + 2) + 1) x2 i (mayC e n l (rd_T43 x2 i).f0 (rd_T43 x2 i).f1) false e n l fe n fl 0 0 [] = some true
        generalize k + 2 = q at *
        simp only [meterlaw17_TableMoves.j2]
        rw [hbm, if_neg (by simp), if_pos (show (0 : Int) ≤ (i : Int) by omega), if_pos (show (i : Int) < (x2.length : Int) by omega), y]
        rw [Option.bind_some]
        rw [show (mayC e n l (rd_T43 x2 i).f0 (rd_T43 x2 i).f1 != mayC e n l (rd_T43 x2 i).f0 (rd_T43 x2 i).f1) = false by simp]
        exact j3
      show meterlaw17_TableMoves.l0 ((k + 3) + 1) x2 i e n l fe n fl = some true
      generalize k + 3 = q at *
      simp only [meterlaw17_TableMoves.l0]
      rw [if_pos (show (i : Int) < (x2.length : Int) by omega), if_pos (show (0 : Int) ≤ (i : Int) by omega), hof, m3, hmv]
      by_cases c : rightB e n l = true ∧ 0 ≤ (rd_T43 x2 i).f0 ∧ (rd_T43 x2 i).f0 < l.length
      · rw [if_pos c, Option.bind_some, Option.bind_some, if_pos rfl]
        by_cases c5 : (rd_T43 x2 i).f1 ≥ 0
        · rw [if_pos c5]
          by_cases c6 : (rd_T43 x2 i).f1 < n
          · rw [if_pos c6, show (rd l (rd_T43 x2 i).f0 != (rd_T43 x2 i).f1) = false by simp [hno c.2.1 c.2.2 c5 c6]]
            exact j2
          · rw [if_neg c6]
            exact j2
        · rw [if_neg c5]
          exact j2
      · rw [if_neg c, Option.bind_some, Option.bind_some, if_neg (show ¬ (false = true) by decide)]
        dsimp only
        exact j2
theorem new_ok : ∀ (a : Fin 4) (b : Fin 8), (match table_New.f 20 (1 + (a.val : Int)) (1 + (b.val : Int)) with | some (e, n, l, r) => (e == 1) && ((r == 0) && rightB e n l) | none => false) = true := by decide +kernel
theorem new_get (k : Nat) (hk : 20 ≤ k) (a b : Nat) (ha : a < 4) (hb : b < 8) : ∃ n l, table_New.f k (1 + (a : Int)) (1 + (b : Int)) = some (1, n, l, 0) ∧ rightB 1 n l = true := by
  have h := new_ok ⟨a, ha⟩ ⟨b, hb⟩
  simp only at h
  cases hq : table_New.f 20 (1 + (a : Int)) (1 + (b : Int)) with
  | none => rw [hq] at h; cases h
  | some x =>
    obtain ⟨e, n, l, r⟩ := x
    rw [hq] at h
    simp only [Bool.and_eq_true, beq_iff_eq] at h
    obtain ⟨rfl, rfl, h3⟩ := h
    exact ⟨n, l, at_rounds (table_New.mono _ _) hk hq, h3⟩
theorem arg_ok (x : Int) (m : Int) (hm : m = 4 ∨ m = 8) (h0 : 0 ≤ x) : ∃ a : Nat, (a : Int) < m ∧ wrap64 (1 + wrap64 (Int.tmod x m)) = 1 + (a : Int) := by
  rw [Int.tmod_eq_emod_of_nonneg h0]
  refine ⟨(x % m).toNat, ?_, ?_⟩
  · rcases hm with rfl | rfl <;> omega
  · unfold wrap64
    rcases hm with rfl | rfl <;> omega
theorem TableMoves : meterlaw17_TableMoves.Pure := by
  intro x y l hx hy _
  refine ⟨1500, ?_⟩
  have bx : 0 ≤ x ∧ x ≤ 255 := by simpa [Lit.wf, IntKind.min, IntKind.max, IntKind.signed, IntKind.bits] using hx
  have by_ : 0 ≤ y ∧ y ≤ 255 := by simpa [Lit.wf, IntKind.min, IntKind.max, IntKind.signed, IntKind.bits] using hy
  obtain ⟨a, ha, ea⟩ := arg_ok x 4 (.inl rfl) bx.1
  obtain ⟨b, hb, eb⟩ := arg_ok y 8 (.inr rfl) by_.1
  obtain ⟨n, m, hn, hr⟩ := new_get 1500 (by omega) a b (by omega) (by omega)
  unfold meterlaw17_TableMoves.f
  rw [awake_f 1500 (by omega)]
  simp only [Option.bind_some, if_true]
  by_cases hg : (l.length : Int) > 100
  · rw [if_pos hg]
  rw [if_neg hg, ea, eb, hn]
  simp only [Option.bind_some, if_true]
  rw [right_f, hr]
  simp only [Option.bind_some, if_true]
  have r := right_len hr
  have l0 := l0_true l (by omega) l.length 0 1499 1 n m 1 m (by omega) (by omega) (by omega) hr hr rfl (by omega) (by omega)
  show meterlaw17_TableMoves.j0 (1499 + 1) l (1 != 1) 1 n m = some true
  simp only [meterlaw17_TableMoves.j0]
  rw [if_neg (by simp)]
  unfold table_Copy.f slices_Clone_int_int.f
  rw [if_pos (show m.length * 8 ≤ 140737488355328 by omega), Option.bind_some, Option.bind_some]
  exact l0

end Go.Proofs.Ytnmlnghjapekcaa.Pure
