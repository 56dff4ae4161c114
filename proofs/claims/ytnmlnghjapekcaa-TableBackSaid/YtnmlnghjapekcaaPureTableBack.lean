/- A shard that is moved away and back has its owner again, and so have all others; the epoch is two more; two moves of unlike shards lead to the same owners in either row: for any table of at most 1000 owners, any numbers. -/
import Derived.Test.YtnmlnghjapekcaaPTableBackx3
namespace Go.Proofs.Ytnmlnghjapekcaa.Pure
open Go.RowKit Go.Proofs.Ytnmlnghjapekcaa.PTableBack Go.Proofs.YtnmlnghjapekcaaW.PrintWords Go.Proofs.YtnmlnghjapekcaaW.PrintLast

/-! tables, plainly -/
def newerB (e1 n1 : Int) (l1 : List Int) (e2 n2 : Int) (l2 : List Int) : Bool := rightB e1 n1 l1 && (rightB e2 n2 l2 && (decide (n1 = n2) && (decide (l1.length = l2.length) && decide (e1 > e2))))
theorem newer_f (e1 n1 : Int) (l1 : List Int) (e2 n2 : Int) (l2 : List Int) : table_Newer.f e1 n1 l1 e2 n2 l2 = some (newerB e1 n1 l1 e2 n2 l2) := by
  unfold table_Newer.f table_Right.f newerB
  simp only [Option.bind_some]
  cases rightB e1 n1 l1
  · simp
  · cases rightB e2 n2 l2
    · simp
    · by_cases h : n1 = n2
      · by_cases h2 : l1.length = l2.length
        · simp [h, h2]
        · simp [h, h2, Int.ofNat_inj]
      · simp [h]
theorem right_f (e n : Int) (l : List Int) : table_Right.f e n l = some (rightB e n l) := rfl
theorem awake10 : meterlaw17_awake.f 10 = some true := by decide +kernel
theorem awake_f (k : Nat) (hk : 10 ≤ k) : meterlaw17_awake.f k = some true := at_rounds meterlaw17_awake.mono hk awake10
theorem great_f (e n : Int) (l : List Int) : meterlaw17_Great.f e n l = some (decide ((l.length : Int) > 1000)) := rfl
def mayC (e n : Int) (l : List Int) (p t : Int) : Int :=
  if rightB e n l = false ∨ e ≥ 2147483647 then 1 else if p < 0 ∨ p ≥ l.length then 21 else if t < 0 ∨ t ≥ n then 22 else if rd l p = t then 23 else 0
def moveC (e n : Int) (l : List Int) (p t : Int) : Int × Int × List Int × Int := if mayC e n l p t = 0 then (e + 1, n, l.set p.toNat t, 0) else (0, 0, [], mayC e n l p t)
theorem may_f (k : Nat) (hk : 3 ≤ k) (e n : Int) (l : List Int) (p t : Int) : table_May.f k e n l p t = some (mayC e n l p t) := by
  obtain ⟨k, rfl⟩ : ∃ m, k = m + 3 := ⟨k - 3, by omega⟩
  have j2t : table_May.j2 (k + 1) p t true e n l = some 22 := by simp [table_May.j2]
  have j2f : 0 ≤ p → p < l.length → table_May.j2 (k + 1) p t false e n l = some (if rd l p = t then 23 else 0) := by
    intro h0 h1
    simp only [table_May.j2]
    rw [if_neg (by simp), if_pos h0, if_pos h1]
    by_cases h : rd l p = t <;> simp [h]
  have j1t : table_May.j1 (k + 2) p t true e n l = some 21 := by
    show table_May.j1 ((k + 1) + 1) p t true e n l = _
    generalize k + 1 = m
    simp [table_May.j1]
  have j1f : 0 ≤ p → p < l.length → table_May.j1 (k + 2) p t false e n l = some (if t < 0 ∨ t ≥ n then 22 else if rd l p = t then 23 else 0) := by
    intro h0 h1
    have h2 := j2f h0 h1
    show table_May.j1 ((k + 1) + 1) p t false e n l = _
    generalize k + 1 = m at j2t h2
    simp only [table_May.j1]
    rw [if_neg (by simp)]
    by_cases h3 : t < 0
    · rw [if_pos h3, j2t, if_pos (.inl h3)]
    rw [if_neg h3]
    by_cases h4 : t ≥ n
    · rw [decide_eq_true h4, j2t, if_pos (.inr h4)]
    · rw [decide_eq_false h4, h2, if_neg (show ¬ (t < 0 ∨ t ≥ n) by omega)]
  have j0t : table_May.j0 (k + 3) p t true e n l = some 1 := by
    show table_May.j0 ((k + 2) + 1) p t true e n l = _
    generalize k + 2 = m
    simp [table_May.j0]
  have j0f : table_May.j0 (k + 3) p t false e n l = some (if p < 0 ∨ p ≥ l.length then 21 else if t < 0 ∨ t ≥ n then 22 else if rd l p = t then 23 else 0) := by
    show table_May.j0 ((k + 2) + 1) p t false e n l = _
    generalize k + 2 = m at j1t j1f
    simp only [table_May.j0]
    rw [if_neg (by simp)]
    by_cases h3 : p < 0
    · rw [if_pos h3, j1t, if_pos (.inl h3)]
    rw [if_neg h3]
    by_cases h4 : p ≥ (l.length : Int)
    · rw [decide_eq_true h4, j1t, if_pos (.inr h4)]
    · rw [decide_eq_false h4, j1f (by omega) (by omega), if_neg (show ¬ (p < 0 ∨ p ≥ (l.length : Int)) by omega)]
  unfold table_May.f mayC
  rw [right_f]
  simp only [Option.bind_some]
  cases hr : rightB e n l with
  | false => rw [if_neg (by simp), if_pos (.inl rfl), j0t]
  | true =>
    rw [if_pos rfl]
    by_cases h : e ≥ 2147483647
    · rw [decide_eq_true h, j0t, if_pos (.inr h)]
    · rw [decide_eq_false h, j0f, if_neg (show ¬ (true = false ∨ e ≥ 2147483647) by simp; omega)]
theorem right_len {e n : Int} {l : List Int} (h : rightB e n l = true) : 1 ≤ e ∧ 1 ≤ n ∧ n ≤ 4 ∧ 1 ≤ l.length ∧ l.length ≤ 8 ∧ l.any (badB n) = false := by
  unfold rightB at h
  simp only [Bool.and_eq_true, decide_eq_true_eq, Bool.not_eq_true'] at h
  exact ⟨h.1, h.2.1, h.2.2.1, h.2.2.2.1, h.2.2.2.2.1, h.2.2.2.2.2⟩
theorem right_mk {e n : Int} {l : List Int} (h1 : 1 ≤ e) (h2 : 1 ≤ n) (h3 : n ≤ 4) (h4 : 1 ≤ l.length) (h5 : l.length ≤ 8) (h6 : l.any (badB n) = false) : rightB e n l = true := by
  unfold rightB
  rw [decide_eq_true h1, decide_eq_true h2, decide_eq_true h3, decide_eq_true h4, decide_eq_true h5, h6]
  rfl
theorem may_zero {e n : Int} {l : List Int} {p t : Int} : mayC e n l p t = 0 ↔ rightB e n l = true ∧ e < 2147483647 ∧ 0 ≤ p ∧ p < l.length ∧ 0 ≤ t ∧ t < n ∧ rd l p ≠ t := by
  unfold mayC
  constructor
  · intro h
    by_cases h1 : rightB e n l = false ∨ e ≥ 2147483647
    · rw [if_pos h1] at h
      cases h
    rw [if_neg h1] at h
    by_cases h2 : p < 0 ∨ p ≥ l.length
    · rw [if_pos h2] at h
      cases h
    rw [if_neg h2] at h
    by_cases h3 : t < 0 ∨ t ≥ n
    · rw [if_pos h3] at h
      cases h
    rw [if_neg h3] at h
    by_cases h4 : rd l p = t
    · rw [if_pos h4] at h
      cases h
    refine ⟨?_, by omega, by omega, by omega, by omega, by omega, h4⟩
    cases hr : rightB e n l with
    | true => rfl
    | false => exact absurd (.inl hr) h1
  · rintro ⟨h1, h2, h3, h4, h5, h6, h7⟩
    rw [if_neg (by rw [h1]; simp; omega), if_neg (by omega), if_neg (by omega), if_neg h7]
theorem move_f (k : Nat) (hk : 3 ≤ k) (e n : Int) (l : List Int) (p t : Int) : table_Move.f k e n l p t = some (moveC e n l p t) := by
  unfold table_Move.f moveC
  rw [may_f k hk]
  simp only [Option.bind_some]
  by_cases h : mayC e n l p t = 0
  · obtain ⟨h1, h2, h3, h4, h5, h6, h7⟩ := may_zero.1 h
    obtain ⟨r1, r2, r3, r4, r5, r6⟩ := right_len h1
    have hc : table_Copy.f e n l = some (e, n, l) := by
      unfold table_Copy.f slices_Clone_int_int.f
      rw [if_pos (by omega)]
      rfl
    rw [if_pos h, if_pos h, hc]
    simp only [Option.bind_some]
    rw [if_pos h3, if_pos h4]
    congr 2
    unfold wrap64
    omega
  · rw [if_neg h, if_neg h]
theorem rd_set (l : List Int) (i j : Nat) (v : Int) (h : i < l.length) : rd (l.set i v) j = if i = j then v else rd l j := by
  unfold rd
  simp only [Int.toNat_natCast, List.getD_eq_getElem?_getD, List.getElem?_set]
  by_cases e : i = j
  · subst e
    simp [h]
  · simp [e]
theorem rd_get (l : List Int) (i : Nat) (h : i < l.length) : rd l i = l[i] := by
  unfold rd
  rw [Int.toNat_natCast, List.getD_eq_getElem?_getD, List.getElem?_eq_getElem h]
  rfl
theorem bad_rd {n : Int} {l : List Int} (h : l.any (badB n) = false) (i : Nat) (hi : i < l.length) : 0 ≤ rd l i ∧ rd l i < n := by
  rw [List.any_eq_false] at h
  have h2 := h l[i] (List.getElem_mem hi)
  rw [← rd_get l i hi] at h2
  unfold badB at h2
  simp only [Bool.or_eq_true, decide_eq_true_eq, not_or] at h2
  omega
theorem bad_set {n : Int} {l : List Int} (h : l.any (badB n) = false) (i : Nat) (v : Int) (h0 : 0 ≤ v) (h1 : v < n) : (l.set i v).any (badB n) = false := by
  rw [List.any_eq_false] at h ⊢
  intro x hx
  rcases List.mem_or_eq_of_mem_set hx with hx | hx
  · exact h x hx
  · subst hx
    unfold badB
    simp only [Bool.or_eq_true, decide_eq_true_eq, not_or]
    omega
theorem set_rd (l : List Int) (i : Nat) (h : i < l.length) : l.set i (rd l i) = l := by
  rw [rd_get l i h]
  exact List.set_getElem_self h
theorem right_move {e n : Int} {l : List Int} {p t : Int} (h : mayC e n l p t = 0) : rightB (e + 1) n (l.set p.toNat t) = true := by
  obtain ⟨h1, h2, h3, h4, h5, h6, h7⟩ := may_zero.1 h
  obtain ⟨r1, r2, r3, r4, r5, r6⟩ := right_len h1
  exact right_mk (by omega) r2 r3 (by rw [List.length_set]; exact r4) (by rw [List.length_set]; exact r5) (bad_set r6 _ _ h5 h6)
theorem equal_l0 (l m : List Int) (hl : l.length = m.length) (hm : l.length ≤ 9223372036854775806) : ∀ (d i k : Nat), i + d = l.length → d < k →
    slices_Equal_int_int.l0 k l m l.length i = some (decide (l.drop i = m.drop i)) := by
  intro d
  induction d with
  | zero =>
    intro i k h hk
    obtain ⟨k, rfl⟩ : ∃ z, k = z + 1 := ⟨k - 1, by omega⟩
    simp only [slices_Equal_int_int.l0]
    rw [if_neg (by omega), List.drop_of_length_le (by omega), List.drop_of_length_le (by omega)]
    simp
  | succ d ih =>
    intro i k h hk
    obtain ⟨k, rfl⟩ : ∃ z, k = z + 1 := ⟨k - 1, by omega⟩
    have hi : i < l.length := by omega
    have hj : i < m.length := by omega
    have e1 : rd l (i : Int) = l[i] := by
      unfold rd
      rw [Int.toNat_natCast, List.getD_eq_getElem?_getD, List.getElem?_eq_getElem hi]
      rfl
    have e2 : rd m (i : Int) = m[i] := by
      unfold rd
      rw [Int.toNat_natCast, List.getD_eq_getElem?_getD, List.getElem?_eq_getElem hj]
      rfl
    simp only [slices_Equal_int_int.l0]
    rw [if_pos (by omega), if_pos (by omega), if_pos (by omega), if_pos (by omega), e1, e2, List.drop_eq_getElem_cons hi, List.drop_eq_getElem_cons hj]
    by_cases he : l[i] = m[i]
    · have hn := ih (i + 1) k (by omega) (by omega)
      rw [if_pos he, show wrap64 ((i : Int) + 1) = ((i + 1 : Nat) : Int) by unfold wrap64; omega, hn]
      congr 1
      apply decide_eq_decide.2
      rw [List.cons.injEq]
      simp only [he, true_and]
    · rw [if_neg he]
      congr 1
      symm
      apply decide_eq_false
      intro hc
      exact he (List.cons.inj hc).1
theorem equal_f (l m : List Int) (hm : l.length ≤ 9223372036854775806) (k : Nat) (hk : l.length < k) : slices_Equal_int_int.f k l m = some (decide (l = m)) := by
  unfold slices_Equal_int_int.f
  by_cases h : l.length = m.length
  · have h0 := equal_l0 l m h hm l.length 0 k (by omega) hk
    rw [if_pos (by omega)]
    simpa using h0
  · rw [if_neg (by omega), decide_eq_false (fun e => h (by rw [e]))]
theorem same_f (e1 n1 : Int) (l1 : List Int) (e2 n2 : Int) (l2 : List Int) (hm : l1.length ≤ 9223372036854775806) (k : Nat) (hk : l1.length < k) : table_Same.f k e1 n1 l1 e2 n2 l2 = some (decide (e1 = e2 ∧ n1 = n2 ∧ l1 = l2)) := by
  unfold table_Same.f
  rw [equal_f l1 l2 hm k hk]
  by_cases h1 : e1 = e2
  · by_cases h2 : n1 = n2
    · simp [h1, h2]
    · simp [h1, h2]
  · simp [h1]
theorem owner_f (e n : Int) (l : List Int) (p : Int) : table_Owner.f e n l p = some (if rightB e n l = true ∧ 0 ≤ p ∧ p < l.length then (rd l p, true) else (0, false)) := by
  unfold table_Owner.f
  rw [right_f]
  simp only [Option.bind_some]
  cases hr : rightB e n l with
  | false => simp
  | true =>
    rw [if_pos rfl]
    by_cases h1 : p < 0
    · rw [if_pos h1, if_neg (by omega)]
    rw [if_neg h1]
    by_cases h2 : p ≥ (l.length : Int)
    · rw [if_pos h2, if_neg (by omega)]
    · rw [if_neg h2, if_pos (by omega), if_pos (by omega), if_pos ⟨rfl, by omega, by omega⟩]
theorem j1_true (k : Nat) (p t o g h : Int) (e n : Int) (l : List Int) (a b : Int) (m : List Int) (c d : Int) (q : List Int) (hh : p = o ∨ e ≥ 2147483646 ∨ g = h) :
    meterlaw17_TableBack.j1 (k + 1) p t o g h true e n l a b m c d q = some true := by
  simp only [meterlaw17_TableBack.j1, if_true]
  by_cases h1 : p = o
  · rw [if_pos h1]
  rw [if_neg h1]
  by_cases h2 : e ≥ 2147483646
  · rw [if_pos h2]
  · rw [if_neg h2]
    have h3 : g = h := by omega
    simp [h3]
theorem j0_true (k : Nat) (hk : 12 ≤ k) (p t o s e n : Int) (l : List Int) (hm : mayC e n l p t = 0) :
    meterlaw17_TableBack.j0 (k + 2) p t o s e n l (e + 1) n (l.set p.toNat t) = some true := by
  obtain ⟨h1, h2, h3, h4, h5, h6, h7⟩ := may_zero.1 hm
  obtain ⟨r1, r2, r3, r4, r5, r6⟩ := right_len h1
  have hrm := right_move hm
  have j1t := j1_true k p t o
  show meterlaw17_TableBack.j0 ((k + 1) + 1) p t o s e n l (e + 1) n (l.set p.toNat t) = some true
  have j1f : p ≠ o → mayC e n l o s = 0 → mayC (e + 1) n (l.set p.toNat t) o s = 0 → meterlaw17_TableBack.j1 (k + 1) p t o 0 0 false e n l (e + 1 + 1) n ((l.set p.toNat t).set o.toNat s) (e + 1) n (l.set o.toNat s) = some true := by
    intro hne hx hw
    obtain ⟨_, g2, g3, g4, g5, g6, g7⟩ := may_zero.1 hx
    obtain ⟨_, w2, _⟩ := may_zero.1 hw
    have hy : mayC (e + 1) n (l.set o.toNat s) p t = 0 := by
      refine may_zero.2 ⟨right_move hx, w2, h3, by rw [List.length_set]; exact h4, h5, h6, ?_⟩
      obtain ⟨i, rfl⟩ := Int.eq_ofNat_of_zero_le h3
      obtain ⟨j, rfl⟩ := Int.eq_ofNat_of_zero_le g3
      rw [Int.toNat_natCast, rd_set l j i s (by omega), if_neg (by omega)]
      exact h7
    simp only [meterlaw17_TableBack.j1]
    rw [if_neg (by simp), move_f k (by omega)]
    simp only [Option.bind_some]
    unfold moveC
    rw [if_pos hy]
    simp only
    have hlen : ((l.set p.toNat t).set o.toNat s).length = l.length := by simp
    rw [if_pos trivial, same_f _ _ _ _ _ _ (by omega) k (by omega), List.set_comm _ _ (by omega)]
    simp
  have hk1 : 3 ≤ k + 1 := by omega
  generalize k + 1 = m at j1t j1f hk1
  simp only [meterlaw17_TableBack.j0]
  rw [move_f m hk1, move_f m hk1]
  simp only [Option.bind_some]
  by_cases hpo : p = o
  · rw [if_pos hpo, j1t _ _ _ _ _ _ _ _ _ _ _ (.inl hpo)]
  rw [if_neg hpo]
  have hsame : e < 2147483646 → mayC (e + 1) n (l.set p.toNat t) o s = mayC e n l o s := by
    intro he
    unfold mayC
    rw [h1, hrm, List.length_set, if_neg (show ¬ (true = false ∨ e + 1 ≥ 2147483647) by simp; omega), if_neg (show ¬ (true = false ∨ e ≥ 2147483647) by simp; omega)]
    by_cases ho : o < 0 ∨ o ≥ l.length
    · rw [if_pos ho, if_pos ho]
    rw [if_neg ho, if_neg ho]
    by_cases hs : s < 0 ∨ s ≥ n
    · rw [if_pos hs, if_pos hs]
    rw [if_neg hs, if_neg hs]
    obtain ⟨i, rfl⟩ := Int.eq_ofNat_of_zero_le h3
    obtain ⟨j, rfl⟩ := Int.eq_ofNat_of_zero_le (show 0 ≤ o by omega)
    rw [Int.toNat_natCast, rd_set l i j t (by omega), if_neg (show ¬ i = j by omega)]
  by_cases hx : mayC e n l o s = 0
  · by_cases hw : mayC (e + 1) n (l.set p.toNat t) o s = 0
    · have := j1f hpo hx hw
      unfold moveC
      rw [if_pos hx, if_pos hw]
      simp only
      rw [if_pos trivial]
      exact this
    · unfold moveC
      rw [if_pos hx, if_neg hw]
      simp only
      have hne : (mayC (e + 1) n (l.set p.toNat t) o s != 0) = true := bne_iff_ne.2 hw
      rw [if_pos trivial, hne, j1t _ _ _ _ _ _ _ _ _ _ _ (.inr ?_)]
      by_cases he : e ≥ 2147483646
      · exact .inl he
      · exact absurd (by rw [hsame (by omega)]; exact hx) hw
  · unfold moveC
    rw [if_neg hx]
    simp only
    rw [if_neg hx, j1t _ _ _ _ _ _ _ _ _ _ _ (.inr ?_)]
    by_cases he : e ≥ 2147483646
    · exact .inl he
    · refine .inr ?_
      rw [hsame (by omega), if_neg hx]
theorem TableBack : meterlaw17_TableBack.Pure := by
  intro e n l p t o s _ _ _ _ _ _ _
  refine ⟨20, ?_⟩
  unfold meterlaw17_TableBack.f
  rw [awake_f 20 (by omega), great_f]
  simp only [Option.bind_some, if_true]
  by_cases hg : (l.length : Int) > 1000
  · simp [hg]
  rw [decide_eq_false hg, if_neg (by simp), move_f 20 (by omega)]
  simp only [Option.bind_some]
  by_cases hm : mayC e n l p t = 0
  · have hj0 := j0_true 18 (by omega) p t o s e n l hm
    obtain ⟨h1, h2, h3, h4, h5, h6, h7⟩ := may_zero.1 hm
    obtain ⟨r1, r2, r3, r4, r5, r6⟩ := right_len h1
    have hrm := right_move hm
    have ho : table_Owner.f e n l p = some (rd l p, true) := by rw [owner_f, if_pos ⟨h1, h3, h4⟩]
    have hmv : moveC e n l p t = (e + 1, n, l.set p.toNat t, 0) := by unfold moveC; rw [if_pos hm]
    rw [hmv, ho]
    simp only [Option.bind_some, if_true]
    rw [move_f 20 (by omega)]
    simp only [Option.bind_some]
    obtain ⟨i, rfl⟩ := Int.eq_ofNat_of_zero_le h3
    have hi : i < l.length := by omega
    rw [Int.toNat_natCast] at hrm hj0 ⊢
    have hb := bad_rd r6 i hi
    by_cases he : e < 2147483646
    · have hv : mayC (e + 1) n (l.set i t) i (rd l i) = 0 := by
        refine may_zero.2 ⟨hrm, by omega, by omega, by rw [List.length_set]; omega, hb.1, hb.2, ?_⟩
        rw [rd_set l i i t hi, if_pos rfl]
        exact fun h => h7 h.symm
      have hmv2 : moveC (e + 1) n (l.set i t) i (rd l i) = (e + 1 + 1, n, l, 0) := by
        unfold moveC
        rw [if_pos hv, Int.toNat_natCast, List.set_set, set_rd l i hi]
      rw [if_pos he, hmv2]
      simp only [if_true]
      have hw : wrap64 (e + 1 + 1 - 2) = e := by unfold wrap64; omega
      rw [hw, same_f _ _ _ _ _ _ (by omega) 20 (by omega)]
      simp only [Option.bind_some]
      rw [if_pos (by simp)]
      exact hj0
    · have hv : mayC (e + 1) n (l.set i t) i (rd l i) = 1 := by
        unfold mayC
        rw [if_pos (.inr (by omega))]
      have hmv2 : moveC (e + 1) n (l.set i t) i (rd l i) = (0, 0, [], 1) := by
        unfold moveC
        rw [hv]
        rfl
      rw [if_neg he, hmv2]
      simp only [if_true]
      exact hj0
  · have hmv : moveC e n l p t = (0, 0, [], mayC e n l p t) := by unfold moveC; rw [if_neg hm]
    rw [hmv]
    simp only
    rw [if_neg hm]

end Go.Proofs.Ytnmlnghjapekcaa.Pure
