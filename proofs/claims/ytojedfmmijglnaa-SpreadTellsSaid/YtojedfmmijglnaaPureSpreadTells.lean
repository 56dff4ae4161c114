/- Which table is kept, what leads from one to another, and where changes lead, are the document's; what is handed in stays: for any two tables of at most 1000 owners, any epoch, at most 1000 changes. -/
import Derived.Test.YtojedfmmijglnaaPSpreadTellsx7
namespace Go.Proofs.Ytojedfmmijglnaa.Pure
open Go.RowKit Go.Proofs.Ytojedfmmijglnaa.PSpreadTells Go.Proofs.YtojedfmmijglnaaW.PrintWords Go.Proofs.YtojedfmmijglnaaW.PrintLast

/-! tables, plainly -/
def newerB (e1 n1 : Int) (l1 : List Int) (e2 n2 : Int) (l2 : List Int) : Bool := rightB e1 n1 l1 && (rightB e2 n2 l2 && (decide (n1 = n2) && (decide (l1.length = l2.length) && decide (e1 > e2))))
theorem newer_f (e1 n1 : Int) (l1 : List Int) (e2 n2 : Int) (l2 : List Int) : table_Newer.f e1 n1 l1 e2 n2 l2 = some (newerB e1 n1 l1 e2 n2 l2) := by
  unfold table_Newer.f table_Right.f newerB
  simp only [Option.bind_some]
  cases rightB e1 n1 l1
  · simp
  · cases rightB e2 n2 l2
    · simp
    · by_cases h : n1 = n2
      · by_cases h2 : l1.length = l2.length
        · simp [h, h2]
        · simp [h, h2, Int.ofNat_inj]
      · simp [h]
theorem right_f (e n : Int) (l : List Int) : table_Right.f e n l = some (rightB e n l) := rfl
theorem right_len {e n : Int} {l : List Int} (h : rightB e n l = true) : 1 ≤ e ∧ 1 ≤ n ∧ n ≤ 4 ∧ 1 ≤ l.length ∧ l.length ≤ 8 ∧ l.any (badB n) = false := by
  unfold rightB at h
  simp only [Bool.and_eq_true, decide_eq_true_eq, Bool.not_eq_true'] at h
  exact ⟨h.1, h.2.1, h.2.2.1, h.2.2.2.1, h.2.2.2.2.1, h.2.2.2.2.2⟩
theorem right_mk {e n : Int} {l : List Int} (h1 : 1 ≤ e) (h2 : 1 ≤ n) (h3 : n ≤ 4) (h4 : 1 ≤ l.length) (h5 : l.length ≤ 8) (h6 : l.any (badB n) = false) : rightB e n l = true := by
  unfold rightB
  rw [decide_eq_true h1, decide_eq_true h2, decide_eq_true h3, decide_eq_true h4, decide_eq_true h5, h6]
  rfl
theorem rd_get (l : List Int) (i : Nat) (h : i < l.length) : rd l i = l[i] := by
  unfold rd
  rw [Int.toNat_natCast, List.getD_eq_getElem?_getD, List.getElem?_eq_getElem h]
  rfl
theorem bad_rd {n : Int} {l : List Int} (h : l.any (badB n) = false) (i : Nat) (hi : i < l.length) : 0 ≤ rd l i ∧ rd l i < n := by
  rw [List.any_eq_false] at h
  have h2 := h l[i] (List.getElem_mem hi)
  rw [← rd_get l i hi] at h2
  unfold badB at h2
  simp only [Bool.or_eq_true, decide_eq_true_eq, not_or] at h2
  omega
/-! which table is kept -/
def keepC (e n : Int) (l : List Int) (f m : Int) (q : List Int) : Int × Int × List Int × Bool := if newerB f m q e n l = true then (f, m, q, true) else (e, n, l, false)
theorem copy_f (e n : Int) (l : List Int) (hl : l.length ≤ 1000000) : table_Copy.f e n l = some (e, n, l) := by
  unfold table_Copy.f slices_Clone_int_int.f
  rw [if_pos (show l.length * 8 ≤ 140737488355328 by omega), Option.bind_some]
theorem keep_f (e n : Int) (l : List Int) (f m : Int) (q : List Int) (hl : l.length ≤ 1000000) (hq : q.length ≤ 1000000) : spread_Keep.f e n l f m q = some (keepC e n l f m q) := by
  unfold spread_Keep.f keepC
  rw [newer_f, Option.bind_some, copy_f f m q hq, copy_f e n l hl]
  cases newerB f m q e n l <;> rfl
theorem newer_self (e n : Int) (l : List Int) : newerB e n l e n l = false := by
  unfold newerB
  rw [decide_eq_false (show ¬ e > e by omega)]
  simp
theorem newer_alike {e n : Int} {l : List Int} {f : Int} {q : List Int} (h1 : rightB e n l = true) (h2 : rightB f n q = true) (hl : l.length = q.length) : newerB e n l f n q = decide (e > f) := by
  unfold newerB
  rw [h1, h2, decide_eq_true rfl, decide_eq_true hl]
  rfl
theorem keep_len {e n : Int} {l : List Int} {f m : Int} {q : List Int} {z : Nat} (hl : l.length ≤ z) (hq : q.length ≤ z) : (keepC e n l f m q).2.2.1.length ≤ z := by
  unfold keepC
  split
  · exact hq
  · exact hl
/-- Of two right ones of one size the later is kept. -/
theorem keep_alike {e n : Int} {l : List Int} {f : Int} {q : List Int} (h1 : rightB e n l = true) (h2 : rightB f n q = true) (hl : l.length = q.length) :
    (keepC e n l f n q).1 = max e f ∧ (keepC e n l f n q).2.1 = n ∧ (keepC e n l f n q).2.2.1.length = l.length ∧ rightB (keepC e n l f n q).1 (keepC e n l f n q).2.1 (keepC e n l f n q).2.2.1 = true := by
  unfold keepC
  rw [newer_alike h2 h1 hl.symm]
  by_cases h : f > e
  · rw [decide_eq_true h, if_pos rfl]
    exact ⟨by show f = max e f; omega, rfl, hl.symm, h2⟩
  · rw [decide_eq_false h, if_neg (by simp)]
    exact ⟨by show e = max e f; omega, rfl, rfl, h1⟩
/-! what leads from one table to another -/
def diffI : Nat → List Int → List Int → List S39
  | i, x :: l, y :: q => if x = y then diffI (i + 1) l q else ⟨(i : Int), y⟩ :: diffI (i + 1) l q
  | _, [], _ => []
  | _, _ :: _, [] => []
theorem diffI_len : ∀ (l q : List Int) (i : Nat), (diffI i l q).length ≤ l.length
  | [], _, _ => by simp [diffI]
  | _ :: _, [], _ => by simp [diffI]
  | x :: l, y :: q, i => by
    have := diffI_len l q (i + 1)
    simp only [diffI]
    split
    · simp; omega
    · simp; omega
theorem diffI_sym : ∀ (l q : List Int) (i j : Nat), (diffI i l q).length = (diffI j q l).length
  | [], [], _, _ => by simp [diffI]
  | [], _ :: _, _, _ => by simp [diffI]
  | _ :: _, [], _, _ => by simp [diffI]
  | x :: l, y :: q, i, j => by
    have := diffI_sym l q (i + 1) (j + 1)
    simp only [diffI]
    by_cases h : x = y
    · rw [if_pos h, if_pos h.symm]
      exact this
    · rw [if_neg h, if_neg (fun e => h e.symm), List.length_cons, List.length_cons, this]
theorem diffI_self : ∀ (l : List Int) (i : Nat), diffI i l l = []
  | [], _ => by simp [diffI]
  | x :: l, i => by
    simp only [diffI]
    rw [if_pos trivial]
    exact diffI_self l (i + 1)
theorem diffI_mem : ∀ (l q : List Int) (i : Nat) (x : S39), x ∈ diffI i l q → (i : Int) ≤ x.f0 ∧ x.f0 < (i : Int) + (l.length : Int)
  | [], _, _, _, h => by simp [diffI] at h
  | _ :: _, [], _, _, h => by simp [diffI] at h
  | a :: l, b :: q, i, x, h => by
    simp only [diffI] at h
    rw [List.length_cons]
    split at h
    · have := diffI_mem l q (i + 1) x h
      omega
    · rcases List.mem_cons.1 h with rfl | h
      · simp only
        omega
      · have := diffI_mem l q (i + 1) x h
        omega
theorem rd_at (l : List Int) (i : Nat) (hi : i < l.length) : rd l (i : Int) = l[i] := by
  unfold rd
  rw [Int.toNat_natCast, List.getD_eq_getElem?_getD, List.getElem?_eq_getElem hi]
  rfl
theorem wr1 (i : Nat) (h : i < 9223372036854775000) : wrap64 ((i : Int) + 1) = ((i + 1 : Nat) : Int) := by unfold wrap64; omega
theorem diff_l0 (l q : List Int) (hl : l.length = q.length) (h8 : l.length ≤ 8) (e n : Int) : ∀ (d i k : Nat) (acc : List S39), i + d = l.length → d < k → acc.length ≤ i →
    spread_Diff.l0 k acc q (q.length : Int) i e n l = some (acc ++ diffI i (l.drop i) (q.drop i), true) := by
  intro d
  induction d with
  | zero =>
    intro i k acc h hk ha
    obtain ⟨k, rfl⟩ : ∃ m, k = m + 1 := ⟨k - 1, by omega⟩
    simp only [spread_Diff.l0]
    rw [if_neg (show ¬ (i : Int) < (q.length : Int) by omega), List.drop_of_length_le (by omega), diffI, List.append_nil]
  | succ d ih =>
    intro i k acc h hk ha
    obtain ⟨k, rfl⟩ : ∃ m, k = m + 1 := ⟨k - 1, by omega⟩
    have hi : i < l.length := by omega
    have hj : i < q.length := by omega
    simp only [spread_Diff.l0]
    rw [if_pos (show (i : Int) < (q.length : Int) by omega), if_pos (show (0 : Int) ≤ (i : Int) by omega), if_pos (show (i : Int) < (q.length : Int) by omega), if_pos (show (i : Int) < (l.length : Int) by omega), rd_at l i hi, rd_at q i hj, wr1 i (by omega),
      List.drop_eq_getElem_cons hi, List.drop_eq_getElem_cons hj, diffI]
    by_cases h2 : l[i] = q[i]
    · rw [if_pos h2, if_pos h2]
      exact ih (i + 1) k acc (by omega) (by omega) (by omega)
    · rw [if_neg h2, if_neg h2, if_pos (show acc.length < 8796093022208 by omega), ih (i + 1) k _ (by omega) (by omega) (by rw [List.length_append, List.length_singleton]; omega), List.append_assoc]
      rfl
def alikeB (e n : Int) (l : List Int) (f m : Int) (q : List Int) : Bool := rightB e n l && (rightB f m q && (decide (n = m) && decide (l.length = q.length)))
theorem alike_sym (e n : Int) (l : List Int) (f m : Int) (q : List Int) : alikeB e n l f m q = alikeB f m q e n l := by
  unfold alikeB
  rw [show decide (n = m) = decide (m = n) from decide_eq_decide.2 ⟨Eq.symm, Eq.symm⟩, show decide (l.length = q.length) = decide (q.length = l.length) from decide_eq_decide.2 ⟨Eq.symm, Eq.symm⟩]
  cases rightB e n l <;> cases rightB f m q <;> rfl
def diffC (e n : Int) (l : List Int) (f m : Int) (q : List Int) : List S39 × Bool := if alikeB e n l f m q = true then (diffI 0 l q, true) else ([], false)
theorem diff_f (k : Nat) (hk : 12 ≤ k) (e n : Int) (l : List Int) (f m : Int) (q : List Int) : spread_Diff.f k e n l f m q = some (diffC e n l f m q) := by
  obtain ⟨k, rfl⟩ : ∃ z, k = z + 1 := ⟨k - 1, by omega⟩
  have jt : spread_Diff.j0 (k + 1) true e n l f m q = some ([], false) := by
    simp only [spread_Diff.j0]
    rw [if_pos trivial]
  have jf : l.length = q.length → l.length ≤ 8 → spread_Diff.j0 (k + 1) false e n l f m q = some (diffI 0 l q, true) := fun h1 h2 => by
    have := diff_l0 l q h1 h2 e n l.length 0 k [] (by omega) (by omega) (Nat.le_refl _)
    simp only [spread_Diff.j0]
    rw [if_neg (by simp)]
    exact this
  unfold spread_Diff.f diffC alikeB
  generalize k + 1 = z at jt jf
  rw [right_f, right_f, Option.bind_some, Option.bind_some]
  cases h1 : rightB e n l with
  | false =>
    rw [if_neg (show ¬ (false = true) by decide), if_neg (by simp)]
    exact jt
  | true =>
    rw [if_pos rfl]
    cases h2 : rightB f m q with
    | false =>
      rw [if_neg (show ¬ (false = true) by decide), if_neg (by simp)]
      exact jt
    | true =>
      rw [if_pos rfl]
      obtain ⟨_, _, _, _, r5, _⟩ := right_len h1
      by_cases h3 : n = m
      · rw [if_pos h3]
        by_cases h4 : l.length = q.length
        · rw [show ((l.length : Int) != (q.length : Int)) = false by simp [h4], jf h4 r5, if_pos (by simp [h3, h4])]
        · rw [show ((l.length : Int) != (q.length : Int)) = true by simp; omega, jt, if_neg (by simp [h4])]
      · rw [if_neg h3, jt, if_neg (by simp [h3])]
theorem patch_diff (n : Int) (l q : List Int) (hl : l.length = q.length) (hb : q.any (badB n) = false) : ∀ (d i : Nat) (seen : List Int), i + d = l.length → (∀ z ∈ seen, z < (i : Int)) →
    patchL n (diffI i (l.drop i) (q.drop i)) seen (q.take i ++ l.drop i) = (q, 0) := by
  intro d
  induction d with
  | zero =>
    intro i seen h hs
    rw [List.drop_of_length_le (show l.length ≤ i by omega), diffI, patchL, List.append_nil, List.take_of_length_le (by omega)]
  | succ d ih =>
    intro i seen h hs
    have hi : i < l.length := by omega
    have hj : i < q.length := by omega
    have hn := bad_rd hb i hj
    rw [rd_at q i hj] at hn
    have e1 : q.take (i + 1) ++ l.drop (i + 1) = (q.take i ++ l.drop i).set i q[i] := by
      rw [List.take_succ_eq_append_getElem hj, List.drop_eq_getElem_cons hi, List.set_append]
      have : ¬ i < (q.take i).length := by rw [List.length_take]; omega
      rw [if_neg this, List.length_take, Nat.min_eq_left (by omega), Nat.sub_self, List.set_cons_zero, List.append_assoc]
      rfl
    have e2 : (q.take i ++ l.drop i).length = l.length := by rw [List.length_append, List.length_take, List.length_drop]; omega
    rw [List.drop_eq_getElem_cons hi, List.drop_eq_getElem_cons hj, diffI]
    by_cases h2 : l[i] = q[i]
    · have := ih (i + 1) seen (by omega) (fun z hz => by have := hs z hz; omega)
      rw [if_pos h2, ← List.drop_eq_getElem_cons hi]
      rw [e1, ← h2, List.drop_eq_getElem_cons hi, List.set_append] at this
      rw [if_neg (by rw [List.length_take]; omega), List.length_take, Nat.min_eq_left (show i ≤ q.length by omega), Nat.sub_self, List.set_cons_zero, ← List.drop_eq_getElem_cons hi] at this
      exact this
    · have := ih (i + 1) (seen ++ [(i : Int)]) (by omega) (fun z hz => by
        rcases List.mem_append.1 hz with hz | hz
        · have := hs z hz; omega
        · rw [List.mem_singleton.1 hz]; omega)
      rw [if_neg h2, ← List.drop_eq_getElem_cons hi, patchL, e2]
      have c1 : ¬ ((i : Int) < 0 ∨ (i : Int) ≥ (l.length : Int)) := by omega
      have c2 : ¬ (q[i] < 0 ∨ q[i] ≥ n) := by omega
      have c3 : ¬ (seen.contains (i : Int) = true) := fun hc => by
        have := hs _ (List.contains_iff_mem.1 hc)
        omega
      rw [if_neg c1, if_neg c2, if_neg c3, Int.toNat_natCast, ← e1]
      exact this
theorem wf_small (x : Int) (h : 0 ≤ x ∧ x < 1000000) : (Lit.int .i64 x).wf = true := by
  have : -9223372036854775808 ≤ x ∧ x ≤ 9223372036854775807 := by omega
  simpa [Lit.wf, IntKind.min, IntKind.max, IntKind.signed, IntKind.bits] using this
theorem patch_f (e n : Int) (l : List Int) (e2 : Int) (q : List Int) (h8 : l.length ≤ 8) : spread_Patch.f e n l e2 (diffI 0 l q) = some (patchC e n l e2 (diffI 0 l q)) := by
  have hl := diffI_len l q 0
  have hw : wfC (diffI 0 l q) = true := by
    unfold wfC
    rw [List.all_eq_true]
    intro x hx
    have := diffI_mem l q 0 x hx
    exact wf_small x.f0 (by omega)
  unfold spread_Patch.f
  rw [if_pos ⟨hw, show (diffI 0 l q).length ≤ 100000 by omega⟩]
theorem patch_there (e n : Int) (l : List Int) (e2 f m : Int) (q : List Int) (ha : alikeB e n l f m q = true) (h1 : e < e2) (h2 : e2 ≤ 2147483647) : patchC e n l e2 (diffI 0 l q) = (e2, n, q, 0) := by
  unfold alikeB at ha
  simp only [Bool.and_eq_true, decide_eq_true_eq] at ha
  obtain ⟨a1, a2, rfl, a4⟩ := ha
  obtain ⟨_, _, _, _, _, r6⟩ := right_len a2
  have hp := patch_diff n l q a4 r6 l.length 0 [] (by omega) (fun z hz => by simp at hz)
  rw [List.drop_zero, List.drop_zero, List.take_zero, List.nil_append] at hp
  unfold patchC
  rw [if_neg (by rw [a1]; simp; omega), hp, if_pos rfl]
/-! the document's answers -/
theorem refright_l0 (e n : Int) (l : List Int) (hl : l.length ≤ 8) : ∀ (d i k : Nat), i + d = l.length → d < k → meterref17_Right.l0 k i e n l = some (!((l.drop i).any (badB n))) := by
  intro d
  induction d with
  | zero =>
    intro i k h hk
    obtain ⟨k, rfl⟩ : ∃ z, k = z + 1 := ⟨k - 1, by omega⟩
    simp only [meterref17_Right.l0]
    rw [if_neg (by omega), List.drop_of_length_le (by omega)]
    rfl
  | succ d ih =>
    intro i k h hk
    obtain ⟨k, rfl⟩ : ∃ z, k = z + 1 := ⟨k - 1, by omega⟩
    have hi : i < l.length := by omega
    simp only [meterref17_Right.l0]
    rw [if_pos (by omega), if_pos (by omega), rd_at l i hi, List.drop_eq_getElem_cons hi, List.any_cons, wr1 i (by omega), ih (i + 1) k (by omega) (by omega)]
    unfold badB
    by_cases h1 : l[i] < 0
    · rw [if_pos h1, decide_eq_true h1]
      rfl
    · rw [if_neg h1, decide_eq_false h1]
      by_cases h2 : l[i] ≥ n
      · rw [if_pos h2, decide_eq_true h2]
        rfl
      · rw [if_neg h2, decide_eq_false h2]
        rfl
theorem refright_f (k : Nat) (hk : 12 ≤ k) (e n : Int) (l : List Int) : meterref17_Right.f k e n l = some (rightB e n l) := by
  obtain ⟨k, rfl⟩ : ∃ z, k = z + 1 := ⟨k - 1, by omega⟩
  have jt : ∀ a b c, meterref17_Right.j0 (k + 1) true a b c = some false := fun a b c => by
    simp only [meterref17_Right.j0]
    rw [if_pos trivial]
  have jf : l.length ≤ 8 → meterref17_Right.j0 (k + 1) false e n l = some (!(l.any (badB n))) := fun hl => by
    simp only [meterref17_Right.j0]
    rw [if_neg (by simp)]
    exact refright_l0 e n l hl l.length 0 k (by omega) (by omega)
  unfold meterref17_Right.f rightB
  generalize k + 1 = m at jt jf
  by_cases h1 : e < 1
  · rw [if_pos h1, jt, decide_eq_false (by omega)]
    rfl
  rw [if_neg h1, decide_eq_true (show 1 ≤ e by omega)]
  by_cases h2 : n < 1
  · rw [if_pos h2, jt, decide_eq_false (show ¬ 1 ≤ n by omega)]
    rfl
  rw [if_neg h2, decide_eq_true (show 1 ≤ n by omega)]
  by_cases h3 : n > 4
  · rw [if_pos h3, jt, decide_eq_false (show ¬ n ≤ 4 by omega)]
    rfl
  rw [if_neg h3, decide_eq_true (show n ≤ 4 by omega)]
  by_cases h4 : (l.length : Int) < 1
  · rw [if_pos h4, jt, decide_eq_false (show ¬ 1 ≤ l.length by omega)]
    rfl
  rw [if_neg h4, decide_eq_true (show 1 ≤ l.length by omega)]
  by_cases h5 : (l.length : Int) > 8
  · rw [decide_eq_true h5, jt, decide_eq_false (show ¬ l.length ≤ 8 by omega)]
    rfl
  rw [decide_eq_false h5, jf (by omega), decide_eq_true (show l.length ≤ 8 by omega)]
  rfl
theorem refsame_l0 (e n : Int) (l : List Int) (e2 n2 : Int) (m : List Int) (hl : l.length = m.length) (hm : l.length ≤ 1000000) : ∀ (d i k : Nat), i + d = l.length → d < k →
    meterref17_Same.l0 k i e n l e2 n2 m = some (decide (l.drop i = m.drop i)) := by
  intro d
  induction d with
  | zero =>
    intro i k h hk
    obtain ⟨k, rfl⟩ : ∃ z, k = z + 1 := ⟨k - 1, by omega⟩
    simp only [meterref17_Same.l0]
    rw [if_neg (by omega), List.drop_of_length_le (by omega), List.drop_of_length_le (by omega)]
    simp
  | succ d ih =>
    intro i k h hk
    obtain ⟨k, rfl⟩ : ∃ z, k = z + 1 := ⟨k - 1, by omega⟩
    have hi : i < l.length := by omega
    have hj : i < m.length := by omega
    simp only [meterref17_Same.l0]
    rw [if_pos (by omega), if_pos (by omega), if_pos (by omega), rd_at l i hi, rd_at m i hj, List.drop_eq_getElem_cons hi, List.drop_eq_getElem_cons hj]
    by_cases he : l[i] = m[i]
    · have hn := ih (i + 1) k (by omega) (by omega)
      rw [if_pos he, wr1 i (by omega), hn]
      congr 1
      apply decide_eq_decide.2
      rw [List.cons.injEq]
      simp only [he, true_and]
    · rw [if_neg he]
      congr 1
      symm
      apply decide_eq_false
      intro hc
      exact he (List.cons.inj hc).1
theorem refsame_f (k : Nat) (e1 n1 : Int) (l1 : List Int) (e2 n2 : Int) (l2 : List Int) (hm : l1.length ≤ 1000000) (hk : l1.length + 1 < k) : meterref17_Same.f k e1 n1 l1 e2 n2 l2 = some (decide (e1 = e2 ∧ n1 = n2 ∧ l1 = l2)) := by
  obtain ⟨k, rfl⟩ : ∃ z, k = z + 1 := ⟨k - 1, by omega⟩
  have jt : ∀ a b c d e f, meterref17_Same.j0 (k + 1) true a b c d e f = some false := fun a b c d e f => by
    simp only [meterref17_Same.j0]
    rw [if_pos trivial]
  have jf : l1.length = l2.length → meterref17_Same.j0 (k + 1) false e1 n1 l1 e2 n2 l2 = some (decide (l1 = l2)) := fun hl => by
    have := refsame_l0 e1 n1 l1 e2 n2 l2 hl hm l1.length 0 k (by omega) (by omega)
    simp only [meterref17_Same.j0]
    rw [if_neg (by simp)]
    simpa using this
  unfold meterref17_Same.f
  generalize k + 1 = m at jt jf
  by_cases h1 : e1 = e2
  · by_cases h2 : n1 = n2
    · by_cases h3 : l1.length = l2.length
      · rw [if_pos h1, if_pos h2, show ((l1.length : Int) != (l2.length : Int)) = false by simp [h3], jf h3]
        simp [h1, h2]
      · rw [if_pos h1, if_pos h2, show ((l1.length : Int) != (l2.length : Int)) = true by simp; omega, jt]
        have : ¬ l1 = l2 := fun h => h3 (by rw [h])
        simp [this]
    · rw [if_pos h1, if_neg h2, jt]
      simp [h2]
  · rw [if_neg h1, jt]
    simp [h1]
theorem refsame_refl (k : Nat) (e n : Int) (l : List Int) (hm : l.length ≤ 1000000) (hk : l.length + 1 < k) : meterref17_Same.f k e n l e n l = some true := by
  rw [refsame_f k e n l e n l hm hk]
  simp
theorem refnewer_f (k : Nat) (hk : 12 ≤ k) (e1 n1 : Int) (l1 : List Int) (e2 n2 : Int) (l2 : List Int) : meterref17_Newer.f k e1 n1 l1 e2 n2 l2 = some (newerB e1 n1 l1 e2 n2 l2) := by
  have h := newer_f e1 n1 l1 e2 n2 l2
  unfold table_Newer.f at h
  rw [right_f, right_f] at h
  unfold meterref17_Newer.f
  rw [refright_f k hk, refright_f k hk]
  exact h
def toR (cs : List S39) : List S41 := cs.map fun x => ⟨x.f0, x.f1⟩
theorem toR_len (cs : List S39) : (toR cs).length = cs.length := by simp [toR]
theorem rdT39 (cs : List S39) (i : Nat) (h : i < cs.length) : rd_T39 cs (i : Int) = cs[i] := by
  unfold rd_T39
  rw [Int.toNat_natCast, List.getD_eq_getElem?_getD, List.getElem?_eq_getElem h]
  rfl
theorem rdT41 (cs : List S39) (i : Nat) (h : i < cs.length) : rd_T41 (toR cs) (i : Int) = ⟨cs[i].f0, cs[i].f1⟩ := by
  unfold rd_T41 toR
  rw [Int.toNat_natCast, List.getD_eq_getElem?_getD, List.getElem?_map, List.getElem?_eq_getElem h]
  rfl
theorem samec_l0 (cs : List S39) (hb : cs.length ≤ 1000000) : ∀ (d i k : Nat), i + d = cs.length → d < k → meterlaw18_same.l0 k cs (toR cs) i = some true := by
  intro d
  induction d with
  | zero =>
    intro i k h hk
    obtain ⟨k, rfl⟩ : ∃ m, k = m + 1 := ⟨k - 1, by omega⟩
    simp only [meterlaw18_same.l0]
    rw [if_neg (show ¬ (i : Int) < (cs.length : Int) by omega)]
  | succ d ih =>
    intro i k h hk
    obtain ⟨k, rfl⟩ : ∃ m, k = m + 1 := ⟨k - 1, by omega⟩
    have hi : i < cs.length := by omega
    simp only [meterlaw18_same.l0]
    rw [if_pos (show (i : Int) < (cs.length : Int) by omega), if_pos (show (0 : Int) ≤ (i : Int) by omega), if_pos (show (i : Int) < ((toR cs).length : Int) by rw [toR_len]; omega), rdT39 cs i hi, rdT41 cs i hi, if_pos rfl, if_pos rfl, wr1 i (by omega)]
    exact ih (i + 1) k (by omega) (by omega)
theorem samec_f (k : Nat) (cs : List S39) (hb : cs.length ≤ 1000000) (hk : cs.length < k) : meterlaw18_same.f k cs (toR cs) = some true := by
  unfold meterlaw18_same.f
  rw [if_pos (by rw [toR_len])]
  exact samec_l0 cs hb cs.length 0 k (by omega) hk
theorem copied_f (e n : Int) (l : List Int) (hl : l.length ≤ 1000000) : meterlaw18_copied.f e n l = some (e, n, l) := by
  unfold meterlaw18_copied.f
  rw [Option.bind_some, if_pos (show ([] : List Int).length + l.length < 17592186044416 by simp; omega), List.nil_append]
theorem refkeep_f (k : Nat) (hk : 12 ≤ k) (e n : Int) (l : List Int) (f m : Int) (q : List Int) : meterref18_Keep.f k e n l f m q = some (keepC e n l f m q) := by
  unfold meterref18_Keep.f keepC
  rw [refnewer_f k hk, Option.bind_some]
  cases newerB f m q e n l <;> rfl
theorem refdiff_l0 (l q : List Int) (hl : l.length = q.length) (h8 : l.length ≤ 8) (e n f m : Int) : ∀ (d i k : Nat) (acc : List S41), i + d = l.length → d < k → acc.length ≤ i →
    meterref18_Diff.l0 k acc i e n l f m q = some (acc ++ toR (diffI i (l.drop i) (q.drop i)), true) := by
  intro d
  induction d with
  | zero =>
    intro i k acc h hk ha
    obtain ⟨k, rfl⟩ : ∃ m, k = m + 1 := ⟨k - 1, by omega⟩
    simp only [meterref18_Diff.l0]
    rw [if_neg (show ¬ (i : Int) < (l.length : Int) by omega), List.drop_of_length_le (by omega), diffI, toR, List.map_nil, List.append_nil]
  | succ d ih =>
    intro i k acc h hk ha
    obtain ⟨k, rfl⟩ : ∃ m, k = m + 1 := ⟨k - 1, by omega⟩
    have hi : i < l.length := by omega
    have hj : i < q.length := by omega
    simp only [meterref18_Diff.l0]
    rw [if_pos (show (i : Int) < (l.length : Int) by omega), if_pos (show (0 : Int) ≤ (i : Int) by omega), if_pos (show (i : Int) < (q.length : Int) by omega), rd_at l i hi, rd_at q i hj, wr1 i (by omega),
      List.drop_eq_getElem_cons hi, List.drop_eq_getElem_cons hj, diffI]
    by_cases h2 : l[i] = q[i]
    · rw [if_pos h2, if_pos h2]
      exact ih (i + 1) k acc (by omega) (by omega) (by omega)
    · rw [if_neg h2, if_neg h2, if_pos (show acc.length < 8796093022208 by omega), ih (i + 1) k _ (by omega) (by omega) (by rw [List.length_append, List.length_singleton]; omega), List.append_assoc]
      rfl
theorem refdiff_f (k : Nat) (hk : 13 ≤ k) (e n : Int) (l : List Int) (f m : Int) (q : List Int) : meterref18_Diff.f k e n l f m q = some (toR (diffC e n l f m q).1, (diffC e n l f m q).2) := by
  obtain ⟨k, rfl⟩ : ∃ z, k = z + 1 := ⟨k - 1, by omega⟩
  have g1 := refright_f (k + 1) (by omega) e n l
  have g2 := refright_f (k + 1) (by omega) f m q
  have jt : meterref18_Diff.j0 (k + 1) true e n l f m q = some ([], false) := by
    simp only [meterref18_Diff.j0]
    rw [if_pos trivial]
  have jf : l.length = q.length → l.length ≤ 8 → meterref18_Diff.j0 (k + 1) false e n l f m q = some (toR (diffI 0 l q), true) := fun h1 h2 => by
    have := refdiff_l0 l q h1 h2 e n f m l.length 0 k [] (by omega) (by omega) (Nat.le_refl _)
    simp only [meterref18_Diff.j0]
    rw [if_neg (by simp)]
    exact this
  unfold meterref18_Diff.f diffC alikeB
  generalize k + 1 = z at *
  rw [g1, g2, Option.bind_some, Option.bind_some]
  cases h1 : rightB e n l with
  | false =>
    rw [if_neg (show ¬ (false = true) by decide), if_neg (by simp)]
    exact jt
  | true =>
    rw [if_pos rfl]
    cases h2 : rightB f m q with
    | false =>
      rw [if_neg (show ¬ (false = true) by decide), if_neg (by simp)]
      exact jt
    | true =>
      rw [if_pos rfl]
      obtain ⟨_, _, _, _, r5, _⟩ := right_len h1
      by_cases h3 : n = m
      · rw [if_pos h3]
        by_cases h4 : l.length = q.length
        · rw [show ((l.length : Int) != (q.length : Int)) = false by simp [h4], jf h4 r5, if_pos (by simp [h3, h4])]
        · rw [show ((l.length : Int) != (q.length : Int)) = true by simp; omega, jt, if_neg (by simp [h4])]
          rfl
      · rw [if_neg h3, jt, if_neg (by simp [h3])]
        rfl
/-! where changes lead, by the document -/
def resC (e2 n : Int) (p : List Int × Int) : Int × Int × List Int × Int := if p.2 = 0 then (e2, n, p.1, 0) else (0, 0, [], p.2)
theorem refpatch_l1 (cs : List S39) (hb : cs.length ≤ 1000) (i : Nat) (hi : i < cs.length) (e n : Int) (l : List Int) (e2 : Int) (o : List Int) (h0 : 0 ≤ cs[i].f0) (h1 : cs[i].f0 < (o.length : Int)) (K : Nat) (R : Option (Int × Int × List Int × Int))
    (hR : ∀ k, K ≤ k → meterref18_Patch.l0 k (toR cs) ((i + 1 : Nat) : Int) e n l e2 n (o.set cs[i].f0.toNat cs[i].f1) = R) : ∀ (d j k : Nat), j + d = i → K + d < k →
    meterref18_Patch.l1 k (toR cs) i j e n l e2 n o = if (((cs.take i).map (·.f0)).drop j).contains cs[i].f0 = true then some (0, 0, [], 5) else R := by
  intro d
  induction d with
  | zero =>
    intro j k h hk
    obtain ⟨k, rfl⟩ : ∃ m, k = m + 1 := ⟨k - 1, by omega⟩
    have hn := hR k (by omega)
    simp only [meterref18_Patch.l1]
    rw [if_neg (show ¬ (j : Int) < (i : Int) by omega), if_pos (show (0 : Int) ≤ (i : Int) by omega), if_pos (show (i : Int) < ((toR cs).length : Int) by rw [toR_len]; omega), rdT41 cs i hi, if_pos h0, if_pos h1, wr1 i (by omega), List.drop_of_length_le (by rw [List.length_map, List.length_take]; omega), if_neg (by simp)]
    exact hn
  | succ d ih =>
    intro j k h hk
    obtain ⟨k, rfl⟩ : ∃ m, k = m + 1 := ⟨k - 1, by omega⟩
    have hj : j < cs.length := by omega
    have hn := ih (j + 1) k (by omega) (by omega)
    have hjl : j < ((cs.take i).map (·.f0)).length := by rw [List.length_map, List.length_take]; omega
    simp only [meterref18_Patch.l1]
    rw [if_pos (show (j : Int) < (i : Int) by omega), if_pos (show (0 : Int) ≤ (j : Int) by omega), if_pos (show (j : Int) < ((toR cs).length : Int) by rw [toR_len]; omega), if_pos (show (0 : Int) ≤ (i : Int) by omega), if_pos (show (i : Int) < ((toR cs).length : Int) by rw [toR_len]; omega), rdT41 cs i hi, rdT41 cs j hj, wr1 j (by omega),
      List.drop_eq_getElem_cons hjl, List.contains_cons, List.getElem_map, List.getElem_take]
    by_cases q : cs[j].f0 = cs[i].f0
    · rw [if_pos q, if_pos (by rw [q]; simp)]
    · have q2 : (cs[i].f0 == cs[j].f0) = false := by
        apply beq_eq_false_iff_ne.2
        exact fun h => q h.symm
      rw [if_neg q, q2, Bool.false_or]
      exact hn
theorem refpatch_l0 (cs : List S39) (hb : cs.length ≤ 1000) (e n : Int) (l : List Int) (e2 : Int) (G : Nat) (hG : G = cs.length + 10) : ∀ (d i k : Nat) (o : List Int), i + d = cs.length → d * G + 1 ≤ k → o.length = l.length →
    meterref18_Patch.l0 k (toR cs) i e n l e2 n o = some (resC e2 n (patchL n (cs.drop i) ((cs.take i).map (·.f0)) o)) := by
  intro d
  induction d with
  | zero =>
    intro i k o h hk ho
    obtain ⟨k, rfl⟩ : ∃ m, k = m + 1 := ⟨k - 1, by omega⟩
    simp only [meterref18_Patch.l0]
    rw [if_neg (show ¬ (i : Int) < ((toR cs).length : Int) by rw [toR_len]; omega), List.drop_of_length_le (by omega), patchL]
    rfl
  | succ d ih =>
    intro i k o h hk ho
    rw [Nat.succ_mul] at hk
    generalize hq : d * G = D at *
    obtain ⟨k, rfl⟩ : ∃ m, k = m + 3 := ⟨k - 3, by omega⟩
    have hi : i < cs.length := by omega
    have hs : (cs.take (i + 1)).map (·.f0) = (cs.take i).map (·.f0) ++ [cs[i].f0] := by rw [List.take_succ_eq_append_getElem hi, List.map_append]; rfl
    rw [List.drop_eq_getElem_cons hi, patchL, ho]
    by_cases c1 : cs[i].f0 < 0 ∨ cs[i].f0 ≥ (l.length : Int)
    · rw [if_pos c1]
      have j2 : meterref18_Patch.j2 ((k + 1) + 1) (toR cs) i true e n l e2 n o = some (0, 0, [], 21) := by
        simp only [meterref18_Patch.j2]
        rw [if_pos trivial]
      show meterref18_Patch.l0 ((k + 2) + 1) (toR cs) i e n l e2 n o = _
      generalize k + 2 = z at *
      simp only [meterref18_Patch.l0]
      rw [if_pos (show (i : Int) < ((toR cs).length : Int) by rw [toR_len]; omega), if_pos (show (0 : Int) ≤ (i : Int) by omega), rdT41 cs i hi]
      simp only
      by_cases c2 : cs[i].f0 < 0
      · rw [if_pos c2]
        exact j2
      · rw [if_neg c2, decide_eq_true (show cs[i].f0 ≥ (l.length : Int) by omega)]
        exact j2
    · rw [if_neg c1]
      have hl0 : ∀ R, meterref18_Patch.j2 ((k + 1) + 1) (toR cs) i false e n l e2 n o = R → meterref18_Patch.l0 ((k + 2) + 1) (toR cs) i e n l e2 n o = R := fun R hR => by
        generalize k + 2 = z at *
        simp only [meterref18_Patch.l0]
        rw [if_pos (show (i : Int) < ((toR cs).length : Int) by rw [toR_len]; omega), if_pos (show (0 : Int) ≤ (i : Int) by omega), rdT41 cs i hi]
        simp only
        rw [if_neg (show ¬ cs[i].f0 < 0 by omega), decide_eq_false (show ¬ cs[i].f0 ≥ (l.length : Int) by omega)]
        exact hR
      apply hl0
      by_cases c2 : cs[i].f1 < 0 ∨ cs[i].f1 ≥ n
      · rw [if_pos c2]
        have j3 : meterref18_Patch.j3 (k + 1) (toR cs) i true e n l e2 n o = some (0, 0, [], 22) := by
          simp only [meterref18_Patch.j3]
          rw [if_pos trivial]
        generalize k + 1 = z at *
        simp only [meterref18_Patch.j2]
        rw [if_neg (by simp), if_pos (show (0 : Int) ≤ (i : Int) by omega), if_pos (show (i : Int) < ((toR cs).length : Int) by rw [toR_len]; omega), rdT41 cs i hi]
        simp only
        by_cases c3 : cs[i].f1 < 0
        · rw [if_pos c3]
          exact j3
        · rw [if_neg c3, decide_eq_true (show cs[i].f1 ≥ n by omega)]
          exact j3
      · rw [if_neg c2]
        have l1 := refpatch_l1 cs hb i hi e n l e2 o (by omega) (by omega) (D + 1) _ (fun k hk => ih (i + 1) k (o.set cs[i].f0.toNat cs[i].f1) (by omega) hk (by rw [List.length_set]; exact ho)) i 0 k (by omega) (by omega)
        rw [List.drop_zero] at l1
        have hres : (if ((cs.take i).map (·.f0)).contains cs[i].f0 = true then some (0, 0, [], 5) else some (resC e2 n (patchL n (cs.drop (i + 1)) ((cs.take (i + 1)).map (·.f0)) (o.set cs[i].f0.toNat cs[i].f1)))) =
            some (resC e2 n (if ((cs.take i).map (·.f0)).contains cs[i].f0 = true then ([], 5) else patchL n (cs.drop (i + 1)) ((cs.take i).map (·.f0) ++ [cs[i].f0]) (o.set cs[i].f0.toNat cs[i].f1))) := by
          rw [hs]
          split
          · rfl
          · rfl
        have j3 : meterref18_Patch.j3 (k + 1) (toR cs) i false e n l e2 n o = some (resC e2 n (if ((cs.take i).map (·.f0)).contains cs[i].f0 = true then ([], 5) else patchL n (cs.drop (i + 1)) ((cs.take i).map (·.f0) ++ [cs[i].f0]) (o.set cs[i].f0.toNat cs[i].f1))) := by
          simp only [meterref18_Patch.j3]
          rw [if_neg (by simp)]
          exact l1.trans hres
        generalize k + 1 = z at *
        simp only [meterref18_Patch.j2]
        rw [if_neg (by simp), if_pos (show (0 : Int) ≤ (i : Int) by omega), if_pos (show (i : Int) < ((toR cs).length : Int) by rw [toR_len]; omega), rdT41 cs i hi]
        simp only
        rw [if_neg (show ¬ cs[i].f1 < 0 by omega), decide_eq_false (show ¬ cs[i].f1 ≥ n by omega)]
        exact j3
theorem refpatch_f (k : Nat) (e n : Int) (l : List Int) (e2 : Int) (cs : List S39) (hb : cs.length ≤ 1000) (hl : l.length ≤ 1000000) (hk : cs.length * (cs.length + 10) + 20 ≤ k) : meterref18_Patch.f k e n l e2 (toR cs) = some (patchC e n l e2 cs) := by
  have hD : 20 ≤ k := Nat.le_trans (Nat.le_add_left _ _) hk
  obtain ⟨k, rfl⟩ : ∃ z, k = z + 1 := ⟨k - 1, by omega⟩
  have g1 := refright_f (k + 1) (by omega) e n l
  have jt : meterref18_Patch.j0 (k + 1) e2 (toR cs) true e n l = some (0, 0, [], 1) := by
    simp only [meterref18_Patch.j0]
    rw [if_pos trivial]
  have jf : meterref18_Patch.j0 (k + 1) e2 (toR cs) false e n l = some (resC e2 n (patchL n cs [] l)) := by
    have := refpatch_l0 cs hb e n l e2 (cs.length + 10) rfl cs.length 0 k l (by omega) (by omega) rfl
    rw [List.drop_zero, List.take_zero, List.map_nil] at this
    simp only [meterref18_Patch.j0]
    rw [if_neg (by simp), if_pos (show ([] : List Int).length + l.length < 17592186044416 by simp; omega), List.nil_append]
    exact this
  unfold meterref18_Patch.f patchC
  generalize k + 1 = z at *
  rw [g1, Option.bind_some]
  cases h1 : rightB e n l with
  | false =>
    rw [if_neg (show ¬ (false = true) by decide), if_pos (.inl rfl)]
    exact jt
  | true =>
    rw [if_pos rfl]
    by_cases h2 : e2 ≤ e
    · rw [if_pos h2, if_pos (.inr (.inl h2))]
      exact jt
    · rw [if_neg h2]
      by_cases h3 : e2 > 2147483647
      · rw [decide_eq_true h3, if_pos (.inr (.inr h3))]
        exact jt
      · have hc : ¬ (true = false ∨ e2 ≤ e ∨ e2 > 2147483647) := by
          rintro (h | h | h)
          · cases h
          · exact h2 h
          · exact h3 h
        rw [decide_eq_false h3, if_neg hc]
        exact jf
theorem patchL_len (n : Int) : ∀ (cs : List S39) (seen o : List Int), (patchL n cs seen o).1.length ≤ o.length
  | [], _, _ => by simp [patchL]
  | c :: r, seen, o => by
    unfold patchL
    split
    · exact Nat.zero_le _
    · split
      · exact Nat.zero_le _
      · split
        · exact Nat.zero_le _
        · have := patchL_len n r (seen ++ [c.f0]) (o.set c.f0.toNat c.f1)
          rw [List.length_set] at this
          exact this
theorem patchC_len (e n : Int) (l : List Int) (e2 : Int) (cs : List S39) : (patchC e n l e2 cs).2.2.1.length ≤ l.length := by
  unfold patchC
  split
  · exact Nat.zero_le _
  · split
    · exact patchL_len n cs [] l
    · exact Nat.zero_le _
/-! the law -/
theorem l2_true (e n : Int) (l : List Int) (f m : Int) (q : List Int) (hl : l.length ≤ 1000) (hq : q.length ≤ 1000) (a b : Int) : ∀ (d i k : Nat) (r : List Int), i + d = r.length → r.length ≤ 1000 → 1010 + d < k →
    meterlaw18_SpreadTells.l2 k i e n l f m q e n l f m q a b r = some true := by
  intro d
  induction d with
  | zero =>
    intro i k r h hr hk
    obtain ⟨k, rfl⟩ : ∃ z, k = z + 1 := ⟨k - 1, by omega⟩
    have h1 := refsame_refl k e n l (by omega) (by omega)
    have h2 := refsame_refl k f m q (by omega) (by omega)
    simp only [meterlaw18_SpreadTells.l2]
    rw [if_neg (show ¬ (i : Int) < (r.length : Int) by omega), h1, Option.bind_some, if_pos rfl, h2, Option.bind_some]
  | succ d ih =>
    intro i k r h hr hk
    obtain ⟨k, rfl⟩ : ∃ z, k = z + 1 := ⟨k - 1, by omega⟩
    have hn := ih (i + 1) k (r.set i 99) (by rw [List.length_set]; omega) (by rw [List.length_set]; omega) (by omega)
    simp only [meterlaw18_SpreadTells.l2]
    rw [if_pos (show (i : Int) < (r.length : Int) by omega), if_pos (show (0 : Int) ≤ (i : Int) by omega), wr1 i (by omega), Int.toNat_natCast]
    exact hn
theorem l1_true (e n : Int) (l : List Int) (f m : Int) (q : List Int) (hl : l.length ≤ 1000) (hq : q.length ≤ 1000) (a b : Int) (a2 b2 : Int) (s : List Int) (hs : s.length ≤ 1000) : ∀ (d i k : Nat) (r : List Int), i + d = r.length → r.length ≤ 1000 → 2020 + d < k →
    meterlaw18_SpreadTells.l1 k i e n l f m q e n l f m q a b r a2 b2 s = some true := by
  intro d
  induction d with
  | zero =>
    intro i k r h hr hk
    obtain ⟨k, rfl⟩ : ∃ z, k = z + 1 := ⟨k - 1, by omega⟩
    simp only [meterlaw18_SpreadTells.l1]
    rw [if_neg (show ¬ (i : Int) < (r.length : Int) by omega)]
    exact l2_true e n l f m q hl hq a2 b2 s.length 0 k s (by omega) hs (by omega)
  | succ d ih =>
    intro i k r h hr hk
    obtain ⟨k, rfl⟩ : ∃ z, k = z + 1 := ⟨k - 1, by omega⟩
    have hn := ih (i + 1) k (r.set i 99) (by rw [List.length_set]; omega) (by rw [List.length_set]; omega) (by omega)
    simp only [meterlaw18_SpreadTells.l1]
    rw [if_pos (show (i : Int) < (r.length : Int) by omega), if_pos (show (0 : Int) ≤ (i : Int) by omega), wr1 i (by omega), Int.toNat_natCast]
    exact hn
theorem j2_true (e n : Int) (l : List Int) (f m : Int) (q : List Int) (hl : l.length ≤ 1000) (hq : q.length ≤ 1000) (a b : Int) (r : List Int) (hr : r.length ≤ 1000) (a2 b2 : Int) (s : List Int) (hs : s.length ≤ 1000) (k : Nat) (hk : 3030 ≤ k) :
    meterlaw18_SpreadTells.j2 (k + 1) false e n l f m q e n l f m q a b r a2 b2 s = some true := by
  have h := l1_true e n l f m q hl hq a b a2 b2 s hs r.length 0 k r (by omega) hr (by omega)
  simp only [meterlaw18_SpreadTells.j2]
  rw [if_neg (by simp)]
  exact h
theorem toR_take (cs : List S39) (i : Nat) (h : i < cs.length) : toR (cs.take i) ++ [⟨(rd_T39 cs i).f0, (rd_T39 cs i).f1⟩] = toR (cs.take (i + 1)) := by
  rw [rdT39 cs i h, List.take_succ_eq_append_getElem h]
  unfold toR
  rw [List.map_append]
  rfl
theorem diffC_len (e n : Int) (l : List Int) (f m : Int) (q : List Int) : (diffC e n l f m q).1.length ≤ l.length := by
  unfold diffC
  split
  · exact diffI_len l q 0
  · exact Nat.zero_le _
theorem l0_true (e n : Int) (l : List Int) (f m : Int) (q : List Int) (hl : l.length ≤ 1000) (hq : q.length ≤ 1000) (e2 : Int) (cs : List S39) (hc : cs.length ≤ 1000) (hw : wfC cs = true) : ∀ (d i k : Nat), i + d = cs.length → 1100000 + d < k →
    meterlaw18_SpreadTells.l0 k e2 cs (toR (cs.take i)) i e n l f m q = some true := by
  intro d
  induction d with
  | zero =>
    intro i k h hk
    obtain ⟨k, rfl⟩ : ∃ z, k = z + 1 := ⟨k - 1, by omega⟩
    obtain ⟨k, rfl⟩ : ∃ z, k = z + 1 := ⟨k - 1, by omega⟩
    have hmul : cs.length * (cs.length + 10) ≤ 1000 * 1010 := Nat.mul_le_mul hc (by omega)
    have kl := keep_len (e := e) (n := n) (l := l) (f := f) (m := m) (q := q) hl hq
    have pl := patchC_len e n l e2 cs
    have dl := diffC_len e n l f m q
    have c1 := copied_f e n l (by omega)
    have c2 := copied_f f m q (by omega)
    have k1 := keep_f e n l f m q (by omega) (by omega)
    have k2 := refkeep_f (k + 1) (by omega) e n l f m q
    have d1 := diff_f (k + 1) (by omega) e n l f m q
    have d2 := refdiff_f (k + 1) (by omega) e n l f m q
    have p1 : spread_Patch.f e n l e2 cs = some (patchC e n l e2 cs) := by
      unfold spread_Patch.f
      rw [if_pos ⟨hw, show cs.length ≤ 100000 by omega⟩]
    have p2 := refpatch_f (k + 1) e n l e2 cs hc (by omega) (by omega)
    have s1 := refsame_refl (k + 1) (keepC e n l f m q).1 (keepC e n l f m q).2.1 (keepC e n l f m q).2.2.1 (by omega) (by omega)
    have s2 := samec_f (k + 1) (diffC e n l f m q).1 (by omega) (by omega)
    have s3 := refsame_refl (k + 1) (patchC e n l e2 cs).1 (patchC e n l e2 cs).2.1 (patchC e n l e2 cs).2.2.1 (by omega) (by omega)
    have j2 := j2_true e n l f m q hl hq (keepC e n l f m q).1 (keepC e n l f m q).2.1 (keepC e n l f m q).2.2.1 kl (patchC e n l e2 cs).1 (patchC e n l e2 cs).2.1 (patchC e n l e2 cs).2.2.1 (by omega) k (by omega)
    rw [List.take_of_length_le (show cs.length ≤ i by omega)]
    generalize keepC e n l f m q = K at *
    generalize diffC e n l f m q = D at *
    generalize patchC e n l e2 cs = P at *
    generalize k + 1 = z at *
    simp only [meterlaw18_SpreadTells.l0]
    rw [if_neg (show ¬ (i : Int) < (cs.length : Int) by omega), c1, Option.bind_some, c2, Option.bind_some]
    simp only
    rw [k1, Option.bind_some, k2, Option.bind_some, d1, Option.bind_some, d2, Option.bind_some, p1, Option.bind_some, p2, Option.bind_some, if_neg (by simp), s1, Option.bind_some, if_pos rfl, if_neg (by simp), s2, Option.bind_some, if_pos rfl, if_pos rfl, s3, Option.bind_some]
    exact j2
  | succ d ih =>
    intro i k h hk
    obtain ⟨k, rfl⟩ : ∃ z, k = z + 1 := ⟨k - 1, by omega⟩
    have hi : i < cs.length := by omega
    have hn := ih (i + 1) k (by omega) (by omega)
    simp only [meterlaw18_SpreadTells.l0]
    rw [if_pos (show (i : Int) < (cs.length : Int) by omega), if_pos (show (0 : Int) ≤ (i : Int) by omega), if_pos (show (toR (cs.take i)).length < 8796093022208 by rw [toR_len, List.length_take]; omega), toR_take cs i hi, wr1 i (by omega)]
    exact hn
theorem awake_f : meterlaw18_awake.f = some true := by decide +kernel
theorem SpreadTells : meterlaw18_SpreadTells.Pure := by
  intro e n l f m q e2 cs _ _ _ _ _ _ _ hcs
  refine ⟨1200000, ?_⟩
  have hw : wfC cs = true := by
    unfold wfC
    rw [List.all_eq_true]
    exact fun x hx => (hcs.2 x hx).1
  have j1 : meterlaw18_SpreadTells.j0 (1199999 + 1) e2 cs true e n l f m q = some true := by
    simp only [meterlaw18_SpreadTells.j0]
    rw [if_pos trivial]
  have j0 : l.length ≤ 1000 → q.length ≤ 1000 → cs.length ≤ 1000 → meterlaw18_SpreadTells.j0 (1199999 + 1) e2 cs false e n l f m q = some true := fun h1 h2 h3 => by
    have h0 := l0_true e n l f m q h1 h2 e2 cs h3 hw cs.length 0 1199999 (by omega) (by omega)
    simp only [meterlaw18_SpreadTells.j0]
    rw [if_neg (by simp)]
    exact h0
  unfold meterlaw18_SpreadTells.f
  rw [awake_f, Option.bind_some, if_pos rfl]
  by_cases h1 : (l.length : Int) > 1000
  · rw [if_pos h1]
    exact j1
  rw [if_neg h1]
  by_cases h2 : (q.length : Int) > 1000
  · rw [if_pos h2]
    exact j1
  rw [if_neg h2]
  by_cases h3 : (cs.length : Int) > 1000
  · rw [decide_eq_true h3]
    exact j1
  · rw [decide_eq_false h3]
    exact j0 (by omega) (by omega) (by omega)

end Go.Proofs.Ytojedfmmijglnaa.Pure
