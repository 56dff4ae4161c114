/- The difference of any two right tables of one size, and the second one's epoch, lead from the first one there, if that is newer; with any later epoch it leads there too; no difference has more changes than the tables have owners: for any two tables of at most 1000 owners. -/
import Derived.Test.YtojedfmmijglnaaPSpreadTherex4
namespace Go.Proofs.Ytojedfmmijglnaa.Pure
open Go.RowKit Go.Proofs.Ytojedfmmijglnaa.PSpreadThere Go.Proofs.YtojedfmmijglnaaW.PrintWords Go.Proofs.YtojedfmmijglnaaW.PrintLast

/-! tables, plainly -/
def newerB (e1 n1 : Int) (l1 : List Int) (e2 n2 : Int) (l2 : List Int) : Bool := rightB e1 n1 l1 && (rightB e2 n2 l2 && (decide (n1 = n2) && (decide (l1.length = l2.length) && decide (e1 > e2))))
theorem newer_f (e1 n1 : Int) (l1 : List Int) (e2 n2 : Int) (l2 : List Int) : table_Newer.f e1 n1 l1 e2 n2 l2 = some (newerB e1 n1 l1 e2 n2 l2) := by
  unfold table_Newer.f table_Right.f newerB
  simp only [Option.bind_some]
  cases rightB e1 n1 l1
  · simp
  · cases rightB e2 n2 l2
    · simp
    · by_cases h : n1 = n2
      · by_cases h2 : l1.length = l2.length
        · simp [h, h2]
        · simp [h, h2, Int.ofNat_inj]
      · simp [h]
theorem right_f (e n : Int) (l : List Int) : table_Right.f e n l = some (rightB e n l) := rfl
theorem equal_l0 (l m : List Int) (hl : l.length = m.length) (hm : l.length ≤ 9223372036854775806) : ∀ (d i k : Nat), i + d = l.length → d < k →
    slices_Equal_int_int.l0 k l m l.length i = some (decide (l.drop i = m.drop i)) := by
  intro d
  induction d with
  | zero =>
    intro i k h hk
    obtain ⟨k, rfl⟩ : ∃ z, k = z + 1 := ⟨k - 1, by omega⟩
    simp only [slices_Equal_int_int.l0]
    rw [if_neg (by omega), List.drop_of_length_le (by omega), List.drop_of_length_le (by omega)]
    simp
  | succ d ih =>
    intro i k h hk
    obtain ⟨k, rfl⟩ : ∃ z, k = z + 1 := ⟨k - 1, by omega⟩
    have hi : i < l.length := by omega
    have hj : i < m.length := by omega
    have e1 : rd l (i : Int) = l[i] := by
      unfold rd
      rw [Int.toNat_natCast, List.getD_eq_getElem?_getD, List.getElem?_eq_getElem hi]
      rfl
    have e2 : rd m (i : Int) = m[i] := by
      unfold rd
      rw [Int.toNat_natCast, List.getD_eq_getElem?_getD, List.getElem?_eq_getElem hj]
      rfl
    simp only [slices_Equal_int_int.l0]
    rw [if_pos (by omega), if_pos (by omega), if_pos (by omega), if_pos (by omega), e1, e2, List.drop_eq_getElem_cons hi, List.drop_eq_getElem_cons hj]
    by_cases he : l[i] = m[i]
    · have hn := ih (i + 1) k (by omega) (by omega)
      rw [if_pos he, show wrap64 ((i : Int) + 1) = ((i + 1 : Nat) : Int) by unfold wrap64; omega, hn]
      congr 1
      apply decide_eq_decide.2
      rw [List.cons.injEq]
      simp only [he, true_and]
    · rw [if_neg he]
      congr 1
      symm
      apply decide_eq_false
      intro hc
      exact he (List.cons.inj hc).1
theorem equal_f (l m : List Int) (hm : l.length ≤ 9223372036854775806) (k : Nat) (hk : l.length < k) : slices_Equal_int_int.f k l m = some (decide (l = m)) := by
  unfold slices_Equal_int_int.f
  by_cases h : l.length = m.length
  · have h0 := equal_l0 l m h hm l.length 0 k (by omega) hk
    rw [if_pos (by omega)]
    simpa using h0
  · rw [if_neg (by omega), decide_eq_false (fun e => h (by rw [e]))]
theorem same_f (e1 n1 : Int) (l1 : List Int) (e2 n2 : Int) (l2 : List Int) (hm : l1.length ≤ 9223372036854775806) (k : Nat) (hk : l1.length < k) : table_Same.f k e1 n1 l1 e2 n2 l2 = some (decide (e1 = e2 ∧ n1 = n2 ∧ l1 = l2)) := by
  unfold table_Same.f
  rw [equal_f l1 l2 hm k hk]
  by_cases h1 : e1 = e2
  · by_cases h2 : n1 = n2
    · simp [h1, h2]
    · simp [h1, h2]
  · simp [h1]
theorem right_len {e n : Int} {l : List Int} (h : rightB e n l = true) : 1 ≤ e ∧ 1 ≤ n ∧ n ≤ 4 ∧ 1 ≤ l.length ∧ l.length ≤ 8 ∧ l.any (badB n) = false := by
  unfold rightB at h
  simp only [Bool.and_eq_true, decide_eq_true_eq, Bool.not_eq_true'] at h
  exact ⟨h.1, h.2.1, h.2.2.1, h.2.2.2.1, h.2.2.2.2.1, h.2.2.2.2.2⟩
theorem right_mk {e n : Int} {l : List Int} (h1 : 1 ≤ e) (h2 : 1 ≤ n) (h3 : n ≤ 4) (h4 : 1 ≤ l.length) (h5 : l.length ≤ 8) (h6 : l.any (badB n) = false) : rightB e n l = true := by
  unfold rightB
  rw [decide_eq_true h1, decide_eq_true h2, decide_eq_true h3, decide_eq_true h4, decide_eq_true h5, h6]
  rfl
theorem rd_get (l : List Int) (i : Nat) (h : i < l.length) : rd l i = l[i] := by
  unfold rd
  rw [Int.toNat_natCast, List.getD_eq_getElem?_getD, List.getElem?_eq_getElem h]
  rfl
theorem bad_rd {n : Int} {l : List Int} (h : l.any (badB n) = false) (i : Nat) (hi : i < l.length) : 0 ≤ rd l i ∧ rd l i < n := by
  rw [List.any_eq_false] at h
  have h2 := h l[i] (List.getElem_mem hi)
  rw [← rd_get l i hi] at h2
  unfold badB at h2
  simp only [Bool.or_eq_true, decide_eq_true_eq, not_or] at h2
  omega
/-! what leads from one table to another -/
def diffI : Nat → List Int → List Int → List S39
  | i, x :: l, y :: q => if x = y then diffI (i + 1) l q else ⟨(i : Int), y⟩ :: diffI (i + 1) l q
  | _, [], _ => []
  | _, _ :: _, [] => []
theorem diffI_len : ∀ (l q : List Int) (i : Nat), (diffI i l q).length ≤ l.length
  | [], _, _ => by simp [diffI]
  | _ :: _, [], _ => by simp [diffI]
  | x :: l, y :: q, i => by
    have := diffI_len l q (i + 1)
    simp only [diffI]
    split
    · simp; omega
    · simp; omega
theorem diffI_sym : ∀ (l q : List Int) (i j : Nat), (diffI i l q).length = (diffI j q l).length
  | [], [], _, _ => by simp [diffI]
  | [], _ :: _, _, _ => by simp [diffI]
  | _ :: _, [], _, _ => by simp [diffI]
  | x :: l, y :: q, i, j => by
    have := diffI_sym l q (i + 1) (j + 1)
    simp only [diffI]
    by_cases h : x = y
    · rw [if_pos h, if_pos h.symm]
      exact this
    · rw [if_neg h, if_neg (fun e => h e.symm), List.length_cons, List.length_cons, this]
theorem diffI_self : ∀ (l : List Int) (i : Nat), diffI i l l = []
  | [], _ => by simp [diffI]
  | x :: l, i => by
    simp only [diffI]
    rw [if_pos trivial]
    exact diffI_self l (i + 1)
theorem diffI_mem : ∀ (l q : List Int) (i : Nat) (x : S39), x ∈ diffI i l q → (i : Int) ≤ x.f0 ∧ x.f0 < (i : Int) + (l.length : Int)
  | [], _, _, _, h => by simp [diffI] at h
  | _ :: _, [], _, _, h => by simp [diffI] at h
  | a :: l, b :: q, i, x, h => by
    simp only [diffI] at h
    rw [List.length_cons]
    split at h
    · have := diffI_mem l q (i + 1) x h
      omega
    · rcases List.mem_cons.1 h with rfl | h
      · simp only
        omega
      · have := diffI_mem l q (i + 1) x h
        omega
theorem rd_at (l : List Int) (i : Nat) (hi : i < l.length) : rd l (i : Int) = l[i] := by
  unfold rd
  rw [Int.toNat_natCast, List.getD_eq_getElem?_getD, List.getElem?_eq_getElem hi]
  rfl
theorem wr1 (i : Nat) (h : i < 9223372036854775000) : wrap64 ((i : Int) + 1) = ((i + 1 : Nat) : Int) := by unfold wrap64; omega
theorem diff_l0 (l q : List Int) (hl : l.length = q.length) (h8 : l.length ≤ 8) (e n : Int) : ∀ (d i k : Nat) (acc : List S39), i + d = l.length → d < k → acc.length ≤ i →
    spread_Diff.l0 k acc q (q.length : Int) i e n l = some (acc ++ diffI i (l.drop i) (q.drop i), true) := by
  intro d
  induction d with
  | zero =>
    intro i k acc h hk ha
    obtain ⟨k, rfl⟩ : ∃ m, k = m + 1 := ⟨k - 1, by omega⟩
    simp only [spread_Diff.l0]
    rw [if_neg (show ¬ (i : Int) < (q.length : Int) by omega), List.drop_of_length_le (by omega), diffI, List.append_nil]
  | succ d ih =>
    intro i k acc h hk ha
    obtain ⟨k, rfl⟩ : ∃ m, k = m + 1 := ⟨k - 1, by omega⟩
    have hi : i < l.length := by omega
    have hj : i < q.length := by omega
    simp only [spread_Diff.l0]
    rw [if_pos (show (i : Int) < (q.length : Int) by omega), if_pos (show (0 : Int) ≤ (i : Int) by omega), if_pos (show (i : Int) < (q.length : Int) by omega), if_pos (show (i : Int) < (l.length : Int) by omega), rd_at l i hi, rd_at q i hj, wr1 i (by omega),
      List.drop_eq_getElem_cons hi, List.drop_eq_getElem_cons hj, diffI]
    by_cases h2 : l[i] = q[i]
    · rw [if_pos h2, if_pos h2]
      exact ih (i + 1) k acc (by omega) (by omega) (by omega)
    · rw [if_neg h2, if_neg h2, if_pos (show acc.length < 8796093022208 by omega), ih (i + 1) k _ (by omega) (by omega) (by rw [List.length_append, List.length_singleton]; omega), List.append_assoc]
      rfl
def alikeB (e n : Int) (l : List Int) (f m : Int) (q : List Int) : Bool := rightB e n l && (rightB f m q && (decide (n = m) && decide (l.length = q.length)))
theorem alike_sym (e n : Int) (l : List Int) (f m : Int) (q : List Int) : alikeB e n l f m q = alikeB f m q e n l := by
  unfold alikeB
  rw [show decide (n = m) = decide (m = n) from decide_eq_decide.2 ⟨Eq.symm, Eq.symm⟩, show decide (l.length = q.length) = decide (q.length = l.length) from decide_eq_decide.2 ⟨Eq.symm, Eq.symm⟩]
  cases rightB e n l <;> cases rightB f m q <;> rfl
def diffC (e n : Int) (l : List Int) (f m : Int) (q : List Int) : List S39 × Bool := if alikeB e n l f m q = true then (diffI 0 l q, true) else ([], false)
theorem diff_f (k : Nat) (hk : 12 ≤ k) (e n : Int) (l : List Int) (f m : Int) (q : List Int) : spread_Diff.f k e n l f m q = some (diffC e n l f m q) := by
  obtain ⟨k, rfl⟩ : ∃ z, k = z + 1 := ⟨k - 1, by omega⟩
  have jt : spread_Diff.j0 (k + 1) true e n l f m q = some ([], false) := by
    simp only [spread_Diff.j0]
    rw [if_pos trivial]
  have jf : l.length = q.length → l.length ≤ 8 → spread_Diff.j0 (k + 1) false e n l f m q = some (diffI 0 l q, true) := fun h1 h2 => by
    have := diff_l0 l q h1 h2 e n l.length 0 k [] (by omega) (by omega) (Nat.le_refl _)
    simp only [spread_Diff.j0]
    rw [if_neg (by simp)]
    exact this
  unfold spread_Diff.f diffC alikeB
  generalize k + 1 = z at jt jf
  rw [right_f, right_f, Option.bind_some, Option.bind_some]
  cases h1 : rightB e n l with
  | false =>
    rw [if_neg (show ¬ (false = true) by decide), if_neg (by simp)]
    exact jt
  | true =>
    rw [if_pos rfl]
    cases h2 : rightB f m q with
    | false =>
      rw [if_neg (show ¬ (false = true) by decide), if_neg (by simp)]
      exact jt
    | true =>
      rw [if_pos rfl]
      obtain ⟨_, _, _, _, r5, _⟩ := right_len h1
      by_cases h3 : n = m
      · rw [if_pos h3]
        by_cases h4 : l.length = q.length
        · rw [show ((l.length : Int) != (q.length : Int)) = false by simp [h4], jf h4 r5, if_pos (by simp [h3, h4])]
        · rw [show ((l.length : Int) != (q.length : Int)) = true by simp; omega, jt, if_neg (by simp [h4])]
      · rw [if_neg h3, jt, if_neg (by simp [h3])]
theorem patch_diff (n : Int) (l q : List Int) (hl : l.length = q.length) (hb : q.any (badB n) = false) : ∀ (d i : Nat) (seen : List Int), i + d = l.length → (∀ z ∈ seen, z < (i : Int)) →
    patchL n (diffI i (l.drop i) (q.drop i)) seen (q.take i ++ l.drop i) = (q, 0) := by
  intro d
  induction d with
  | zero =>
    intro i seen h hs
    rw [List.drop_of_length_le (show l.length ≤ i by omega), diffI, patchL, List.append_nil, List.take_of_length_le (by omega)]
  | succ d ih =>
    intro i seen h hs
    have hi : i < l.length := by omega
    have hj : i < q.length := by omega
    have hn := bad_rd hb i hj
    rw [rd_at q i hj] at hn
    have e1 : q.take (i + 1) ++ l.drop (i + 1) = (q.take i ++ l.drop i).set i q[i] := by
      rw [List.take_succ_eq_append_getElem hj, List.drop_eq_getElem_cons hi, List.set_append]
      have : ¬ i < (q.take i).length := by rw [List.length_take]; omega
      rw [if_neg this, List.length_take, Nat.min_eq_left (by omega), Nat.sub_self, List.set_cons_zero, List.append_assoc]
      rfl
    have e2 : (q.take i ++ l.drop i).length = l.length := by rw [List.length_append, List.length_take, List.length_drop]; omega
    rw [List.drop_eq_getElem_cons hi, List.drop_eq_getElem_cons hj, diffI]
    by_cases h2 : l[i] = q[i]
    · have := ih (i + 1) seen (by omega) (fun z hz => by have := hs z hz; omega)
      rw [if_pos h2, ← List.drop_eq_getElem_cons hi]
      rw [e1, ← h2, List.drop_eq_getElem_cons hi, List.set_append] at this
      rw [if_neg (by rw [List.length_take]; omega), List.length_take, Nat.min_eq_left (show i ≤ q.length by omega), Nat.sub_self, List.set_cons_zero, ← List.drop_eq_getElem_cons hi] at this
      exact this
    · have := ih (i + 1) (seen ++ [(i : Int)]) (by omega) (fun z hz => by
        rcases List.mem_append.1 hz with hz | hz
        · have := hs z hz; omega
        · rw [List.mem_singleton.1 hz]; omega)
      rw [if_neg h2, ← List.drop_eq_getElem_cons hi, patchL, e2]
      have c1 : ¬ ((i : Int) < 0 ∨ (i : Int) ≥ (l.length : Int)) := by omega
      have c2 : ¬ (q[i] < 0 ∨ q[i] ≥ n) := by omega
      have c3 : ¬ (seen.contains (i : Int) = true) := fun hc => by
        have := hs _ (List.contains_iff_mem.1 hc)
        omega
      rw [if_neg c1, if_neg c2, if_neg c3, Int.toNat_natCast, ← e1]
      exact this
theorem wf_small (x : Int) (h : 0 ≤ x ∧ x < 1000000) : (Lit.int .i64 x).wf = true := by
  have : -9223372036854775808 ≤ x ∧ x ≤ 9223372036854775807 := by omega
  simpa [Lit.wf, IntKind.min, IntKind.max, IntKind.signed, IntKind.bits] using this
theorem patch_f (e n : Int) (l : List Int) (e2 : Int) (q : List Int) (h8 : l.length ≤ 8) : spread_Patch.f e n l e2 (diffI 0 l q) = some (patchC e n l e2 (diffI 0 l q)) := by
  have hl := diffI_len l q 0
  have hw : wfC (diffI 0 l q) = true := by
    unfold wfC
    rw [List.all_eq_true]
    intro x hx
    have := diffI_mem l q 0 x hx
    exact wf_small x.f0 (by omega)
  unfold spread_Patch.f
  rw [if_pos ⟨hw, show (diffI 0 l q).length ≤ 100000 by omega⟩]
theorem patch_there (e n : Int) (l : List Int) (e2 f m : Int) (q : List Int) (ha : alikeB e n l f m q = true) (h1 : e < e2) (h2 : e2 ≤ 2147483647) : patchC e n l e2 (diffI 0 l q) = (e2, n, q, 0) := by
  unfold alikeB at ha
  simp only [Bool.and_eq_true, decide_eq_true_eq] at ha
  obtain ⟨a1, a2, rfl, a4⟩ := ha
  obtain ⟨_, _, _, _, _, r6⟩ := right_len a2
  have hp := patch_diff n l q a4 r6 l.length 0 [] (by omega) (fun z hz => by simp at hz)
  rw [List.drop_zero, List.drop_zero, List.take_zero, List.nil_append] at hp
  unfold patchC
  rw [if_neg (by rw [a1]; simp; omega), hp, if_pos rfl]
theorem patch_no (e n : Int) (l : List Int) (e2 : Int) (cs : List S39) (h : e2 ≤ e ∨ e2 > 2147483647) : patchC e n l e2 cs = (0, 0, [], 1) := by
  unfold patchC
  rw [if_pos (.inr h)]
theorem j3_true (k : Nat) (hk : 12 ≤ k) (e n : Int) (l : List Int) (f m : Int) (q : List Int) (ha : alikeB e n l f m q = true) :
    meterlaw18_SpreadThere.j3 (k + 1) (diffI 0 l q) false e n l f m q = some true := by
  have hb := ha
  unfold alikeB at hb
  simp only [Bool.and_eq_true, decide_eq_true_eq] at hb
  obtain ⟨a1, a2, a3, a4⟩ := hb
  obtain ⟨r1, r2, r3, r4, r5, r6⟩ := right_len a1
  obtain ⟨s1, s2, s3, s4, s5, s6⟩ := right_len a2
  simp only [meterlaw18_SpreadThere.j3]
  rw [if_neg (by simp)]
  by_cases h : e ≥ 2147483647
  · rw [if_pos h]
  · have hw : wrap64 (e + 1) = e + 1 := by unfold wrap64; omega
    have p1 := patch_f e n l (e + 1) q r5
    have p2 := patch_there e n l (e + 1) f m q ha (by omega) (by omega)
    have d1 := diff_f k hk (e + 1) n q f m q
    have hr : rightB (e + 1) n q = true := right_mk (by omega) r2 r3 s4 s5 (by rw [a3]; exact s6)
    have al : alikeB (e + 1) n q f m q = true := by
      unfold alikeB
      rw [hr, a2, decide_eq_true a3, decide_eq_true rfl]
      rfl
    rw [if_neg h, hw, p1, Option.bind_some, p2, d1, Option.bind_some]
    unfold diffC
    rw [if_pos al, diffI_self, if_pos rfl, if_pos rfl]
    rfl
theorem j2_true (k : Nat) (hk : 13 ≤ k) (e n : Int) (l : List Int) (f m : Int) (q : List Int) (ha : alikeB e n l f m q = true) (c : Int) (hc : f ≤ e → c = 1) :
    meterlaw18_SpreadThere.j2 (k + 1) (diffI 0 l q) c false e n l f m q = some true := by
  obtain ⟨k, rfl⟩ : ∃ z, k = z + 1 := ⟨k - 1, by omega⟩
  have j3 := j3_true k (by omega) e n l f m q ha
  generalize k + 1 = z at j3 ⊢
  simp only [meterlaw18_SpreadThere.j2]
  rw [if_neg (by simp)]
  by_cases h : f ≤ e
  · rw [if_pos h, hc h, show ((1 : Int) != 1) = false by decide]
    exact j3
  · rw [if_neg h]
    exact j3
theorem j1_true (k : Nat) (hk : 20 ≤ k) (e n : Int) (l : List Int) (f m : Int) (q : List Int) (ha : alikeB e n l f m q = true) :
    meterlaw18_SpreadThere.j1 (k + 1) (diffI 0 l q) true false e n l f m q = some true := by
  have hb := ha
  unfold alikeB at hb
  simp only [Bool.and_eq_true, decide_eq_true_eq] at hb
  obtain ⟨a1, a2, a3, a4⟩ := hb
  obtain ⟨r1, r2, r3, r4, r5, r6⟩ := right_len a1
  obtain ⟨k, rfl⟩ : ∃ z, k = z + 1 := ⟨k - 1, by omega⟩
  have j2 := j2_true k (by omega) e n l f m q ha
  have p1 := patch_f e n l f q r5
  have s1 := same_f f n q f m q (by omega) (k + 1) (by omega)
  generalize k + 1 = z at j2 s1 ⊢
  simp only [meterlaw18_SpreadThere.j1]
  rw [if_neg (by simp), if_pos trivial, p1, Option.bind_some]
  by_cases h1 : f > e
  · rw [if_pos h1]
    by_cases h2 : f ≤ 2147483647
    · rw [if_pos h2, patch_there e n l f f m q ha h1 h2, if_pos rfl, s1, Option.bind_some, decide_eq_true ⟨rfl, a3, rfl⟩]
      exact j2 0 (fun h => by omega)
    · rw [if_neg h2, patch_no e n l f _ (.inr (by omega))]
      exact j2 1 (fun _ => rfl)
  · rw [if_neg h1, patch_no e n l f _ (.inl (by omega))]
    exact j2 1 (fun _ => rfl)
theorem j0_true (k : Nat) (hk : 30 ≤ k) (e n : Int) (l : List Int) (f m : Int) (q : List Int) :
    meterlaw18_SpreadThere.j0 (k + 1) false e n l f m q = some true := by
  obtain ⟨k, rfl⟩ : ∃ z, k = z + 1 := ⟨k - 1, by omega⟩
  have d1 := diff_f (k + 1) (by omega) e n l f m q
  have d2 := diff_f (k + 1) (by omega) f m q e n l
  have j1 := j1_true k (by omega) e n l f m q
  have jn : meterlaw18_SpreadThere.j1 (k + 1) [] false false e n l f m q = some true := by
    simp only [meterlaw18_SpreadThere.j1]
    rw [if_neg (by simp), if_neg (by simp)]
    rfl
  have hs := alike_sym e n l f m q
  generalize k + 1 = z at *
  simp only [meterlaw18_SpreadThere.j0]
  rw [if_neg (by simp), d1, Option.bind_some, d2, Option.bind_some]
  unfold diffC
  rw [← hs]
  cases ha : alikeB e n l f m q with
  | false =>
    rw [if_neg (show ¬ (false = true) by decide), if_neg (show ¬ (false = true) by decide)]
    simp only
    rw [if_neg (show ¬ ((false != false) = true) by decide), if_pos trivial, decide_eq_false (show ¬ ((([] : List S39).length : Int) > (l.length : Int)) by simp)]
    exact jn
  | true =>
    have hl := diffI_len l q 0
    have hy := diffI_sym l q 0 0
    rw [if_pos rfl, if_pos rfl]
    simp only
    rw [if_neg (show ¬ ((true != true) = true) by decide), if_pos (show ((diffI 0 l q).length : Int) = ((diffI 0 q l).length : Int) by rw [hy]), decide_eq_false (show ¬ (((diffI 0 l q).length : Int) > (l.length : Int)) by omega)]
    exact j1 ha
theorem awake_f : meterlaw18_awake.f = some true := by decide +kernel
theorem SpreadThere : meterlaw18_SpreadThere.Pure := by
  intro e n l f m q _ _ _ _ _ _
  refine ⟨32, ?_⟩
  have j1 : meterlaw18_SpreadThere.j0 (31 + 1) true e n l f m q = some true := by
    simp only [meterlaw18_SpreadThere.j0]
    rw [if_pos trivial]
  have j0 := j0_true 31 (by omega) e n l f m q
  unfold meterlaw18_SpreadThere.f
  rw [awake_f, Option.bind_some, if_pos rfl]
  by_cases h1 : (l.length : Int) > 1000
  · rw [if_pos h1]
    exact j1
  rw [if_neg h1]
  by_cases h2 : (q.length : Int) > 1000
  · rw [decide_eq_true h2]
    exact j1
  · rw [decide_eq_false h2]
    exact j0

end Go.Proofs.Ytojedfmmijglnaa.Pure
