/- What is kept is one of the two, the newer one; keeping it again changes nothing; of three right ones of one size the epoch that is kept is the greatest, whatever comes first: for any three tables of at most 1000 owners. -/
import Derived.Test.YtojedfmmijglnaaPSpreadMostx2
namespace Go.Proofs.Ytojedfmmijglnaa.Pure
open Go.RowKit Go.Proofs.Ytojedfmmijglnaa.PSpreadMost Go.Proofs.YtojedfmmijglnaaW.PrintWords Go.Proofs.YtojedfmmijglnaaW.PrintLast

/-! tables, plainly -/
def newerB (e1 n1 : Int) (l1 : List Int) (e2 n2 : Int) (l2 : List Int) : Bool := rightB e1 n1 l1 && (rightB e2 n2 l2 && (decide (n1 = n2) && (decide (l1.length = l2.length) && decide (e1 > e2))))
theorem newer_f (e1 n1 : Int) (l1 : List Int) (e2 n2 : Int) (l2 : List Int) : table_Newer.f e1 n1 l1 e2 n2 l2 = some (newerB e1 n1 l1 e2 n2 l2) := by
  unfold table_Newer.f table_Right.f newerB
  simp only [Option.bind_some]
  cases rightB e1 n1 l1
  · simp
  · cases rightB e2 n2 l2
    · simp
    · by_cases h : n1 = n2
      · by_cases h2 : l1.length = l2.length
        · simp [h, h2]
        · simp [h, h2, Int.ofNat_inj]
      · simp [h]
theorem right_f (e n : Int) (l : List Int) : table_Right.f e n l = some (rightB e n l) := rfl
theorem equal_l0 (l m : List Int) (hl : l.length = m.length) (hm : l.length ≤ 9223372036854775806) : ∀ (d i k : Nat), i + d = l.length → d < k →
    slices_Equal_int_int.l0 k l m l.length i = some (decide (l.drop i = m.drop i)) := by
  intro d
  induction d with
  | zero =>
    intro i k h hk
    obtain ⟨k, rfl⟩ : ∃ z, k = z + 1 := ⟨k - 1, by omega⟩
    simp only [slices_Equal_int_int.l0]
    rw [if_neg (by omega), List.drop_of_length_le (by omega), List.drop_of_length_le (by omega)]
    simp
  | succ d ih =>
    intro i k h hk
    obtain ⟨k, rfl⟩ : ∃ z, k = z + 1 := ⟨k - 1, by omega⟩
    have hi : i < l.length := by omega
    have hj : i < m.length := by omega
    have e1 : rd l (i : Int) = l[i] := by
      unfold rd
      rw [Int.toNat_natCast, List.getD_eq_getElem?_getD, List.getElem?_eq_getElem hi]
      rfl
    have e2 : rd m (i : Int) = m[i] := by
      unfold rd
      rw [Int.toNat_natCast, List.getD_eq_getElem?_getD, List.getElem?_eq_getElem hj]
      rfl
    simp only [slices_Equal_int_int.l0]
    rw [if_pos (by omega), if_pos (by omega), if_pos (by omega), if_pos (by omega), e1, e2, List.drop_eq_getElem_cons hi, List.drop_eq_getElem_cons hj]
    by_cases he : l[i] = m[i]
    · have hn := ih (i + 1) k (by omega) (by omega)
      rw [if_pos he, show wrap64 ((i : Int) + 1) = ((i + 1 : Nat) : Int) by unfold wrap64; omega, hn]
      congr 1
      apply decide_eq_decide.2
      rw [List.cons.injEq]
      simp only [he, true_and]
    · rw [if_neg he]
      congr 1
      symm
      apply decide_eq_false
      intro hc
      exact he (List.cons.inj hc).1
theorem equal_f (l m : List Int) (hm : l.length ≤ 9223372036854775806) (k : Nat) (hk : l.length < k) : slices_Equal_int_int.f k l m = some (decide (l = m)) := by
  unfold slices_Equal_int_int.f
  by_cases h : l.length = m.length
  · have h0 := equal_l0 l m h hm l.length 0 k (by omega) hk
    rw [if_pos (by omega)]
    simpa using h0
  · rw [if_neg (by omega), decide_eq_false (fun e => h (by rw [e]))]
theorem same_f (e1 n1 : Int) (l1 : List Int) (e2 n2 : Int) (l2 : List Int) (hm : l1.length ≤ 9223372036854775806) (k : Nat) (hk : l1.length < k) : table_Same.f k e1 n1 l1 e2 n2 l2 = some (decide (e1 = e2 ∧ n1 = n2 ∧ l1 = l2)) := by
  unfold table_Same.f
  rw [equal_f l1 l2 hm k hk]
  by_cases h1 : e1 = e2
  · by_cases h2 : n1 = n2
    · simp [h1, h2]
    · simp [h1, h2]
  · simp [h1]
/-! which table is kept -/
def keepC (e n : Int) (l : List Int) (f m : Int) (q : List Int) : Int × Int × List Int × Bool := if newerB f m q e n l = true then (f, m, q, true) else (e, n, l, false)
theorem copy_f (e n : Int) (l : List Int) (hl : l.length ≤ 1000000) : table_Copy.f e n l = some (e, n, l) := by
  unfold table_Copy.f slices_Clone_int_int.f
  rw [if_pos (show l.length * 8 ≤ 140737488355328 by omega), Option.bind_some]
theorem keep_f (e n : Int) (l : List Int) (f m : Int) (q : List Int) (hl : l.length ≤ 1000000) (hq : q.length ≤ 1000000) : spread_Keep.f e n l f m q = some (keepC e n l f m q) := by
  unfold spread_Keep.f keepC
  rw [newer_f, Option.bind_some, copy_f f m q hq, copy_f e n l hl]
  cases newerB f m q e n l <;> rfl
theorem newer_self (e n : Int) (l : List Int) : newerB e n l e n l = false := by
  unfold newerB
  rw [decide_eq_false (show ¬ e > e by omega)]
  simp
theorem newer_alike {e n : Int} {l : List Int} {f : Int} {q : List Int} (h1 : rightB e n l = true) (h2 : rightB f n q = true) (hl : l.length = q.length) : newerB e n l f n q = decide (e > f) := by
  unfold newerB
  rw [h1, h2, decide_eq_true rfl, decide_eq_true hl]
  rfl
theorem keep_len {e n : Int} {l : List Int} {f m : Int} {q : List Int} {z : Nat} (hl : l.length ≤ z) (hq : q.length ≤ z) : (keepC e n l f m q).2.2.1.length ≤ z := by
  unfold keepC
  split
  · exact hq
  · exact hl
/-- Of two right ones of one size the later is kept. -/
theorem keep_alike {e n : Int} {l : List Int} {f : Int} {q : List Int} (h1 : rightB e n l = true) (h2 : rightB f n q = true) (hl : l.length = q.length) :
    (keepC e n l f n q).1 = max e f ∧ (keepC e n l f n q).2.1 = n ∧ (keepC e n l f n q).2.2.1.length = l.length ∧ rightB (keepC e n l f n q).1 (keepC e n l f n q).2.1 (keepC e n l f n q).2.2.1 = true := by
  unfold keepC
  rw [newer_alike h2 h1 hl.symm]
  by_cases h : f > e
  · rw [decide_eq_true h, if_pos rfl]
    exact ⟨by show f = max e f; omega, rfl, hl.symm, h2⟩
  · rw [decide_eq_false h, if_neg (by simp)]
    exact ⟨by show e = max e f; omega, rfl, rfl, h1⟩
theorem j1_true (k : Nat) (a x : Int) (l : List Int) (b y : Int) (q : List Int) (c z : Int) (r : List Int) (hl : l.length ≤ 1000) (hq : q.length ≤ 1000) (hr : r.length ≤ 1000) :
    meterlaw18_SpreadMost.j1 (k + 1) false a x l b y q c z r (keepC a x l b y q).1 (keepC a x l b y q).2.1 (keepC a x l b y q).2.2.1 = some true := by
  have kl := keep_len (e := a) (n := x) (l := l) (f := b) (m := y) (q := q) hl hq
  have ml := keep_len (e := b) (n := y) (l := q) (f := c) (m := z) (q := r) hq hr
  have k1 := keep_f (keepC a x l b y q).1 (keepC a x l b y q).2.1 (keepC a x l b y q).2.2.1 c z r (by omega) (by omega)
  have k2 := keep_f b y q c z r (by omega) (by omega)
  have k3 := keep_f a x l (keepC b y q c z r).1 (keepC b y q c z r).2.1 (keepC b y q c z r).2.2.1 (by omega) (by omega)
  simp only [meterlaw18_SpreadMost.j1]
  rw [if_neg (by simp), k1, Option.bind_some, k2, Option.bind_some, k3, Option.bind_some, right_f, Option.bind_some]
  by_cases c1 : rightB a x l = true
  · rw [if_pos c1, right_f, Option.bind_some]
    by_cases c2 : rightB b y q = true
    · rw [if_pos c2, right_f, Option.bind_some]
      by_cases c3 : rightB c z r = true
      · rw [if_pos c3]
        by_cases c4 : x = y
        · rw [if_pos c4]
          by_cases c5 : y = z
          · rw [if_pos c5]
            by_cases c6 : (l.length : Int) = (q.length : Int)
            · rw [if_pos c6]
              by_cases c7 : (q.length : Int) = (r.length : Int)
              · rw [if_pos c7]
                subst c4 c5
                have d6 : l.length = q.length := by omega
                have d7 : q.length = r.length := by omega
                obtain ⟨a1, a2, a3, a4⟩ := keep_alike c1 c2 d6
                obtain ⟨b1, b2, b3, b4⟩ := keep_alike c2 c3 d7
                generalize keepC a x l b x q = K at *
                generalize keepC b x q c x r = M at *
                obtain ⟨K1, K2, K3, K4⟩ := K
                obtain ⟨M1, M2, M3, M4⟩ := M
                simp only at a1 a2 a3 a4 b1 b2 b3 b4 ⊢
                subst a2 b2
                obtain ⟨e1, _⟩ := keep_alike a4 c3 (by omega)
                obtain ⟨e2, _⟩ := keep_alike c1 b4 (by omega)
                rw [e1, e2, a1, b1, if_pos (by omega)]
                unfold mx
                congr 1
                rw [beq_iff_eq]
                split <;> split <;> omega
              · rw [if_neg c7]
            · rw [if_neg c6]
          · rw [if_neg c5]
        · rw [if_neg c4]
      · rw [if_neg c3]
    · rw [if_neg c2]
  · rw [if_neg c1]
theorem j0_true (k : Nat) (hk : 1002 ≤ k) (a x : Int) (l : List Int) (b y : Int) (q : List Int) (c z : Int) (r : List Int) (hl : l.length ≤ 1000) (hq : q.length ≤ 1000) (hr : r.length ≤ 1000) :
    meterlaw18_SpreadMost.j0 (k + 1) false a x l b y q c z r = some true := by
  obtain ⟨k, rfl⟩ : ∃ m, k = m + 1 := ⟨k - 1, by omega⟩
  have j1 := j1_true k a x l b y q c z r hl hq hr
  have k1 := keep_f a x l b y q (by omega) (by omega)
  generalize k + 1 = m at *
  simp only [meterlaw18_SpreadMost.j0]
  rw [if_neg (by simp), k1, Option.bind_some]
  unfold keepC at j1 ⊢
  cases hn : newerB b y q a x l with
  | true =>
    rw [hn, if_pos rfl] at j1
    have k2 := keep_f b y q b y q (by omega) (by omega)
    have hs := newer_self b y q
    unfold keepC at k2
    rw [hs, if_neg (by simp)] at k2
    have s1 := same_f b y q b y q (by omega) m (by omega)
    rw [decide_eq_true ⟨rfl, rfl, rfl⟩] at s1
    rw [if_pos rfl]
    simp only
    rw [k2, Option.bind_some, if_pos trivial, s1, Option.bind_some, if_pos rfl, if_neg (by simp), Option.bind_some, if_pos rfl, newer_f, hn, Option.bind_some]
    exact j1
  | false =>
    rw [hn, if_neg (by simp)] at j1
    have k2 := keep_f a x l b y q (by omega) (by omega)
    unfold keepC at k2
    rw [hn, if_neg (by simp)] at k2
    have s1 := same_f a x l a x l (by omega) m (by omega)
    rw [decide_eq_true ⟨rfl, rfl, rfl⟩] at s1
    rw [if_neg (by simp)]
    simp only
    rw [k2, Option.bind_some, if_neg (by simp), s1, Option.bind_some, if_pos rfl, if_neg (by simp), Option.bind_some, if_pos rfl, newer_f, hn, Option.bind_some]
    exact j1
theorem awake_f : meterlaw18_awake.f = some true := by decide +kernel
theorem SpreadMost : meterlaw18_SpreadMost.Pure := by
  intro a x l b y q c z r _ _ _ _ _ _ _ _ _
  refine ⟨1003, ?_⟩
  have j1 : meterlaw18_SpreadMost.j0 (1002 + 1) true a x l b y q c z r = some true := by
    simp only [meterlaw18_SpreadMost.j0]
    rw [if_pos trivial]
  have j0 := j0_true 1002 (by omega) a x l b y q c z r
  unfold meterlaw18_SpreadMost.f
  rw [awake_f, Option.bind_some, if_pos rfl]
  by_cases h1 : (l.length : Int) > 1000
  · rw [if_pos h1]
    exact j1
  by_cases h2 : (q.length : Int) > 1000
  · rw [if_neg h1, if_pos h2]
    exact j1
  rw [if_neg h1, if_neg h2]
  by_cases h3 : (r.length : Int) > 1000
  · rw [decide_eq_true h3]
    exact j1
  · rw [decide_eq_false h3]
    exact j0 (by omega) (by omega) (by omega)

end Go.Proofs.Ytojedfmmijglnaa.Pure
