/- The document's own answer for pieces that come: what it computes. -/
import Derived.Test.YtdjcndcleaffkaaChkB
namespace Go.Proofs.Ytdjcndcleaffkaa.PChunksPlays
open Go.RowKit Go.Proofs.YtdjcndcleaffkaaW.PrintWords Go.Proofs.YtdjcndcleaffkaaW.PrintLast Go.Proofs.YtdjcndcleaffkaaW.PrintMore
open Go.Proofs.YtdjcndcleaffkaaO
attribute [local go_sem] max2_int min2_int max_two min_two max_three min_three max_four min_four
set_option linter.unusedVariables false
set_option linter.unusedSimpArgs false
abbrev PC := S66
/-- The document's places beside the program's texts and numbers. -/
def RefRel (st : Option (List ByteArray × List Int)) (ps : List PC) : Prop :=
  (st = none ∧ ps = []) ∨ ∃ xs L, st = some (xs, L) ∧ xs.length = ps.length ∧ 1 ≤ ps.length ∧ ps.length ≤ 512 ∧ (∀ x ∈ L, 1 ≤ x ∧ x ≤ (ps.length : Int)) ∧ (∀ p ∈ ps, p.f1.size ≤ 64) ∧ ∀ j p, ps[j]? = some p → ((((j : Nat) : Int) + 1) ∈ L ↔ p.f0 = true) ∧ (p.f0 = true → xs[j]? = some p.f1)
theorem rd_pc {ps : List PC} {j : Nat} {p : PC} (h : ps[j]? = some p) : rd_T66 ps (j : Int) = p := by unfold rd_T66; rw [Int.toNat_natCast, List.getD_eq_getElem?_getD, h]; rfl
theorem w1 (k : Nat) (h : k ≤ 1000000) : wrap64 ((k : Int) + 1) = ((k + 1 : Nat) : Int) := by unfold wrap64; omega
theorem acks_l1 (ps : List PC) (hl : ps.length ≤ 512) (x4 : Int) (e : Nat) : ∀ d k : Nat, k + d = ps.length → ∀ M : List Int, M.length ≤ k → ∃ N, meterref16_Rows_Acks.l1 (d + 1 + e) x4 M k ps = some (x4, M ++ N) ∧ N.Pairwise (· < ·) ∧ ∀ x, x ∈ N ↔ ∃ (j : Nat) (p : PC), k ≤ j ∧ ps[j]? = some p ∧ p.f0 = true ∧ x = (j : Int) + 1
  | 0, k, h, M, hM => by
    rw [show 0 + 1 + e = e + 1 by omega]
    simp only [meterref16_Rows_Acks.l1]
    rw [if_neg (by omega)]
    refine ⟨[], by rw [List.append_nil], List.Pairwise.nil, fun x => ⟨fun q => (nomatch q), fun ⟨j, p, h1, h2, _⟩ => ?_⟩⟩
    have := (List.getElem?_eq_some_iff.1 h2).1
    omega
  | d + 1, k, h, M, hM => by
    have hk : k < ps.length := by omega
    have hp := List.getElem?_eq_getElem hk
    generalize ps[k] = p at hp
    rw [show d + 1 + 1 + e = (d + 1 + e) + 1 by omega]
    simp only [meterref16_Rows_Acks.l1]
    rw [if_pos (by omega), if_pos (by omega), rd_pc hp, w1 k (by omega)]
    by_cases hf : p.f0 = true
    · rw [if_pos hf, if_pos (by omega)]
      obtain ⟨N, h1, h2, h3⟩ := acks_l1 ps hl x4 e d (k + 1) (by omega) (M ++ [((k + 1 : Nat) : Int)]) (by rw [List.length_append, List.length_singleton]; omega)
      refine ⟨((k + 1 : Nat) : Int) :: N, by rw [h1, List.append_assoc]; rfl, List.pairwise_cons.2 ⟨fun y hy => ?_, h2⟩, fun x => ?_⟩
      · obtain ⟨j, _, q1, _, _, q2⟩ := (h3 y).1 hy
        omega
      · rw [List.mem_cons, h3]
        constructor
        · rintro (q | ⟨j, p', q1, q2⟩)
          · exact ⟨k, p, Nat.le_refl _, hp, hf, by omega⟩
          · exact ⟨j, p', by omega, q2⟩
        · rintro ⟨j, p', q1, q2, q3, q4⟩
          by_cases q : j = k
          · exact .inl (by omega)
          · exact .inr ⟨j, p', by omega, q2, q3, q4⟩
    · rw [if_neg hf]
      obtain ⟨N, h1, h2, h3⟩ := acks_l1 ps hl x4 e d (k + 1) (by omega) M (by omega)
      refine ⟨N, h1, h2, fun x => ?_⟩
      rw [h3]
      constructor
      · rintro ⟨j, p', q1, q2⟩
        exact ⟨j, p', by omega, q2⟩
      · rintro ⟨j, p', q1, q2, q3, q4⟩
        by_cases q : j = k
        · subst q
          rw [hp] at q2
          rw [Option.some.inj q2] at hf
          exact absurd q3 hf
        · exact ⟨j, p', by omega, q2, q3, q4⟩
theorem acks_l0 (ps : List PC) (hl : ps.length ≤ 512) : ∀ d k : Nat, k + d = ps.length → (∀ j p, j < k → ps[j]? = some p → p.f0 = true) → ∃ (low : Nat) (N : List Int), low ≤ ps.length ∧ meterref16_Rows_Acks.l0 (d + ps.length + 3) k ps = some ((low : Int), N) ∧ (∀ j p, j < low → ps[j]? = some p → p.f0 = true) ∧ (∀ p, ps[low]? = some p → p.f0 = false) ∧ N.Pairwise (· < ·) ∧ ∀ x, x ∈ N ↔ ∃ (j : Nat) (p : PC), low ≤ j ∧ ps[j]? = some p ∧ p.f0 = true ∧ x = (j : Int) + 1
  | 0, k, h, hp => by
    rw [show 0 + ps.length + 3 = (ps.length + 2) + 1 by omega]
    simp only [meterref16_Rows_Acks.l0]
    rw [if_neg (by omega)]
    simp only [meterref16_Rows_Acks.j1]
    obtain ⟨N, h1, h2, h3⟩ := acks_l1 ps hl k ps.length 0 k h [] (Nat.zero_le _)
    rw [show ps.length + 1 = 0 + 1 + ps.length by omega, h1]
    exact ⟨k, N, by omega, rfl, hp, fun p q => by have := (List.getElem?_eq_some_iff.1 q).1; omega, h2, h3⟩
  | d + 1, k, h, hp => by
    have hk : k < ps.length := by omega
    have hq := List.getElem?_eq_getElem hk
    generalize ps[k] = p at hq
    rw [show d + 1 + ps.length + 3 = (d + ps.length + 3) + 1 by omega]
    simp only [meterref16_Rows_Acks.l0]
    rw [if_pos (by omega), if_pos (by omega), rd_pc hq]
    by_cases hf : p.f0 = true
    · rw [if_pos hf, w1 k (by omega)]
      exact acks_l0 ps hl d (k + 1) (by omega) fun j p' q1 q2 => by
        by_cases q : j = k
        · subst q
          rw [hq] at q2
          rw [← Option.some.inj q2]
          exact hf
        · exact hp j p' (by omega) q2
    · rw [if_neg hf]
      simp only [meterref16_Rows_Acks.j1]
      obtain ⟨N, h1, h2, h3⟩ := acks_l1 ps hl k (ps.length) (d + 1) k (by omega) [] (Nat.zero_le _)
      rw [show d + ps.length + 2 = d + 1 + 1 + ps.length by omega, h1]
      exact ⟨k, N, by omega, rfl, hp, fun p' q => by rw [hq] at q; rw [← Option.some.inj q]; simpa using hf, h2, h3⟩
theorem ref_acks {st : Option (List ByteArray × List Int)} {ps : List PC} (h : RefRel st ps) : ∃ (low : Nat) (M : List Int), meterref16_Rows_Acks.f (ps.length + ps.length + 3) ps = some ((low : Int), M) ∧ AcksIs st low M ∧ M.length ≤ 512 := by
  have hl : ps.length ≤ 512 := by rcases h with ⟨_, rfl⟩ | ⟨_, _, _, _, _, h, _⟩; exact Nat.zero_le _; exact h
  obtain ⟨low, N, h1, h2, h3, h4, h5, h6⟩ := acks_l0 ps hl ps.length 0 (by omega) (fun j _ hj => absurd hj (by omega))
  rcases h with ⟨rfl, rfl⟩ | ⟨xs, L, rfl, hx, hl1, _, hL, _, hR⟩
  · have e1 : low = 0 := Nat.le_zero.1 h1
    have e2 : N = [] := List.eq_nil_iff_forall_not_mem.2 fun x hx => by obtain ⟨j, p, _, q, _⟩ := (h6 x).1 hx; simp at q
    subst e1
    subst e2
    exact ⟨0, [], h2, ⟨rfl, rfl⟩, Nat.zero_le _⟩
  · have hLow : LowIs L low := by
      refine ⟨fun i q1 q2 => ?_, fun q => ?_⟩
      · have hj : (i - 1).toNat < ps.length := by omega
        have hp := List.getElem?_eq_getElem hj
        have := (hR _ _ hp).1.2 (h3 _ _ (by omega) hp)
        rwa [show (((i - 1).toNat : Nat) : Int) + 1 = i by omega] at this
      · have hj : low < ps.length := by have := (hL _ q).2; omega
        have hp := List.getElem?_eq_getElem hj
        have q2 := (hR _ _ hp).1.1 q
        rw [h4 _ hp] at q2
        cases q2
    have hSet : SetIs L low N := by
      refine ⟨h5, fun x => ?_⟩
      rw [h6]
      constructor
      · rintro ⟨j, p, q1, q2, q3, rfl⟩
        exact ⟨(hR j p q2).1.2 q3, by omega⟩
      · rintro ⟨q1, q2⟩
        have hb := hL x q1
        have hj : (x - 1).toNat < ps.length := by omega
        have hp := List.getElem?_eq_getElem hj
        have e : (((x - 1).toNat : Nat) : Int) + 1 = x := by omega
        exact ⟨(x - 1).toNat, _, by omega, hp, (hR _ _ hp).1.1 (by rw [e]; exact q1), e.symm⟩
    refine ⟨low, N, h2, ⟨hLow, hSet⟩, ?_⟩
    have := sub_len2 N ps.length (h5.imp fun h e => by omega) fun x hx => by obtain ⟨q, _⟩ := (hSet.2 x).1 hx; exact hL x q
    omega
end Go.Proofs.Ytdjcndcleaffkaa.PChunksPlays
