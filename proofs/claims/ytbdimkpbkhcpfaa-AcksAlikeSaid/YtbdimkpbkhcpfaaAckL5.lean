/- What acts tell, whatever their order. -/
import Derived.Test.YtbdimkpbkhcpfaaAckL4
namespace Go.Proofs.Ytbdimkpbkhcpfaa.PAcksPlays
open Go.RowKit Go.Proofs.YtbdimkpbkhcpfaaW.PrintWords Go.Proofs.YtbdimkpbkhcpfaaW.PrintLast Go.Proofs.YtbdimkpbkhcpfaaW.PrintMore
open Go.Proofs.YtbdimkpbkhcpfaaO
attribute [local go_sem] max2_int min2_int max_two min_two max_three min_three max_four min_four
set_option linter.unusedVariables false
set_option linter.unusedSimpArgs false
def news (x : S30) (y : Int) : Prop := y ∈ tellL [] x
theorem mergeL_mem (L : List Int) (hi : Int) (s : List Int) (y : Int) : y ∈ mergeL L hi s ↔ y ∈ L ∨ y ∈ mergeL [] hi s := by
  unfold mergeL
  have hk : (if 1048576 < hi then 1048576 else hi).toNat ≤ 1048576 := by split <;> omega
  rw [fold_mem, fold_mem, addUp_mem _ _ hk, addUp_mem _ _ hk]
  constructor
  · rintro ((h | h) | h)
    · exact .inl h
    · exact .inr (.inl (.inr h))
    · exact .inr (.inr h)
  · rintro (h | ((h | h) | h))
    · exact .inl (.inl h)
    · simp at h
    · exact .inl (.inr h)
    · exact .inr h
theorem tellL_mem (L : List Int) (x : S30) (y : Int) : y ∈ tellL L x ↔ y ∈ L ∨ news x y := by
  unfold news tellL
  split
  · rw [addL_mem, addL_mem]
    simp
  split
  · exact mergeL_mem L _ _ y
  · simp
theorem foldl_tell (l : List S30) : ∀ (L : List Int) (y : Int), y ∈ l.foldl tellL L ↔ y ∈ L ∨ ∃ x ∈ l, news x y := by
  induction l with
  | nil => intro L y; simp
  | cons a l ih =>
    intro L y
    rw [List.foldl_cons, ih, tellL_mem]
    constructor
    · rintro ((h | h) | ⟨x, hx, h⟩)
      · exact .inl h
      · exact .inr ⟨a, List.mem_cons_self .., h⟩
      · exact .inr ⟨x, List.mem_cons_of_mem _ hx, h⟩
    · rintro (h | ⟨x, hx, h⟩)
      · exact .inl (.inl h)
      · rcases List.mem_cons.1 hx with rfl | hx
        · exact .inl (.inr h)
        · exact .inr ⟨x, hx, h⟩
theorem after_mem (l : List S30) (y : Int) : y ∈ afterL l ↔ ∃ x ∈ l, news x y := by
  unfold afterL
  rw [foldl_tell]
  simp
theorem low_mono {L L' : List Int} {a b : Nat} (h : LowIs L a) (g : LowIs L' b) (hs : ∀ x ∈ L, x ∈ L') : a ≤ b := by
  apply Classical.byContradiction
  intro hn
  exact g.2 (hs _ (h.1 ((b : Int) + 1) (by omega) (by omega)))
theorem fold_fresh : ∀ (s U : List Int), s.Nodup → (∀ x ∈ s, x ∉ U ∧ 1 ≤ x ∧ x ≤ 2147483647) → (s.foldl addL U).length = U.length + s.length
  | [], U, _, _ => rfl
  | x :: s, U, hn, h => by
    obtain ⟨h1, h2⟩ := h x (List.mem_cons_self ..)
    have e : addL U x = U ++ [x] := if_pos (by unfold freshB; exact decide_eq_true ⟨h2.1, h2.2, h1⟩)
    rw [List.nodup_cons] at hn
    rw [List.foldl_cons, e, fold_fresh s (U ++ [x]) hn.2 fun y hy => ⟨fun q => ?_, (h y (List.mem_cons_of_mem _ hy)).2⟩]
    · simp only [List.length_append, List.length_cons, List.length_nil]
      omega
    · rcases List.mem_append.1 q with q | q
      · exact (h y (List.mem_cons_of_mem _ hy)).1 q
      · rw [List.mem_singleton] at q
        subst q
        exact hn.1 hy
theorem merge_count {L s : List Int} {low : Nat} (hR : Right L) (h1 : LowIs L low) (h2 : SetIs L low s) (hl : L.length ≤ 1000000) : (mergeL [] low s).length = low + s.length := by
  have hlow : low ≤ 1000000 := Nat.le_trans (low_len h1.1) hl
  obtain ⟨u1, u2⟩ := addUp0 low (by omega)
  unfold mergeL
  rw [if_neg (by omega), Int.toNat_natCast, fold_fresh s _ (asc_nodup h2.1) fun x hx => ?_, u1]
  have := (h2.2 x).1 hx
  exact ⟨fun q => by have := (u2 x).1 q; omega, hR.2 x this.1⟩
theorem set_above {L s : List Int} {low : Nat} (h1 : LowIs L low) (h2 : SetIs L low s) (j : Nat) (x : Int) (h : s[j]? = some x) : (low : Int) + 1 < x ∧ x ∈ L := by
  have hx := (h2.2 x).1 (List.mem_of_getElem? h)
  refine ⟨?_, hx.1⟩
  have : x ≠ (low : Int) + 1 := fun e => h1.2 (e ▸ hx.1)
  omega
theorem set_asc {L s : List Int} {low : Nat} (h2 : SetIs L low s) (j : Nat) (x y : Int) (h : s[j + 1]? = some x) (g : s[j]? = some y) : y < x := by
  obtain ⟨a, rfl⟩ := List.getElem?_eq_some_iff.1 h
  obtain ⟨b, rfl⟩ := List.getElem?_eq_some_iff.1 g
  exact List.pairwise_iff_getElem.1 h2.1 j (j + 1) b a (by omega)
end Go.Proofs.Ytbdimkpbkhcpfaa.PAcksPlays
