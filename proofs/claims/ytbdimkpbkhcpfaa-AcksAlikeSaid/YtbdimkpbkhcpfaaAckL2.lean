/- The laws' helpers over numbers that came: more. -/
import Derived.Test.YtbdimkpbkhcpfaaAckL
namespace Go.Proofs.Ytbdimkpbkhcpfaa.PAcksPlays
open Go.RowKit Go.Proofs.YtbdimkpbkhcpfaaW.PrintWords Go.Proofs.YtbdimkpbkhcpfaaW.PrintLast Go.Proofs.YtbdimkpbkhcpfaaW.PrintMore
open Go.Proofs.YtbdimkpbkhcpfaaO
attribute [local go_sem] max2_int min2_int max_two min_two max_three min_three max_four min_four
set_option linter.unusedVariables false
set_option linter.unusedSimpArgs false
theorem int_at {w : World} {A : Option Addr} {l : List Int} (hC : Kd.C (Kd.int .i64) w A l.length l) (j : Nat) (x : Int) (h : l[j]? = some x) : ∃ ad, A = some ad ∧ w.cell? (ad.add j) = some (.int .i64 x) := by
  obtain ⟨hjl, _⟩ := List.getElem?_eq_some_iff.1 h
  obtain ⟨ad, c9, e, hK, h7, hc9⟩ := Kd.C_get hC 0 (j : Int) (by omega) (by omega)
  refine ⟨ad, e, ?_⟩
  have hrd : c9 = [.int .i64 (l.getD ((j : Int)).toNat 0)] := h7
  subst hrd
  have := hc9 0 _ rfl
  rw [Int.toNat_natCast, List.getD_eq_getElem?_getD, h] at this
  have e2 : j * (Kd.int .i64).sz + 0 = j := by show j * 1 + 0 = j; omega
  rw [e2] at this
  exact this
theorem own_int_at {w0 w : World} {R : List Asn} {A : Option Addr} {c n : Nat} {l : List Int} {e : TypeId} (h : Own w0 w (Row (Kd.int .i64) e (.slice A n c) l :: R)) (j : Nat) (x : Int) (hx : l[j]? = some x) : ∃ ad, A = some ad ∧ w.cell? (ad.add j) = some (.int .i64 x) := by
  obtain ⟨A2, c2, e2, _, hC⟩ := h.row_reads
  cases e2
  exact int_at hC j x hx
theorem afterL_len (l : List S30) (h : ∀ x ∈ l, ActOk x) (h6 : l.length ≤ 60) : (afterL l).length ≤ 13200 := by
  have := foldl_len l h []
  unfold afterL
  simp only [List.length_nil] at this
  omega
theorem missL_pre (L : List Int) (n : Nat) : ∀ d, ∃ S, missL L (n + d) = missL L n ++ S
  | 0 => ⟨[], by simp⟩
  | d + 1 => by
    obtain ⟨S, hS⟩ := missL_pre L n d
    rw [show n + (d + 1) = (n + d) + 1 by omega, missL]
    split
    · exact ⟨S, hS⟩
    · exact ⟨S ++ [((n + d + 1 : Nat) : Int)], by rw [hS, List.append_assoc]⟩
theorem missL_at (L : List Int) (k n : Nat) (hk : k < n) (h : ((k : Int) + 1) ∉ L) : (missL L n)[(missL L k).length]? = some ((k : Int) + 1) := by
  obtain ⟨S, hS⟩ := missL_pre L (k + 1) (n - (k + 1))
  rw [show k + 1 + (n - (k + 1)) = n by omega, missL, if_neg (by simpa using h), List.append_assoc] at hS
  rw [hS, List.getElem?_append_right (Nat.le_refl _)]
  simp
theorem missL_zero (L : List Int) {low : Nat} (h : LowIs L low) (n : Nat) : (missL L n).length = 0 ↔ n ≤ low := by
  constructor
  · intro h0
    apply Classical.byContradiction
    intro hn
    have := missL_at L low n (by omega) h.2
    rw [List.length_eq_zero_iff.1 h0] at this
    simp at this
  · intro hn
    rw [missL_low h n hn]
    rfl
end Go.Proofs.Ytbdimkpbkhcpfaa.PAcksPlays
