/- Laws' helpers over pieces that came. -/
import Derived.Test.YtdjcndcleaffkaaChkP
namespace Go.Proofs.Ytdjcndcleaffkaa.PChunksPlays
open Go.RowKit Go.Proofs.YtdjcndcleaffkaaW.PrintWords Go.Proofs.YtdjcndcleaffkaaW.PrintLast Go.Proofs.YtdjcndcleaffkaaW.PrintMore
open Go.Proofs.YtdjcndcleaffkaaO
attribute [local go_sem] max2_int min2_int max_two min_two max_three min_three max_four min_four
set_option linter.unusedVariables false
set_option linter.unusedSimpArgs false
theorem putd (st : Option (List ByteArray × List Int)) (n count : Int) (d : ByteArray) (h : (putR st n count d).1 = true) (hR : ∀ xs L, st = some (xs, L) → Right L) (low : Nat) (M : List Int) (hA : AcksIs st low M) (s : ByteArray) (ok : Bool) (hW : WholeIs st s ok) (low' : Nat) (M' : List Int) (hA' : AcksIs (putR st n count d).2.2 low' M') :
    (putR st n count d).2.1 = 0 ∧ ok = false ∧ low' + M'.length = low + M.length + 1 := by
  unfold putR at h hA' ⊢
  by_cases hm : mayB n count d = false
  · rw [if_pos hm] at h
    cases h
  · rw [if_neg hm] at h hA' ⊢
    have hmb := of_decide_eq_true (show mayB n count d = true by simpa using hm)
    cases st with
    | none =>
      obtain ⟨rfl, rfl⟩ := hA
      obtain ⟨_, rfl⟩ := hW
      have hr : Right [n] := by
        have := Right.nil.add n
        unfold addL at this
        rwa [if_pos (show freshB [] n = true from decide_eq_true ⟨by omega, by omega, by simp⟩)] at this
      have := count_low hr hA'.1 hA'.2
      simp only [List.length_cons, List.length_nil] at this
      exact ⟨rfl, rfl, by simp only [List.length_nil]; omega⟩
    | some p =>
      obtain ⟨xs, L⟩ := p
      have hr := hR xs L rfl
      simp only at h hA' ⊢
      by_cases q : xs.length ≠ count.toNat ∨ (n ∈ L ∧ xs[(n - 1).toNat]? ≠ some d)
      · rw [if_pos q] at h
        cases h
      · rw [if_neg q] at h hA' ⊢
        have hxl : xs.length = count.toNat := by
          apply Classical.byContradiction
          intro hn
          exact q (.inl hn)
        have hf : freshB L n = true := h
        have hff := of_decide_eq_true hf
        have e : addL L n = L ++ [n] := if_pos hf
        have c1 := count_low hr hA.1 hA.2
        have hA2 : LowIs (addL L n) low' ∧ SetIs (addL L n) low' M' := hA'
        have c2 := count_low (hr.add n) hA2.1 hA2.2
        rw [e, List.length_append] at c2
        simp only [List.length_cons, List.length_nil] at c2
        refine ⟨rfl, ?_, by omega⟩
        obtain ⟨lw, hl, ⟨h1, _, _⟩ | ⟨_, _, h1⟩⟩ := hW
        · exact absurd (hl.1 n (by omega) (by omega)) hff.2.2
        · exact h1
theorem rowsA_right {w0 w : World} {R : List Asn} {g : Nat} {st : Option (List ByteArray × List Int)} (h : Own w0 w (RowsA g st :: R)) : ∀ xs L, st = some (xs, L) → Right L ∧ L.length ≤ 512 := by
  intro xs L e
  subst e
  obtain ⟨A, c, ga, hf, hc, h2⟩ := rows_open h
  have hr := acks_right h2.r2
  exact ⟨hr, Nat.le_trans (right_len hr fun x hx => hf.2.2.1 x hx) hf.2.1⟩
theorem acksIs_len {st : Option (List ByteArray × List Int)} {low : Nat} {M : List Int} (h : AcksIs st low M) (hR : ∀ xs L, st = some (xs, L) → Right L ∧ L.length ≤ 512) : low + M.length ≤ 512 := by
  cases st with
  | none =>
    obtain ⟨rfl, rfl⟩ := h
    decide
  | some p =>
    have := hR p.1 p.2 rfl
    have := count_low this.1 h.1 h.2
    omega
theorem great_go (l : List S40) : ∀ (d : Nat) (k : Nat) (x : Int), k + d = min l.length 201 → ∃ r, meterlaw16_Great.l0 (d + 1) l x k = some r
  | 0, k, x, h => by
    simp only [meterlaw16_Great.l0]
    by_cases hk : (k : Int) < (l.length : Int)
    · rw [if_pos hk, if_neg (by omega)]
      split <;> exact ⟨_, rfl⟩
    · rw [if_neg hk]
      split <;> exact ⟨_, rfl⟩
  | d + 1, k, x, h => by
    rw [meterlaw16_Great.l0]
    rw [if_pos (by omega), if_pos (by omega), if_pos (by omega), show wrap64 ((k : Int) + 1) = ((k + 1 : Nat) : Int) by unfold wrap64; omega]
    exact great_go l d (k + 1) _ (by omega)
theorem great_f (l : List S40) : ∃ r, meterlaw16_Great.f (min l.length 201 + 1) l = some r := great_go l (min l.length 201) 0 0 (by omega)
theorem same_go (a : List Int) (hb : a.length ≤ 9223372036854775000) : ∀ d k : Nat, k + d = a.length → meterlaw16_ints.l0 (d + 1) a a k = some true
  | 0, k, h => by
    simp only [meterlaw16_ints.l0]
    rw [if_neg (by omega)]
  | d + 1, k, h => by
    rw [meterlaw16_ints.l0]
    rw [if_pos (by omega), if_pos (by omega), if_pos (by omega), if_pos rfl, show wrap64 ((k : Int) + 1) = ((k + 1 : Nat) : Int) by unfold wrap64; omega]
    exact same_go a hb d (k + 1) (by omega)
theorem same_N {w : World} (A0 : Option Addr) (c0 : Nat) (A1 : Option Addr) (c1 n : Nat) (a : List Int) (hn : a.length = n) (hb : a.length ≤ 100000000) (h0 : Kd.C (Kd.int .i64) w A0 a.length a ∧ a.length ≤ c0) (h1 : Kd.C (Kd.int .i64) w A1 a.length a ∧ a.length ≤ c1) :
    Calls Try.prog 15 #[.slice A0 n c0, .slice A1 n c1] w fun e w' => e = .returned (.bool true) ∧ Drawn0 w w' := by
  subst hn
  exact meterlaw16_ints.calls (a.length + 1) A0 c0 a A1 c1 a true w h0.1 h0.2 h1.1 h1.2 (by unfold meterlaw16_ints.f; rw [if_pos rfl]; exact same_go a (by omega) a.length 0 (by omega))
end Go.Proofs.Ytdjcndcleaffkaa.PChunksPlays
