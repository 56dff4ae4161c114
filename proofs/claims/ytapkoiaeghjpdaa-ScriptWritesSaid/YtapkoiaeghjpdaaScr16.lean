/- Acts as bytes (package script): the laws' own helpers. -/
import Derived.Test.YtapkoiaeghjpdaaScr15
import Derived.Test.YtapkoiaeghjpdaaQ
namespace Go.Proofs.Ytapkoiaeghjpdaa.PScriptWrites
open Go.RowKit Go.Proofs.YtapkoiaeghjpdaaW.PrintWords Go.Proofs.YtapkoiaeghjpdaaW.PrintLast Go.Proofs.YtapkoiaeghjpdaaW.PrintMore
open Go.Proofs.YtapkoiaeghjpdaaO
attribute [local go_sem] max2_int min2_int max_two min_two max_three min_three max_four min_four
set_option linter.unusedVariables false
set_option linter.unusedSimpArgs false
theorem same_l0 (l : List ActS) (hm : l.length ≤ 9223372036854775806) : ∀ (d i k : Nat), i + d = l.length → d < k → meterlaw27_same.l0 k l l (i : Int) = some true := by
  intro d
  induction d with
  | zero =>
    intro i k h hk
    obtain ⟨k, rfl⟩ : ∃ z, k = z + 1 := ⟨k - 1, by omega⟩
    simp only [meterlaw27_same.l0]
    rw [if_neg (by omega)]
  | succ d ih =>
    intro i k h hk
    obtain ⟨k, rfl⟩ : ∃ z, k = z + 1 := ⟨k - 1, by omega⟩
    have hn := ih (i + 1) k (by omega) (by omega)
    simp only [meterlaw27_same.l0]
    rw [if_pos (by omega), if_pos (by omega), if_pos (by omega), if_neg (by simp), show wrap64 ((i : Int) + 1) = ((i + 1 : Nat) : Int) by unfold wrap64; omega, hn]
theorem same_f (l : List ActS) (hm : l.length ≤ 9223372036854775806) : meterlaw27_same.f (l.length + 1) l l = some true := by
  unfold meterlaw27_same.f
  rw [if_pos rfl]
  exact same_l0 l hm l.length 0 _ (by omega) (by omega)
/-- Two rows of the same acts. -/
theorem same_calls {w0 w : World} {L : List Asn} (h : Own w0 w L) (A1 A2 : Option Addr) (n1 n2 c1 c2 : Nat) (l : List ActS) (hn1 : n1 = l.length) (hn2 : n2 = l.length) (h1 : Kd.C k33 w A1 l.length l) (h2 : Kd.C k33 w A2 l.length l) (k1 : l.length ≤ c1) (k2 : l.length ≤ c2) (hl : l.length ≤ 1000000) :
    Calls Try.prog 12 #[.slice A1 n1 c1, .slice A2 n2 c2] w fun e w' => e = .returned (.bool true) ∧ Own w0 w' L := by
  subst hn1 hn2
  exact (meterlaw27_same.calls (l.length + 1) A1 c1 l A2 c2 l true w h1 k1 h2 k2 (same_f l (by omega))).mono fun e w' ⟨he, hb⟩ => ⟨he, h.drawn hb⟩
theorem great_f (l : List ActS) : ∃ k r, meterlaw27_Great.f k l = some r ∧ (r = false → l.length ≤ 5000 ∧ ∀ x ∈ l, x.f3.size ≤ 100000) := by
  have key : ∀ (m i : Nat) (x3 : Int), i + m = l.length → i ≤ 5001 → 0 ≤ x3 → x3 ≤ i * 100001 → (x3 ≤ 100000 → ∀ j x, j < i → l[j]? = some x → x.f3.size ≤ 100000) → ∃ k r, meterlaw27_Great.l0 k l x3 (i : Int) = some r ∧ (r = false → l.length ≤ 5000 ∧ ∀ x ∈ l, x.f3.size ≤ 100000) := by
    intro m
    induction m with
    | zero =>
      intro i x3 hi h1 h2 h3 h4
      refine ⟨1, if (l.length : Int) > 5000 then true else decide (x3 > 100000), ?_, fun h => ?_⟩
      · simp only [meterlaw27_Great.l0]
        rw [if_neg (show ¬ (i : Int) < (l.length : Int) by omega)]
        split <;> rfl
      · by_cases hq : (l.length : Int) > 5000
        · rw [if_pos hq] at h; cases h
        · rw [if_neg hq] at h
          have h5 := of_decide_eq_false h
          refine ⟨by omega, fun x hx => ?_⟩
          obtain ⟨j, hj⟩ := List.getElem?_of_mem hx
          exact h4 (by omega) j x (by have := (List.getElem?_eq_some_iff.1 hj).1; omega) hj
    | succ m ih =>
      intro i x3 hi h1 h2 h3 h4
      by_cases h300 : i ≤ 5000
      · have hx : l[i]? = some (rd_T33 l (i : Int)) := by
          unfold rd_T33
          rw [Int.toNat_natCast, List.getD_eq_getElem?_getD, List.getElem?_eq_getElem (by omega)]
          rfl
        obtain ⟨q, hq⟩ : ∃ q, rd_T33 l (i : Int) = q := ⟨_, rfl⟩
        rw [hq] at hx
        have hmn : 0 ≤ mn ((q.f3).size : Int) 100001 ∧ mn ((q.f3).size : Int) 100001 ≤ 100001 ∧ (mn ((q.f3).size : Int) 100001 ≤ 100000 → q.f3.size ≤ 100000) := by unfold mn; split <;> omega
        obtain ⟨y, hy⟩ : ∃ y, mn ((q.f3).size : Int) 100001 = y := ⟨_, rfl⟩
        rw [hy] at hmn
        have ew : wrap64 (x3 + y) = x3 + y := by unfold wrap64; omega
        obtain ⟨k, r, hk, hr⟩ := ih (i + 1) (x3 + y) (by omega) (by omega) (by omega) (by omega) (fun h5 j x hj hjx => by
          by_cases hji : j = i
          · subst hji
            rw [hx] at hjx
            obtain rfl := Option.some.inj hjx
            exact hmn.2.2 (by omega)
          · exact h4 (by omega) j x (by omega) hjx)
        refine ⟨k + 1, r, ?_, hr⟩
        simp only [meterlaw27_Great.l0]
        rw [if_pos (show (i : Int) < (l.length : Int) by omega), if_pos (show (i : Int) ≤ 5000 by omega), if_pos (show (0 : Int) ≤ (i : Int) by omega)]
        have e : wrap64 ((i : Int) + 1) = ((i + 1 : Nat) : Int) := by unfold wrap64; omega
        rw [e, hq, hy, ew]
        exact hk
      · refine ⟨1, true, ?_, fun h => by cases h⟩
        simp only [meterlaw27_Great.l0]
        rw [if_pos (show (i : Int) < (l.length : Int) by omega), if_neg (show ¬ (i : Int) ≤ 5000 by omega), if_pos (show (l.length : Int) > 5000 by omega)]
  exact key l.length 0 0 (by omega) (by omega) (by omega) (by omega) (fun _ j x hj => by omega)
/-- What a list says that is not great. -/
def Small (l : List ActS) : Prop := l.length ≤ 5000 ∧ ∀ x ∈ l, actIn x
theorem small_of {l : List ActS} (hq : ∀ x ∈ l, Q33 x) (h : l.length ≤ 5000 ∧ ∀ x ∈ l, x.f3.size ≤ 100000) : Small l := by
  refine ⟨h.1, fun x hx => ?_⟩
  obtain ⟨_, _, _, _, h4, h5⟩ := hq x hx
  have h6 := h.2 x hx
  simp [Lit.wf, IntKind.min, IntKind.max, IntKind.signed, IntKind.bits] at h4 h5
  exact ⟨⟨by omega, by omega⟩, ⟨by omega, by omega⟩, by omega⟩
theorem great_calls {w0 w : World} {R : List Asn} (h : Own w0 w R) {l : List ActS} {r : Bool} {k : Nat} (hf : meterlaw27_Great.f k l = some r) (A : Option Addr) (c : Nat) (hr : Kd.C k33 w A l.length l) (hc : l.length ≤ c) :
    Calls Try.prog 15 #[.slice A l.length c] w fun e w' => e = .returned (.bool r) ∧ Own w0 w' R :=
  (meterlaw27_Great.calls k A c l r w hr hc hf).mono fun _ _ ⟨he, hb⟩ => ⟨he, h.below hb⟩
theorem C_of_own {w0 w : World} {A : Option Addr} {n : Nat} {α : Type} {d : Kd α} {l : List α} {R : List Asn} (h : Own w0 w R) (hr : d.C w0 A n l) : d.C w A n l := Kd.C_below hr h.bel
end Go.Proofs.Ytapkoiaeghjpdaa.PScriptWrites
