/- Literal rows of numbers; the chapter's examples. -/
import Derived.Test.YtbdimkpbkhcpfaaAckL3
namespace Go.Proofs.Ytbdimkpbkhcpfaa.PAcksPlays
open Go.RowKit Go.Proofs.YtbdimkpbkhcpfaaW.PrintWords Go.Proofs.YtbdimkpbkhcpfaaW.PrintLast Go.Proofs.YtbdimkpbkhcpfaaW.PrintMore
open Go.Proofs.YtbdimkpbkhcpfaaO
attribute [local go_sem] max2_int min2_int max_two min_two max_three min_three max_four min_four
set_option linter.unusedVariables false
set_option linter.unusedSimpArgs false
theorem _root_.Go.Proofs.YtbdimkpbkhcpfaaO.Own.litI {w0 w : World} {L : List Asn} (h : Own w0 w L) (k : IntKind) (e : TypeId) (xs : List Int) (hm : xs.length ≤ 9223372036854775807) (n : Nat) (hn : n = xs.length) (inner : Array Value) (hi : inner = (xs.map (.int k)).toArray) :
    Own w0 (w.alloc (.cells inner e)) (Row (Kd.int k) e (.slice (some ⟨w.heap.size, 0, none⟩) n n) xs :: L) := by
  subst hn
  subst hi
  refine h.row_new (ok := fun k => k = w.heap.size) (below_alloc (Below.refl _ _) _) ⟨fun k hk => ?_, xs.map (.int k), ?_, ?_, ?_⟩
  · have : w.heap.size = k := by simpa [Value.ownBlock] using hk
    exact this.symm
  · have h2 := World.ownsRow_lit (base := w.heap.size) (e := e) (size := 1) w (xs.map (.int k)).toArray xs.length (Nat.le_refl _) (by simpa [maxLen] using hm) (by simp)
    have h3 : (w.alloc (.cells (xs.map (.int k)).toArray e)).ownsRow w.heap.size e 1 (.slice (some ⟨w.heap.size, 0, none⟩) xs.length xs.length) xs.length (xs.map (.int k)) := by simpa using h2
    exact h3
  · show _ = xs.length * 1
    simp
  · intro j p hp
    show ((xs.map (Value.int k)).drop (j * 1)).take 1 = [.int k p]
    rw [Nat.mul_one, List.drop_eq_getElem_cons (by simpa using (List.getElem?_eq_some_iff.1 hp).1)]
    simp [(List.getElem?_eq_some_iff.1 hp).2]
theorem up1 : freshB [2] 0 = false := by decide
theorem k3 : mergeL [] 3 [5, 6, 5] = [1, 2, 3, 5, 6] := by decide
theorem low3 : LowIs [1, 2, 3, 5, 6] 3 := ⟨fun i a b => by simp; omega, by decide⟩
theorem asc2 (a b : Int) (h : a < b) : [a, b].Pairwise (· < ·) := List.pairwise_pair.2 h
theorem set3 : SetIs [1, 2, 3, 5, 6] 3 [5, 6] := ⟨asc2 5 6 (by decide), fun x => by simp; omega⟩
theorem miss3 : missL [1, 2, 3, 5, 6] (if 1048576 < (7 : Int) then 1048576 else (7 : Int)).toNat = [4, 7] := by decide
theorem set2 : SetIs [2] 0 [2] := ⟨List.pairwise_singleton .., fun x => by simp; omega⟩
theorem addUp0 : ∀ k : Nat, k ≤ 2147483647 → (addUp [] k).length = k ∧ ∀ x, x ∈ addUp [] k ↔ 1 ≤ x ∧ x ≤ (k : Int)
  | 0, _ => ⟨rfl, fun x => by simp [addUp]; omega⟩
  | k + 1, hk => by
    obtain ⟨h1, h2⟩ := addUp0 k (by omega)
    have hf : freshB (addUp [] k) ((k : Int) + 1) = true := by
      unfold freshB
      exact decide_eq_true ⟨by omega, by omega, fun h => by have := (h2 _).1 h; omega⟩
    have hn : addL (addUp [] k) ((k : Int) + 1) = addUp [] k ++ [(k : Int) + 1] := if_pos hf
    rw [addUp]
    refine ⟨?_, fun x => ?_⟩
    · first | rw [hn, List.length_append, h1]; rfl | (show (addL (addUp [] k) ((k : Int) + 1)).length = _; rw [hn, List.length_append, h1]; rfl)
    · show x ∈ addL (addUp [] k) ((k : Int) + 1) ↔ _
      rw [hn, List.mem_append, h2, List.mem_singleton]
      constructor
      · rintro (h | h) <;> omega
      · intro h
        by_cases hx : x ≤ k
        · exact .inl ⟨h.1, hx⟩
        · exact .inr (by omega)
theorem bigM : mergeL [] 4611686018427387904 [] = addUp [] 1048576 := by
  unfold mergeL
  rw [if_pos (by omega), List.foldl_nil, show (1048576 : Int).toNat = 1048576 by omega]
theorem bigLow (U : List Int) (hU : ∀ x, x ∈ U ↔ 1 ≤ x ∧ x ≤ ((1048576 : Nat) : Int)) : LowIs U 1048576 := ⟨fun i a b => (hU i).2 ⟨a, b⟩, fun h => by have := (hU _).1 h; omega⟩
theorem bigMiss (U : List Int) (h : LowIs U 1048576) : missL U (if 1048576 < (4611686018427387904 : Int) then 1048576 else (4611686018427387904 : Int)).toNat = [] := missL_low h _ (by decide)
theorem badM (V : List Int) : mergeL V (-5) [-1, 0, 2147483648] = V := by
  show addL (addL (addL (addUp V 0) (-1)) 0) 2147483648 = V
  have e1 : addL V (-1) = V := if_neg (by simp [freshB])
  have e2 : addL V 0 = V := if_neg (by simp [freshB])
  have e3 : addL V 2147483648 = V := if_neg (by simp [freshB])
  show addL (addL (addL V (-1)) 0) 2147483648 = V
  rw [e1, e2, e3]
theorem AcksMergeN {w0 w : World} {R : List Asn} {g : Nat} {L : List Int} {e : TypeId} {A : Option Addr} {c n : Nat} {l : List Int} (h : Own w0 w (Acks g L :: Row (Kd.int .i64) e (.slice A n c) l :: R)) (hn : l.length = n) (hi : Int) (hw : ∀ x ∈ l, (Lit.int .i64 x).wf = true) (hl : L.length + l.length ≤ 1000000000) (L' : List Int) (hm : mergeL L hi l = L') (z : Int) (hz : (L'.length : Int) - (L.length : Int) = z) :
    Calls Try.prog 15 #[.pointer (some ⟨g, 0, none⟩), .int .i64 hi, .slice A n c] w fun e2 w' => e2 = .returned (.int .i64 z) ∧ Own w0 w' (Acks g L' :: Row (Kd.int .i64) e (.slice A n c) l :: R) := by
  subst hn
  subst hz
  exact AcksMergeR h hi hw hl L' hm
theorem same_N {w : World} (A0 : Option Addr) (c0 : Nat) (A1 : Option Addr) (c1 n : Nat) (a : List Int) (hn : a.length = n) (hb : a.length ≤ 100000000) (h0 : Kd.C (Kd.int .i64) w A0 a.length a ∧ a.length ≤ c0) (h1 : Kd.C (Kd.int .i64) w A1 a.length a ∧ a.length ≤ c1) :
    Calls Try.prog 16 #[.slice A0 n c0, .slice A1 n c1] w fun e w' => e = .returned (.bool true) ∧ Drawn0 w w' := by
  subst hn
  exact same_calls A0 c0 A1 c1 a hb h0 h1
end Go.Proofs.Ytbdimkpbkhcpfaa.PAcksPlays
