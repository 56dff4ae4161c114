/- Traces (package trace): their words. -/
import Derived.Test.YtglccegihffndaaPTracePlaysx0
import Derived.Test.YtglccegihffndaaOwn
import Derived.Lib.SliceRun
import Derived.WalkSpells
namespace Go.Proofs.Ytglccegihffndaa.PTracePlays
open Go.RowKit Go.Proofs.YtglccegihffndaaW.PrintWords Go.Proofs.YtglccegihffndaaW.PrintLast Go.Proofs.YtglccegihffndaaW.PrintMore
open Go.Proofs.YtglccegihffndaaO
attribute [local go_sem] max2_int min2_int max_two min_two max_three min_three max_four min_four
set_option linter.unusedVariables false
set_option linter.unusedSimpArgs false
abbrev TO := S46
abbrev TA := S48
theorem add_at (b n : Nat) : (⟨b, 0, none⟩ : Addr).add n = ⟨b, n, none⟩ := by unfold Addr.add; split <;> simp [*]
/-- The shards' cells. -/
def cellsV : List (Value × Value) → List Value
  | [] => []
  | p :: l => p.1 :: p.2 :: cellsV l
theorem cellsV_len : ∀ l, (cellsV l).length = 2 * l.length
  | [] => rfl
  | p :: l => by simp only [cellsV, List.length_cons, cellsV_len l]; omega
theorem cellsV_at : ∀ (l : List (Value × Value)) (i : Nat) (p : Value × Value), l[i]? = some p → (cellsV l)[i * 2]? = some p.1 ∧ (cellsV l)[i * 2 + 1]? = some p.2
  | [], i, p, h => by simp at h
  | q :: l, 0, p, h => by obtain rfl := Option.some.inj h; exact ⟨rfl, rfl⟩
  | q :: l, i + 1, p, h => by
    have := cellsV_at l i p h
    have e : (i + 1) * 2 = i * 2 + 1 + 1 := by omega
    rw [e]
    exact this
theorem cellsV_set : ∀ (l : List (Value × Value)) (i : Nat) (p : Value × Value) (v : Value), l[i]? = some p → (cellsV l).set (i * 2) v = cellsV (l.set i (v, p.2)) ∧ (cellsV l).set (i * 2 + 1) v = cellsV (l.set i (p.1, v))
  | [], i, p, v, h => by simp at h
  | q :: l, 0, p, v, h => by obtain rfl := Option.some.inj h; exact ⟨rfl, rfl⟩
  | q :: l, i + 1, p, v, h => by
    have := cellsV_set l i p v h
    have e : (i + 1) * 2 = i * 2 + 1 + 1 := by omega
    rw [e]
    simp only [cellsV, List.set_cons_succ]
    exact ⟨by rw [this.1], by rw [this.2]⟩
/-- The shards' rows. -/
def RowsV : List (Value × Value) → List (List TO × List TA) → Asn
  | p :: ps, s :: ss => star (Row k46 46 p.1 s.1) (star (Row k48 48 p.2 s.2) (RowsV ps ss))
  | _, _ => emp
section
variable {w0 w w' : World}
theorem rows_take : ∀ {ps : List (Value × Value)} {ss : List (List TO × List TA)} {R : List Asn} (i : Nat) {p : Value × Value} {s : List TO × List TA}, ps[i]? = some p → ss[i]? = some s → Own w0 w (RowsV ps ss :: R) →
    Own w0 w (Row k46 46 p.1 s.1 :: Row k48 48 p.2 s.2 :: RowsV (ps.eraseIdx i) (ss.eraseIdx i) :: R)
  | [], _, _, i, _, _, h, _, _ => by simp at h
  | _ :: _, [], _, i, _, _, _, h, _ => by simp at h
  | q :: ps, t :: ss, R, 0, p, s, hp, hs, h => by
    obtain rfl := Option.some.inj hp
    obtain rfl := Option.some.inj hs
    exact (Own.split h.split.r1).r2
  | q :: ps, t :: ss, R, i + 1, p, s, hp, hs, h => by
    have h1 := Own.split h.split.r1
    have h2 := rows_take i hp hs (R := _) (h1.r1)
    exact ((h2.r2.r3.join).r3.join).r2.r2
theorem rows_put : ∀ {ps : List (Value × Value)} {ss : List (List TO × List TA)} {R : List Asn} (i : Nat) {p : Value × Value} {s : List TO × List TA}, i < ps.length → i < ss.length →
    Own w0 w (Row k46 46 p.1 s.1 :: Row k48 48 p.2 s.2 :: RowsV (ps.eraseIdx i) (ss.eraseIdx i) :: R) → Own w0 w (RowsV (ps.set i p) (ss.set i s) :: R)
  | [], _, _, i, _, _, h, _, _ => by simp at h
  | _ :: _, [], _, i, _, _, _, h, _ => by simp at h
  | q :: ps, t :: ss, R, 0, p, s, hp, hs, h => (h.r2.r2.join).r1.join
  | q :: ps, t :: ss, R, i + 1, p, s, hp, hs, h => by
    have h1 := Own.split (Own.split h.r2).r1
    have h2 := rows_put i (p := p) (s := s) (R := _) (by simpa using hp) (by simpa using hs) (h1.r4.r4.r3.r2.r2)
    exact (h2.r1.join).r1.join
theorem rows_new : ∀ (n : Nat) {R : List Asn}, Own w0 w R → Own w0 w (RowsV (List.replicate n (.slice none 0 0, .slice none 0 0)) (List.replicate n ([], [])) :: R)
  | 0, _, h => h.emp_in
  | n + 1, _, h => ((((rows_new n h).row_nil k48 48).join).row_nil k46 46).join
end
/-- A trace: what was put for each shard. -/
def Tr (g : Nat) (ss : List (List TO × List TA)) : Asn := ex fun b : Nat => ex fun ps : List (Value × Value) => fact (ps.length = ss.length ∧ 1 ≤ ss.length ∧ ss.length ≤ 8) (star (Blk g (.cells #[.slice (some ⟨b, 0, none⟩) ss.length ss.length] 55 (0, 0))) (star (Blk b (.cells (cellsV ps).toArray 68 (0, 0))) (RowsV ps ss)))
section
variable {w0 w w' : World} {R : List Asn} {g : Nat} {ss : List (List TO × List TA)}
theorem tr_open (h : Own w0 w (Tr g ss :: R)) : ∃ (b : Nat) (ps : List (Value × Value)), (ps.length = ss.length ∧ 1 ≤ ss.length ∧ ss.length ≤ 8) ∧ Own w0 w (Blk g (.cells #[.slice (some ⟨b, 0, none⟩) ss.length ss.length] 55 (0, 0)) :: Blk b (.cells (cellsV ps).toArray 68 (0, 0)) :: RowsV ps ss :: R) := by
  obtain ⟨b, h⟩ := Own.ex_out h
  obtain ⟨ps, h⟩ := Own.ex_out h
  obtain ⟨hf, h⟩ := Own.fact_out h
  exact ⟨b, ps, hf, (Own.split (Own.split h).r1).r2⟩
theorem tr_shut {b : Nat} {ps : List (Value × Value)} (hf : ps.length = ss.length ∧ 1 ≤ ss.length ∧ ss.length ≤ 8) (h : Own w0 w (Blk g (.cells #[.slice (some ⟨b, 0, none⟩) ss.length ss.length] 55 (0, 0)) :: Blk b (.cells (cellsV ps).toArray 68 (0, 0)) :: RowsV ps ss :: R)) : Own w0 w (Tr g ss :: R) :=
  .ex_in b (.ex_in ps (.fact_in hf (.join (Own.r1 (.join h.r2.r2)))))
theorem tr_len (h : Own w0 w (Tr g ss :: R)) : 1 ≤ ss.length ∧ ss.length ≤ 8 := by
  obtain ⟨b, ps, hf, _⟩ := tr_open h
  exact hf.2
end
end Go.Proofs.Ytglccegihffndaa.PTracePlays
