/- Pieces that came (package chunks): their words; New, may. -/
import Derived.Test.YtdjcndcleaffkaaAck5
import Derived.Lib.SmallJoins
namespace Go.Proofs.Ytdjcndcleaffkaa.PChunksPlays
open Go.RowKit Go.Proofs.YtdjcndcleaffkaaW.PrintWords Go.Proofs.YtdjcndcleaffkaaW.PrintLast Go.Proofs.YtdjcndcleaffkaaW.PrintMore
open Go.Proofs.YtdjcndcleaffkaaO
attribute [local go_sem] max2_int min2_int max_two min_two max_three min_three max_four min_four
set_option linter.unusedVariables false
set_option linter.unusedSimpArgs false
/-- Whether a piece can be of a number. -/
def mayB (n count : Int) (d : ByteArray) : Bool := decide (1 ≤ count ∧ count ≤ 512 ∧ 1 ≤ n ∧ n ≤ count ∧ (n < count → d.size = 64) ∧ (n = count → d.size ≤ 64 ∧ (count = 1 ∨ d.size ≠ 0)))
/-- No pieces yet. -/
def RowsN (g : Nat) : Asn := Blk g (.cells #[.slice none 0 0, .pointer none] 58 (0, 0))
/-- Pieces that came: their texts by number, the numbers in their order of arrival. -/
def RowsS (g : Nat) (xs : List ByteArray) (L : List Int) : Asn := ex fun v : Value => ex fun ga : Nat => fact (1 ≤ xs.length ∧ xs.length ≤ 512 ∧ (∀ x ∈ L, x ≤ (xs.length : Int)) ∧ ∀ x ∈ xs, x.size ≤ 64) (star (Blk g (.cells #[v, .pointer (some ⟨ga, 0, none⟩)] 58 (0, 0))) (star (Row Kd.string 9 v xs) (Acks ga L)))
section
variable {w0 w w' : World} {R : List Asn} {g : Nat} {xs : List ByteArray} {L : List Int}
theorem rows_open (h : Own w0 w (RowsS g xs L :: R)) : ∃ (A : Option Addr) (c ga : Nat), (1 ≤ xs.length ∧ xs.length ≤ 512 ∧ (∀ x ∈ L, x ≤ (xs.length : Int)) ∧ ∀ x ∈ xs, x.size ≤ 64) ∧ xs.length ≤ c ∧ Own w0 w (Blk g (.cells #[.slice A xs.length c, .pointer (some ⟨ga, 0, none⟩)] 58 (0, 0)) :: Row Kd.string 9 (.slice A xs.length c) xs :: Acks ga L :: R) := by
  obtain ⟨v, h⟩ := Own.ex_out h
  obtain ⟨ga, h⟩ := Own.ex_out h
  obtain ⟨hf, h⟩ := Own.fact_out h
  have h := (Own.split (Own.split h).r1)
  obtain ⟨A, c, rfl, hc, _⟩ := h.row_reads
  exact ⟨A, c, ga, hf, hc, h.r2⟩
theorem rows_shut {v : Value} {ga : Nat} (hf : 1 ≤ xs.length ∧ xs.length ≤ 512 ∧ (∀ x ∈ L, x ≤ (xs.length : Int)) ∧ ∀ x ∈ xs, x.size ≤ 64) (h : Own w0 w (Blk g (.cells #[v, .pointer (some ⟨ga, 0, none⟩)] 58 (0, 0)) :: Row Kd.string 9 v xs :: Acks ga L :: R)) : Own w0 w (RowsS g xs L :: R) :=
  .ex_in v (.ex_in ga (.fact_in hf (.join (Own.r1 (.join h.r2.r2)))))
theorem _root_.Go.Proofs.YtdjcndcleaffkaaO.Own.row_form {α : Type} {d : Kd α} {e : Nat} {v : Value} {ys : List α} (h : Own w0 w (Row d e v ys :: R)) (hp : 0 < ys.length) : ∃ b c, v = .slice (some ⟨b, 0, none⟩) ys.length c := by
  obtain ⟨F, hr, _⟩ := h.row_out
  obtain ⟨inner, hi⟩ := Kd.R_own hr
  exact Go.Joins.ownsRow_form hi hp
theorem _root_.Go.Proofs.YtdjcndcleaffkaaO.Own.rowput {α : Type} {enc : α → Value} {h1 : ∀ x, (enc x).oneCell' = true} {e b n cap : Nat} {ys : List α} (h : Own w0 w (Row (Kd.scalar enc h1) e (.slice (some ⟨b, 0, none⟩) n cap) ys :: R)) (i : Int) (x : α) : Own w0 (w.setCell ⟨b, i.toNat, none⟩ (enc x)) (Row (Kd.scalar enc h1) e (.slice (some ⟨b, 0, none⟩) n cap) (ys.set i.toNat x) :: R) := by
  have hbel := h.bel
  refine h.row_step fun F hF hb => ?_
  have hFb : F b := hF.1 b (by simp [Value.ownBlock])
  exact ⟨hbel.setCell (hb b hFb).1 _, Nat.le_of_eq (by simp), fun k _ hn => Below.heap_setCell w _ _ k (fun e => hn (e ▸ hFb)), F, Kd.R_putn hF i x, fun k hk => .inl hk⟩
theorem _root_.Go.Proofs.YtdjcndcleaffkaaO.Own.made (h : Own w0 w R) (e m : Nat) (hm : m ≤ 9223372036854775807) : Own w0 (w.alloc (.cells (madeCells #[Value.string ⟨#[]⟩] m) e)) (Row Kd.string e (.slice (some ⟨w.heap.size, 0, none⟩) m m) (List.replicate m ⟨#[]⟩) :: R) :=
  h.row_new (ok := fun k => k = w.heap.size) (below_alloc (Below.refl _ _) _) (Kd.R_of_own (own_made_of' (enc := Value.string) (d := ⟨#[]⟩) w w.heap.size e m (Nat.le_refl _) hm) fun k hk => by simpa [Value.ownBlock] using hk.symm)
end
end Go.Proofs.Ytdjcndcleaffkaa.PChunksPlays
