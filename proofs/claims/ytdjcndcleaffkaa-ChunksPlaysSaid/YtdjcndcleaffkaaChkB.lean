/- Pieces of a text that are put in whatever order: plain words; rows of truths. -/
import Derived.Test.YtdjcndcleaffkaaChkK
namespace Go.Proofs.Ytdjcndcleaffkaa.PChunksPlays
open Go.RowKit Go.Proofs.YtdjcndcleaffkaaW.PrintWords Go.Proofs.YtdjcndcleaffkaaW.PrintLast Go.Proofs.YtdjcndcleaffkaaW.PrintMore
open Go.Proofs.YtdjcndcleaffkaaO
attribute [local go_sem] max2_int min2_int max_two min_two max_three min_three max_four min_four
set_option linter.unusedVariables false
set_option linter.unusedSimpArgs false
/-- What came of the pieces c: B says which. -/
def BackInv (c : List ByteArray) (st : Option (List ByteArray × List Int)) (B : List Bool) : Prop :=
  B.length = c.length ∧ ((st = none ∧ ∀ j, j < c.length → B[j]? = some false) ∨ ∃ xs L, st = some (xs, L) ∧ xs.length = c.length ∧ (∀ x ∈ L, 1 ≤ x ∧ x ≤ (c.length : Int)) ∧ ∀ j, j < c.length → (((j : Int) + 1) ∈ L ↔ B[j]? = some true) ∧ (B[j]? = some true → xs[j]? = c[j]?))
theorem count_zero {B : List Bool} (h : B.count false = 0) (j : Nat) (hj : j < B.length) : B[j]? = some true := by
  rw [List.getElem?_eq_getElem hj]
  cases hb : B[j] with
  | true => rfl
  | false => exact absurd (List.getElem_mem hj) (by rw [hb]; exact fun q => absurd (List.count_pos_iff.2 q) (by omega))
theorem count_pos {B : List Bool} (h : B.count false ≠ 0) : ∃ j : Nat, B[j]? = some false := by
  obtain ⟨j, hj⟩ := List.getElem?_of_mem (List.count_pos_iff.1 (by omega : 0 < B.count false))
  exact ⟨j, hj⟩
theorem back_whole {c : List ByteArray} {s : ByteArray} {st : Option (List ByteArray × List Int)} {B : List Bool} (hc : CutIs s c) (h : BackInv c st B) : ∃ t, WholeIs st t (decide (B.count false = 0)) ∧ (B.count false = 0 → t = s) := by
  obtain ⟨hl, h⟩ := h
  have hn := hc.len.1
  rcases h with ⟨rfl, hB⟩ | ⟨xs, L, rfl, hx, hL, hB⟩
  · have h0 : B.count false ≠ 0 := fun q => by
      have := count_zero q 0 (by omega)
      rw [hB 0 (by omega)] at this
      cases this
    rw [decide_eq_false h0]
    exact ⟨_, ⟨rfl, rfl⟩, fun q => absurd q h0⟩
  · obtain ⟨low, hlow⟩ := low_ex L
    by_cases h0 : B.count false = 0
    · rw [decide_eq_true h0]
      have e : xs = c := List.ext_getElem? fun j => by
        by_cases hj : j < c.length
        · exact (hB j hj).2 (count_zero h0 j (by omega))
        · rw [List.getElem?_eq_none (by omega), List.getElem?_eq_none (by omega)]
      have hle : xs.length ≤ low := by
        rcases Nat.lt_or_ge low xs.length with q | q
        · exact absurd ((hB low (by omega)).1.2 (count_zero h0 low (by omega))) hlow.2
        · exact q
      refine ⟨joinB xs, ⟨low, hlow, .inl ⟨hle, rfl, rfl⟩⟩, fun _ => ?_⟩
      rw [e]
      exact hc.join
    · rw [decide_eq_false h0]
      obtain ⟨j, hj⟩ := count_pos h0
      have hjl : j < c.length := by have := (List.getElem?_eq_some_iff.1 hj).1; omega
      have hno : ((j : Int) + 1) ∉ L := fun q => by
        have := (hB j hjl).1.1 q
        rw [hj] at this
        cases this
      have hlt : low < xs.length := by
        rcases Nat.lt_or_ge low xs.length with q | q
        · exact q
        · exact absurd (hlow.1 ((j : Int) + 1) (by omega) (by omega)) hno
      exact ⟨_, ⟨low, hlow, .inr ⟨hlt, rfl, rfl⟩⟩, fun q => absurd q h0⟩
theorem back_put {c : List ByteArray} {s : ByteArray} {st : Option (List ByteArray × List Int)} {B : List Bool} (hc : CutIs s c) (hn : c.length ≤ 512) (h : BackInv c st B) (k : Nat) (d : ByteArray) (b : Bool) (hd : c[k]? = some d) (hb : B[k]? = some b) : ∃ st', putR st ((k : Int) + 1) (c.length : Int) d = (!b, 0, st') ∧ BackInv c st' (B.set k true) := by
  obtain ⟨hl, h⟩ := h
  have hk := (List.getElem?_eq_some_iff.1 hd).1
  have hdk : c[k] = d := (List.getElem?_eq_some_iff.1 hd).2
  have hat := hc.at_ k hk
  rw [hdk] at hat
  have hm : mayB ((k : Int) + 1) (c.length : Int) d = true := decide_eq_true ⟨by omega, by omega, by omega, by omega, fun q => hat.2.1 (by omega), fun q => ⟨hat.1, by
    by_cases h1 : c.length = 1
    · exact .inl (by omega)
    · exact .inr (by have := hat.2.2 (by omega); omega)⟩⟩
  have e1 : ((k : Int) + 1 - 1).toNat = k := by omega
  have e2 : ((c.length : Nat) : Int).toNat = c.length := Int.toNat_natCast _
  have hBset : ∀ j, (B.set k true)[j]? = if j = k then (if k < B.length then some true else none) else B[j]? := fun j => by
    rw [List.getElem?_set]
    by_cases q : k = j
    · rw [if_pos q, if_pos q.symm]
    · rw [if_neg q, if_neg (Ne.symm q)]
  rcases h with ⟨rfl, hB⟩ | ⟨xs, L, rfl, hx, hL, hB⟩
  · have hbf : b = false := by rw [hB k hk] at hb; exact (Option.some.inj hb).symm
    subst hbf
    refine ⟨some ((List.replicate c.length ⟨#[]⟩).set k d, [(k : Int) + 1]), ?_, by rw [List.length_set]; exact hl, .inr ⟨_, _, rfl, by rw [List.length_set, List.length_replicate], fun x hx => by rw [List.mem_singleton.1 hx]; omega, fun j hj => ?_⟩⟩
    · unfold putR
      rw [if_neg (by rw [hm]; decide), e1, e2]
      rfl
    · rw [hBset, List.mem_singleton]
      by_cases q : j = k
      · subst q
        rw [if_pos rfl, if_pos (by omega)]
        exact ⟨⟨fun _ => rfl, fun _ => rfl⟩, fun _ => by rw [List.getElem?_set_self (by rw [List.length_replicate]; exact hj), hd]⟩
      · rw [if_neg q, hB j hj]
        exact ⟨⟨fun z => absurd z (by omega), fun z => by cases z⟩, fun z => by cases z⟩
  · have hkB := hB k hk
    have hfr : freshB L ((k : Int) + 1) = !b := by
      unfold freshB
      cases b with
      | true => exact decide_eq_false fun z => z.2.2 (hkB.1.2 hb)
      | false => exact decide_eq_true ⟨by omega, by omega, fun z => by have := hkB.1.1 z; rw [hb] at this; cases this⟩
    refine ⟨some (xs.set k d, addL L ((k : Int) + 1)), ?_, by rw [List.length_set]; exact hl, .inr ⟨_, _, rfl, by rw [List.length_set]; exact hx, fun x hx2 => ?_, fun j hj => ?_⟩⟩
    · unfold putR
      rw [if_neg (by rw [hm]; decide)]
      show (if _ then _ else _) = _
      rw [e1, e2, hfr, if_neg]
      rintro (z | ⟨z1, z2⟩)
      · exact z hx
      · exact z2 ((hkB.2 (hkB.1.1 z1)).trans hd)
    · rcases (addL_mem L ((k : Int) + 1) x).1 hx2 with q | q
      · exact hL x q
      · omega
    · rw [hBset, addL_mem]
      by_cases q : j = k
      · subst q
        rw [if_pos rfl, if_pos (by omega)]
        exact ⟨⟨fun _ => rfl, fun _ => .inr ⟨rfl, by omega, by omega⟩⟩, fun _ => by rw [List.getElem?_set_self (by omega), hd]⟩
      · rw [if_neg q]
        refine ⟨⟨fun z => z.elim (hB j hj).1.1 fun z => absurd z.1 (by omega), fun z => .inl ((hB j hj).1.2 z)⟩, fun z => ?_⟩
        rw [List.getElem?_set_ne (Ne.symm q)]
        exact (hB j hj).2 z
theorem count_set {B : List Bool} {k : Nat} {b : Bool} (hb : B[k]? = some b) : (B.set k true).count false = if b = true then B.count false else B.count false - 1 := by
  have hk := (List.getElem?_eq_some_iff.1 hb).1
  have hbk : B[k] = b := (List.getElem?_eq_some_iff.1 hb).2
  rw [List.count_set hk, hbk]
  cases b <;> simp
/-- All came: what Acks tells. -/
theorem back_acks {c : List ByteArray} {st : Option (List ByteArray × List Int)} {B : List Bool} (hn : 1 ≤ c.length) (h : BackInv c st B) (h0 : B.count false = 0) : AcksIs st c.length [] := by
  obtain ⟨hl, h⟩ := h
  rcases h with ⟨rfl, hB⟩ | ⟨xs, L, rfl, hx, hL, hB⟩
  · have := count_zero h0 0 (by omega)
    rw [hB 0 (by omega)] at this
    cases this
  · refine ⟨⟨fun i h1 h2 => ?_, fun q => by have := hL _ q; omega⟩, List.Pairwise.nil, fun x => ⟨fun q => (nomatch q), fun q => by have := hL x q.1; omega⟩⟩
    have := (hB (i - 1).toNat (by omega)).1.2 (count_zero h0 _ (by omega))
    rwa [show (((i - 1).toNat : Nat) : Int) + 1 = i by omega] at this
section
variable {w0 w w' : World} {R : List Asn}
theorem bool_cell {e : Nat} {b n c : Nat} {l : List Bool} (h : Own w0 w (Row Kd.bool e (.slice (some ⟨b, 0, none⟩) n c) l :: R)) (j : Nat) (x : Bool) (hx : l[j]? = some x) : w.cell? ⟨b, j, none⟩ = some (.bool x) ∧ w.frozen? ⟨b, j, none⟩ = false := by
  constructor
  · obtain ⟨A, c', e', _, hC⟩ := h.row_reads
    cases e'
    obtain ⟨hjl, rfl⟩ := List.getElem?_eq_some_iff.1 hx
    obtain ⟨ad, c9, e, hK, h7, hc9⟩ := Kd.C_get hC false (j : Int) (by omega) (by omega)
    cases e
    have hrd : c9 = [.bool (l.getD ((j : Int)).toNat false)] := h7
    subst hrd
    have := hc9 0 _ rfl
    rw [Int.toNat_natCast, List.getD_eq_getElem?_getD, hx] at this
    have e2 : j * (Kd.bool).sz + 0 = j := by show j * 1 + 0 = j; omega
    rw [e2, add_one] at this
    exact this
  · obtain ⟨F, hr, _⟩ := h.row_out
    obtain ⟨inner, ho⟩ := Kd.R_own hr
    rcases ho.2 with ⟨h', _⟩ | ⟨g', cap', cur, h', _, hh, _⟩
    · cases h'
    · cases h'
      exact blk_frozen hh j
theorem bool_put {e b n cap : Nat} {ys : List Bool} (h : Own w0 w (Row Kd.bool e (.slice (some ⟨b, 0, none⟩) n cap) ys :: R)) (i : Nat) (x : Bool) : Own w0 (w.setCell ⟨b, i, none⟩ (.bool x)) (Row Kd.bool e (.slice (some ⟨b, 0, none⟩) n cap) (ys.set i x) :: R) := by
  have := Own.rowput (enc := Value.bool) h (i : Int) x
  rwa [Int.toNat_natCast] at this
theorem bool_made (h : Own w0 w R) (e m : Nat) (hm : m ≤ 9223372036854775807) : Own w0 (w.alloc (.cells (madeCells #[Value.bool false] m) e)) (Row Kd.bool e (.slice (some ⟨w.heap.size, 0, none⟩) m m) (List.replicate m false) :: R) :=
  h.row_new (ok := fun k => k = w.heap.size) (below_alloc (Below.refl _ _) _) (Kd.R_of_own (own_made_of' (enc := Value.bool) (d := false) w w.heap.size e m (Nat.le_refl _) hm) fun k hk => by simpa [Value.ownBlock] using hk.symm)
theorem u16_at {w : World} {A : Option Addr} {l : List Int} (hC : Kd.C (Kd.int .u16) w A l.length l) (j : Nat) (x : Int) (h : l[j]? = some x) : ∃ ad, A = some ad ∧ w.cell? (ad.add j) = some (.int .u16 x) := by
  obtain ⟨hjl, rfl⟩ := List.getElem?_eq_some_iff.1 h
  obtain ⟨ad, c9, e, hK, h7, hc9⟩ := Kd.C_get hC 0 (j : Int) (by omega) (by omega)
  have hrd : c9 = [.int .u16 (l.getD ((j : Int)).toNat 0)] := h7
  subst hrd
  have := hc9 0 _ rfl
  rw [Int.toNat_natCast, List.getD_eq_getElem?_getD, h] at this
  have e2 : j * (Kd.int .u16).sz + 0 = j := by show j * 1 + 0 = j; omega
  rw [e2] at this
  exact ⟨ad, e, this⟩
theorem sames_go (a : List ByteArray) (hb : a.length ≤ 9223372036854775000) : ∀ d k : Nat, k + d = a.length → meterlaw16_same.l0 (d + 1) a a k = some true
  | 0, k, h => by
    simp only [meterlaw16_same.l0]
    rw [if_neg (by omega)]
  | d + 1, k, h => by
    rw [meterlaw16_same.l0]
    rw [if_pos (by omega), if_pos (by omega), if_pos (by omega), if_pos rfl, show wrap64 ((k : Int) + 1) = ((k + 1 : Nat) : Int) by unfold wrap64; omega]
    exact sames_go a hb d (k + 1) (by omega)
theorem row_CS {A : Option Addr} {c n : Nat} {l : List ByteArray} {e : TypeId} (h : Own w0 w (Row Kd.string e (.slice A n c) l :: R)) : Kd.C Kd.string w A l.length l ∧ l.length ≤ c := by
  obtain ⟨A', c', e', h1, h2⟩ := h.row_reads
  cases e'
  exact ⟨h2, h1⟩
theorem sames {A0 A1 : Option Addr} {c0 c1 : Nat} (a : List ByteArray) (hb : a.length ≤ 100000000) (h0 : Kd.C Kd.string w A0 a.length a ∧ a.length ≤ c0) (h1 : Kd.C Kd.string w A1 a.length a ∧ a.length ≤ c1) :
    Calls Try.prog 17 #[.slice A0 a.length c0, .slice A1 a.length c1] w fun e w' => e = .returned (.bool true) ∧ Drawn0 w w' :=
  meterlaw16_same.calls (a.length + 1) A0 c0 a A1 c1 a true w h0.1 h0.2 h1.1 h1.2 (by unfold meterlaw16_same.f; rw [if_pos rfl]; exact sames_go a (by omega) a.length 0 (by omega))
end
end Go.Proofs.Ytdjcndcleaffkaa.PChunksPlays
