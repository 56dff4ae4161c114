/- What the laws' guards let in; an element of the argument's list, read in whatever world. -/
import Derived.Test.YtjlcggjghlmiaaaPackL2
import Derived.Test.YtjlcggjghlmiaaaQ
namespace Go.Proofs.Ytjlcggjghlmiaaa.PPackWrites
open Go.RowKit Go.Proofs.YtjlcggjghlmiaaaW.PrintWords Go.Proofs.YtjlcggjghlmiaaaW.PrintLast Go.Proofs.YtjlcggjghlmiaaaW.PrintMore
open Go.Proofs.YtjlcggjghlmiaaaO
attribute [local go_sem] max2_int min2_int max_two min_two max_three min_three max_four min_four
set_option linter.unusedVariables false
set_option linter.unusedSimpArgs false
def tot (l : List S38) : Nat := (l.map fun x => min x.f3.size 60001).sum
theorem tot_snoc (l : List S38) (k : Nat) (h : k < l.length) : tot (l.take (k + 1)) = tot (l.take k) + min l[k].f3.size 60001 := by
  unfold tot
  rw [List.take_succ_eq_append_getElem h, List.map_append, List.sum_append]
  simp
theorem tot_take (l : List S38) (k : Nat) : tot (l.take k) ≤ tot l := by
  unfold tot
  conv => rhs; rw [← List.take_append_drop k l, List.map_append, List.sum_append]
  omega
theorem great_go (l : List S38) : ∀ (d k : Nat), k + d = min l.length 501 → ∃ r, meterlaw02_Great.l0 (d + 1) l (tot (l.take k)) k = some r ∧ (r = false → l.length ≤ 500 ∧ tot l ≤ 60000)
  | 0, k, h => by
    simp only [meterlaw02_Great.l0]
    by_cases h5 : 500 < l.length
    · refine ⟨true, ?_, fun h => by cases h⟩
      by_cases h6 : k < l.length
      · rw [if_pos (show ((k : Nat) : Int) < (l.length : Int) by omega), if_neg (show ¬ ((k : Nat) : Int) ≤ 500 by omega), if_pos (show (l.length : Int) > 500 by omega)]
      · rw [if_neg (show ¬ ((k : Nat) : Int) < (l.length : Int) by omega), if_pos (show (l.length : Int) > 500 by omega)]
    · rw [if_neg (show ¬ ((k : Nat) : Int) < (l.length : Int) by omega), if_neg (show ¬ (l.length : Int) > 500 by omega)]
      refine ⟨_, rfl, fun h2 => ⟨by omega, ?_⟩⟩
      have h3 := of_decide_eq_false h2
      rw [List.take_of_length_le (by omega)] at h3
      omega
  | d + 1, k, h => by
    have hk : k < l.length := by omega
    have hle : tot (l.take k) ≤ 60001 * k := by
      clear h hk
      induction k with
      | zero => simp [tot]
      | succ k ih =>
        by_cases hk : k < l.length
        · rw [tot_snoc l k hk]
          have := Nat.min_le_right l[k].f3.size 60001
          omega
        · rw [List.take_of_length_le (by omega)] at ih ⊢
          omega
    obtain ⟨r, h1, h2⟩ := great_go l d (k + 1) (by omega)
    refine ⟨r, ?_, h2⟩
    simp only [meterlaw02_Great.l0]
    rw [if_pos (show ((k : Nat) : Int) < (l.length : Int) by omega), if_pos (show ((k : Nat) : Int) ≤ 500 by omega), if_pos (show 0 ≤ ((k : Nat) : Int) by omega)]
    have e1 : wrap64 (((tot (l.take k) : Nat) : Int) + mn (((rd_T38 l (k : Int)).f3).size : Int) 60001) = ((tot (l.take (k + 1)) : Nat) : Int) := by
      have hr : rd_T38 l (k : Int) = l[k] := by unfold rd_T38; rw [Int.toNat_natCast, List.getD_eq_getElem?_getD, List.getElem?_eq_getElem hk]; rfl
      rw [hr, tot_snoc l k hk]
      have hm := Nat.min_le_right l[k].f3.size 60001
      have hmn : mn ((l[k].f3.size : Nat) : Int) 60001 = ((min l[k].f3.size 60001 : Nat) : Int) := by unfold mn; split <;> omega
      rw [hmn]
      unfold wrap64
      omega
    have e2 : wrap64 ((k : Int) + 1) = ((k + 1 : Nat) : Int) := by unfold wrap64; omega
    rw [e1, e2]
    exact h1
theorem great_f (l : List S38) : ∃ r, meterlaw02_Great.f 502 l = some r ∧ (r = false → l.length ≤ 500 ∧ tot l ≤ 60000) := by
  obtain ⟨r, h1, h2⟩ := great_go l (min l.length 501) 0 (by omega)
  refine ⟨r, ?_, h2⟩
  unfold meterlaw02_Great.f
  have h3 : meterlaw02_Great.l0 (min l.length 501 + 1) l 0 0 = some r := by
    have h4 := h1
    rw [List.take_zero] at h4
    exact h4
  exact at_rounds (g := fun k => meterlaw02_Great.l0 k l 0 0) (fun k => meterlaw02_Great.mono_l k _ _ _) (show min l.length 501 + 1 ≤ 502 by omega) h3
/-- All parts' bytes. -/
def allB (l : List S38) : List Int := l.flatMap partB
theorem allB_snoc (l : List S38) (k : Nat) (h : k < l.length) : allB (l.take (k + 1)) = allB (l.take k) ++ partB l[k] := by
  unfold allB
  rw [List.take_succ_eq_append_getElem h, List.flatMap_append]
  simp
theorem partB_len (x : S38) (hx : PartOk x) (hs : x.f3.size < 2 ^ 64) : (partB x).length ≤ 10 + x.f3.size := by
  unfold partB
  have h1 := (numB_len x.f1.toNat 10 (pow10 _ (by have := hx.n0; have := hx.n1; omega))).2
  have h2 := (numB_len (zigN x.f2) 10 (pow10 _ (zigN_lt _ hx.i0 hx.i1))).2
  have h3 := (numB_len x.f3.size 10 (pow10 _ hs)).2
  split
  · omega
  split
  · omega
  split
  · rw [List.length_append, bytesOf_length]
    omega
  split
  · simp; omega
  · simp
theorem tot_mem {l : List S38} (h : tot l ≤ 60000) (k : Nat) (hk : k < l.length) : l[k].f3.size ≤ 60000 := by
  have h1 := tot_snoc l k hk
  have h2 := tot_take l (k + 1)
  omega
theorem allB_len (l : List S38) (hx : ∀ x ∈ l, PartOk x) (ht : tot l ≤ 60000) : ∀ k, k ≤ l.length → (allB (l.take k)).length ≤ 10 * k + tot (l.take k)
  | 0, _ => by simp [allB]
  | k + 1, h => by
    have ih := allB_len l hx ht k (by omega)
    have hm := tot_mem ht k (by omega)
    have hp := partB_len l[k] (hx _ (List.getElem_mem _)) (by omega)
    rw [allB_snoc l k (by omega), tot_snoc l k (by omega), List.length_append]
    omega
theorem allB_max (l : List S38) (hx : ∀ x ∈ l, PartOk x) (h5 : l.length ≤ 500) (ht : tot l ≤ 60000) (k : Nat) : (allB (l.take k)).length ≤ 65000 := by
  by_cases h : k ≤ l.length
  · have := allB_len l hx ht k h
    have := tot_take l k
    omega
  · rw [List.take_of_length_le (by omega)]
    have := allB_len l hx ht l.length (Nat.le_refl _)
    rw [List.take_length] at this
    omega
/-- An element, in whatever world that has come of the first one. -/
theorem elem_at {w v : World} {ad : Addr} {n : Nat} {l : List S38} (hr : Kd.C k38 w (some ad) n l) (hb : Below w.heap.size w v) (k : Nat) (hk : k < n) (f0 f1 f2 : Int) (f3 : ByteArray) (f4 f5 : Int) (hx : l[k]? = some ⟨f0, f1, f2, f3, f4, f5⟩) :
    v.cell? (ad.add (k * 6)) = some (.int .i64 f0) ∧ v.cell? ⟨(ad.add (k * 6)).block, (ad.add (k * 6)).off + 1, none⟩ = some (.int .u64 f1) ∧ v.cell? ⟨(ad.add (k * 6)).block, (ad.add (k * 6)).off + 2, none⟩ = some (.int .i64 f2) ∧ v.cell? ⟨(ad.add (k * 6)).block, (ad.add (k * 6)).off + 3, none⟩ = some (.string f3) ∧ v.cell? ⟨(ad.add (k * 6)).block, (ad.add (k * 6)).off + 4, none⟩ = some (.int .u8 f4) ∧ v.cell? ⟨(ad.add (k * 6)).block, (ad.add (k * 6)).off + 5, none⟩ = some (.int .i64 f5) := by
  obtain ⟨ad', e, h0, h1, h2, h3, h4, h5⟩ := at_T38 hr (k : Int) (by omega) (by omega)
  cases e
  have hrd : rd_T38 l (k : Int) = ⟨f0, f1, f2, f3, f4, f5⟩ := by unfold rd_T38; rw [Int.toNat_natCast, List.getD_eq_getElem?_getD, hx]; rfl
  rw [hrd, Int.toNat_natCast] at h0 h1 h2 h3 h4 h5
  have hlt : (ad.add (k * 6)).block < w.heap.size := World.block_lt_of_cell? w _ h0
  exact ⟨(hb.cell hlt).trans h0, (hb.cell (p := ⟨_, _, none⟩) hlt).trans h1, (hb.cell (p := ⟨_, _, none⟩) hlt).trans h2, (hb.cell (p := ⟨_, _, none⟩) hlt).trans h3, (hb.cell (p := ⟨_, _, none⟩) hlt).trans h4, (hb.cell (p := ⟨_, _, none⟩) hlt).trans h5⟩
theorem ok_of_Q (x : S38) (h : Q38 x) : PartOk x := by
  obtain ⟨h0, h1, h2, h3, h4, h5⟩ := h
  simp [Lit.wf, IntKind.min, IntKind.max, IntKind.signed, IntKind.bits] at h0 h1 h2 h4 h5
  exact ⟨by omega, by omega, by omega, by omega, by omega, by omega, by omega, by omega, by omega, by omega⟩
end Go.Proofs.Ytjlcggjghlmiaaa.PPackWrites
