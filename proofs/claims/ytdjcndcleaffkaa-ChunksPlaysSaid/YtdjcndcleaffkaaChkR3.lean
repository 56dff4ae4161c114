/- The document's own answer for a text's pieces. -/
import Derived.Test.YtdjcndcleaffkaaChkR2
namespace Go.Proofs.Ytdjcndcleaffkaa.PChunksPlays
open Go.RowKit Go.Proofs.YtdjcndcleaffkaaW.PrintWords Go.Proofs.YtdjcndcleaffkaaW.PrintLast Go.Proofs.YtdjcndcleaffkaaW.PrintMore
open Go.Proofs.YtdjcndcleaffkaaO
attribute [local go_sem] max2_int min2_int max_two min_two max_three min_three max_four min_four
set_option linter.unusedVariables false
set_option linter.unusedSimpArgs false
theorem ext_list (x : ByteArray) (a b : Nat) : (x.extract a b).data.toList = (x.data.toList.drop a).take (b - a) := by
  rw [ByteArray.data_extract, Array.toList_extract, List.extract_eq_take_drop]
theorem flat_uniq : ∀ (l1 l2 : List ByteArray) (z1 z2 : ByteArray), (∀ y ∈ l1, y.size = 64) → (∀ y ∈ l2, y.size = 64) → z1.size ≤ 64 → z2.size ≤ 64 → (l1 ≠ [] → 0 < z1.size) → (l2 ≠ [] → 0 < z2.size) → ((l1 ++ [z1]).map (·.data.toList)).flatten = ((l2 ++ [z2]).map (·.data.toList)).flatten → l1 ++ [z1] = l2 ++ [z2]
  | [], [], z1, z2, _, _, _, _, _, _, h => by
    have : z1 = z2 := bytes_eq (by simpa using h)
    rw [this]
  | [], y :: l2, z1, z2, _, h2, h3, _, _, h6, h => by
    have hl := congrArg List.length h
    have hy : y.data.toList.length = 64 := by rw [Array.length_toList]; exact h2 y (List.mem_cons_self ..)
    have hz1 : z1.data.toList.length = z1.size := Array.length_toList
    have hz2 : z2.data.toList.length = z2.size := Array.length_toList
    have := h6 (by simp)
    simp [hy] at hl
    have hz1' : z1.data.size = z1.size := rfl
    have hz2' : z2.data.size = z2.size := rfl
    have hy' : y.data.size = 64 := h2 y (List.mem_cons_self ..)
    omega
  | x :: l1, [], z1, z2, h1, _, _, h4, h5, _, h => by
    have hl := congrArg List.length h
    have := h5 (by simp)
    have hx : x.data.toList.length = 64 := by rw [Array.length_toList]; exact h1 x (List.mem_cons_self ..)
    simp [hx] at hl
    have hz1' : z1.data.size = z1.size := rfl
    have hz2' : z2.data.size = z2.size := rfl
    have hx' : x.data.size = 64 := h1 x (List.mem_cons_self ..)
    omega
  | x :: l1, y :: l2, z1, z2, h1, h2, h3, h4, h5, h6, h => by
    have hx : x.data.toList.length = 64 := by rw [Array.length_toList]; exact h1 x (List.mem_cons_self ..)
    have hy : y.data.toList.length = 64 := by rw [Array.length_toList]; exact h2 y (List.mem_cons_self ..)
    rw [List.cons_append, List.cons_append, List.map_cons, List.map_cons, List.flatten_cons, List.flatten_cons] at h
    obtain ⟨q1, q2⟩ := List.append_inj h (hx.trans hy.symm)
    rw [List.cons_append, List.cons_append, bytes_eq q1, flat_uniq l1 l2 z1 z2 (fun y hy => h1 y (List.mem_cons_of_mem _ hy)) (fun y hy => h2 y (List.mem_cons_of_mem _ hy)) h3 h4 (fun _ => h5 (by simp)) (fun _ => h6 (by simp)) q2]
theorem cut_uniq {s : ByteArray} {r1 r2 : List ByteArray} (h1 : CutIs s r1) (h2 : CutIs s r2) : r1 = r2 := by
  obtain ⟨l1, z1, rfl, a1, a2, a3, a4⟩ := h1
  obtain ⟨l2, z2, rfl, b1, b2, b3, b4⟩ := h2
  exact flat_uniq l1 l2 z1 z2 a1 b1 a2 b2 a3 b3 (a4.trans b4.symm)
theorem rcut_end {s : ByteArray} {x4 : List ByteArray} (hne : x4 ≠ []) (h1 : ∀ y ∈ x4, y.size = 64) (h2 : (x4.map (·.data.toList)).flatten = s.data.toList) : CutIs s x4 := by
  have e := List.dropLast_concat_getLast hne
  refine ⟨x4.dropLast, x4.getLast hne, e.symm, fun y hy => h1 y ((List.dropLast_prefix x4).subset hy), ?_, fun _ => ?_, h2⟩
  · rw [h1 _ (List.getLast_mem hne)]; exact Nat.le_refl _
  · rw [h1 _ (List.getLast_mem hne)]; decide
theorem rcut_go (s : ByteArray) (hs : s.size ≤ 32768) : ∀ (d j : Nat) (x4 : List ByteArray), x4.length = j → (∀ y ∈ x4, y.size = 64) → (x4.map (·.data.toList)).flatten = s.data.toList.take (64 * j) → 64 * j ≤ s.size → s.size ≤ 64 * j + 64 * d → ∃ r, meterref16_Cut.l0 (2 * d + 4) s x4 ((64 * j : Nat) : Int) = some (r, 0) ∧ CutIs s r := by
  intro d
  induction d with
  | zero =>
    intro j x4 hj h1 h2 h3 h4
    have hsl : s.data.toList.length = s.size := Array.length_toList
    by_cases h0 : j = 0
    · subst h0
      have hx : x4 = [] := List.length_eq_zero_iff.1 hj
      subst hx
      have hs0 : s.size = 0 := by omega
      simp only [meterref16_Cut.l0, Nat.mul_zero]
      rw [if_pos (by rfl)]
      simp only [meterref16_Cut.j1]
      rw [if_pos trivial, show wrap64 (((0 : Nat) : Int) + 64) = 64 by unfold wrap64; omega, if_pos (by omega), if_pos (by decide), if_pos (by omega), if_pos (by omega), if_pos (by decide)]
      simp only [meterref16_Cut.l0]
      rw [if_neg (by decide), show decide ((64 : Int) < (s.size : Int)) = false from decide_eq_false (by omega)]
      simp only [meterref16_Cut.j1]
      rw [if_neg (by decide)]
      refine ⟨_, rfl, [], _, rfl, fun y hy => (nomatch hy), ?_, fun q => absurd rfl q, ?_⟩
      · rw [ByteArray.size_extract]; omega
      · have e : s.data.toList = [] := List.length_eq_zero_iff.1 (by omega)
        simp [ext_list, e]
    · simp only [meterref16_Cut.l0]
      rw [if_neg (by omega), show decide (((64 * j : Nat) : Int) < (s.size : Int)) = false from decide_eq_false (by omega)]
      simp only [meterref16_Cut.j1]
      rw [if_neg (by decide)]
      refine ⟨x4, rfl, rcut_end (fun q => by rw [q] at hj; exact h0 hj.symm) h1 ?_⟩
      rw [h2, List.take_of_length_le (by omega)]
  | succ d ih =>
    intro j x4 hj h1 h2 h3 h4
    have hsl : s.data.toList.length = s.size := Array.length_toList
    by_cases hE : j ≠ 0 ∧ 64 * j = s.size
    · rw [show 2 * (d + 1) + 4 = (2 * d + 4) + 1 + 1 by omega]
      simp only [meterref16_Cut.l0]
      rw [if_neg (by omega), show decide (((64 * j : Nat) : Int) < (s.size : Int)) = false from decide_eq_false (by omega)]
      simp only [meterref16_Cut.j1]
      rw [if_neg (by decide)]
      refine ⟨x4, rfl, rcut_end (fun q => by rw [q] at hj; exact hE.1 hj.symm) h1 ?_⟩
      rw [h2, List.take_of_length_le (by omega)]
    · have hw : wrap64 (((64 * j : Nat) : Int) + 64) = ((64 * (j + 1) : Nat) : Int) := by unfold wrap64; omega
      rw [show 2 * (d + 1) + 4 = (2 * d + 4) + 1 + 1 by omega]
      have hl0 : meterref16_Cut.l0 (2 * d + 4 + 1 + 1) s x4 ((64 * j : Nat) : Int) = meterref16_Cut.j1 (2 * d + 4 + 1) s x4 ((64 * j : Nat) : Int) true := by
        simp only [meterref16_Cut.l0]
        by_cases h0 : j = 0
        · rw [if_pos (by omega)]
        · rw [if_neg (by omega), show decide (((64 * j : Nat) : Int) < (s.size : Int)) = true from decide_eq_true (by omega)]
      rw [hl0]
      simp only [meterref16_Cut.j1]
      rw [if_pos trivial, hw]
      by_cases hb : s.size < 64 * (j + 1)
      · rw [if_pos (by omega), if_pos (by omega), if_pos (by omega), if_pos (by omega), if_pos (by rw [hj]; omega)]
        rw [show 2 * d + 4 = (2 * d + 2) + 1 + 1 by omega]
        simp only [meterref16_Cut.l0]
        rw [if_neg (by omega), show decide (((64 * (j + 1) : Nat) : Int) < (s.size : Int)) = false from decide_eq_false (by omega)]
        simp only [meterref16_Cut.j1]
        rw [if_neg (by decide)]
        refine ⟨_, rfl, x4, _, rfl, h1, ?_, fun q => ?_, ?_⟩
        · rw [ByteArray.size_extract]; omega
        · have hj0 : j ≠ 0 := fun e => q (List.length_eq_zero_iff.1 (hj.trans e))
          rw [ByteArray.size_extract]
          omega
        · rw [List.map_append, List.flatten_append, h2]
          simp only [List.map_cons, List.map_nil, List.flatten_cons, List.flatten_nil, List.append_nil]
          rw [ext_list, Int.toNat_natCast, Int.toNat_natCast, List.take_of_length_le (l := s.data.toList.drop (64 * j)) (by rw [List.length_drop]; omega)]
          exact List.take_append_drop _ _
      · rw [if_neg (by omega), if_pos (by omega), if_pos (by omega), if_pos (by omega), if_pos (by rw [hj]; omega)]
        refine ih (j + 1) _ (by rw [List.length_append, List.length_singleton, hj]) (fun y hy => ?_) ?_ (by omega) (by omega)
        · rcases List.mem_append.1 hy with q | q
          · exact h1 y q
          · rw [List.mem_singleton.1 q, ByteArray.size_extract]; omega
        · rw [List.map_append, List.flatten_append, h2]
          simp only [List.map_cons, List.map_nil, List.flatten_cons, List.flatten_nil, List.append_nil]
          rw [ext_list, Int.toNat_natCast, Int.toNat_natCast, show 64 * (j + 1) - 64 * j = 64 by omega, show 64 * (j + 1) = 64 * j + 64 by omega, List.take_add]
/-- The program's pieces, and the document's. -/
theorem both_cuts (s : ByteArray) : ∃ c er, chunks_Cut.f 513 s = some (c, er) ∧ meterref16_Cut.f 1030 s = some (c, er) ∧ c.length ≤ 512 ∧ ∀ y ∈ c, y.size ≤ 64 := by
  by_cases h : s.size ≤ 32768
  · obtain ⟨r, a1, a2⟩ := cut_f s h
    obtain ⟨r2, b1, b2⟩ := rcut_go s h 513 0 [] rfl (fun y hy => (nomatch hy)) (by simp) (by omega) (by omega)
    have e := cut_uniq b2 a2
    subst e
    have hl := a2.len
    refine ⟨r2, 0, a1, ?_, by omega, fun y hy => ?_⟩
    · unfold meterref16_Cut.f
      rw [if_neg (by omega)]
      exact b1
    · obtain ⟨i, hi⟩ := List.getElem?_of_mem hy
      obtain ⟨hil, rfl⟩ := List.getElem?_eq_some_iff.1 hi
      exact (a2.at_ i hil).1
  · refine ⟨[], 3, cut_long s (by omega), ?_, by simp, by simp⟩
    unfold meterref16_Cut.f
    rw [if_pos (by omega)]
end Go.Proofs.Ytdjcndcleaffkaa.PChunksPlays
