/- What Cut makes of a text. -/
import Derived.Test.YtdjcndcleaffkaaChkL
import Derived.Test.YtdjcndcleaffkaaPChunksPlaysx1
import Derived.Test.YtdjcndcleaffkaaPChunksPlaysx2
namespace Go.Proofs.Ytdjcndcleaffkaa.PChunksPlays
open Go.RowKit Go.Proofs.YtdjcndcleaffkaaW.PrintWords Go.Proofs.YtdjcndcleaffkaaW.PrintLast Go.Proofs.YtdjcndcleaffkaaW.PrintMore
open Go.Proofs.YtdjcndcleaffkaaO
attribute [local go_sem] max2_int min2_int max_two min_two max_three min_three max_four min_four
set_option linter.unusedVariables false
set_option linter.unusedSimpArgs false
theorem join_flat (xs : List ByteArray) : Lib.join (xs.map (·.data.toList)) ([] : List UInt8) = (xs.map (·.data.toList)).flatten := by
  cases xs with
  | nil => rfl
  | cons x xs =>
    rw [List.map_cons, Lib.join_cons, Lib.joinTail]
    simp
    rfl
/-- The text's pieces: all full but the last, which is not empty behind others. -/
def CutIs (s : ByteArray) (r : List ByteArray) : Prop := ∃ l z, r = l ++ [z] ∧ (∀ y ∈ l, y.size = 64) ∧ z.size ≤ 64 ∧ (l ≠ [] → 0 < z.size) ∧ (r.map (·.data.toList)).flatten = s.data.toList
theorem cut_split (x : ByteArray) (h : 64 < x.size) : (x.extract 0 64).size = 64 ∧ (x.extract 64 x.size).size = x.size - 64 ∧ (x.extract 0 64).data.toList ++ (x.extract 64 x.size).data.toList = x.data.toList := by
  refine ⟨by rw [ByteArray.size_extract]; omega, by rw [ByteArray.size_extract]; omega, ?_⟩
  rw [ByteArray.data_extract, ByteArray.data_extract, Array.toList_extract, Array.toList_extract]
  simp only [List.extract_eq_take_drop, List.drop_zero]
  have hl : x.data.toList.length = x.size := Array.length_toList
  rw [List.take_of_length_le (l := x.data.toList.drop 64) (by rw [List.length_drop, hl]; omega)]
  exact List.take_append_drop 64 _
theorem cut_go (s : ByteArray) : ∀ (k : Nat) (x : ByteArray) (l : List ByteArray), (l.map (·.data.toList)).flatten ++ x.data.toList = s.data.toList → (∀ y ∈ l, y.size = 64) → (l ≠ [] → 0 < x.size) → x.size ≤ 64 * k + 64 → l.length + k ≤ 1000 → ∃ r, chunks_Cut.l0 (k + 1) x l = some (r, 0) ∧ CutIs s r := by
  intro k
  induction k with
  | zero =>
    intro x l h1 h2 h3 h4 h5
    refine ⟨l ++ [x], ?_, l, x, rfl, h2, by omega, h3, ?_⟩
    · simp only [chunks_Cut.l0]
      rw [if_neg (by omega), if_pos (by omega)]
    · rw [List.map_append, List.flatten_append]
      simpa using h1
  | succ k ih =>
    intro x l h1 h2 h3 h4 h5
    by_cases hx : (x.size : Int) > 64
    · obtain ⟨c1, c2, c3⟩ := cut_split x (by omega)
      obtain ⟨r, hr, hc⟩ := ih (x.extract 64 x.size) (l ++ [x.extract 0 64]) (by
          rw [List.map_append, List.flatten_append]
          simp only [List.map_cons, List.map_nil, List.flatten_cons, List.flatten_nil, List.append_nil]
          rw [List.append_assoc, c3]
          exact h1) (fun y hy => by
          rcases List.mem_append.1 hy with hy | hy
          · exact h2 y hy
          · rw [List.mem_singleton] at hy
            rw [hy]; exact c1) (fun _ => by omega) (by omega) (by rw [List.length_append]; simp only [List.length_cons, List.length_nil]; omega)
      refine ⟨r, ?_, hc⟩
      rw [chunks_Cut.l0]
      rw [if_pos hx, if_pos (by omega), if_pos (by omega), if_pos (by omega)]
      exact hr
    · refine ⟨l ++ [x], ?_, l, x, rfl, h2, by omega, h3, ?_⟩
      · rw [chunks_Cut.l0]
        rw [if_neg hx, if_pos (by omega)]
      · rw [List.map_append, List.flatten_append]
        simpa using h1
theorem cut_f (s : ByteArray) (h : s.size ≤ 32768) : ∃ r, chunks_Cut.f 513 s = some (r, 0) ∧ CutIs s r := by
  unfold chunks_Cut.f
  rw [if_neg (by omega)]
  exact cut_go s 512 s [] (by simp) (by simp) (by simp) (by omega) (by simp)
theorem cut_long (s : ByteArray) (h : 32768 < s.size) : chunks_Cut.f 513 s = some ([], 3) := by
  unfold chunks_Cut.f
  rw [if_pos (by omega)]
theorem CutIs.join {s : ByteArray} {r : List ByteArray} (h : CutIs s r) : joinB r = s := by
  obtain ⟨l, z, rfl, _, _, _, h5⟩ := h
  apply ByteArray.ext
  apply Array.toList_inj.1
  rw [joinB, ← h5]
  exact join_flat _
theorem CutIs.at_ {s : ByteArray} {r : List ByteArray} (h : CutIs s r) (i : Nat) (hi : i < r.length) : r[i].size ≤ 64 ∧ (i + 1 < r.length → r[i].size = 64) ∧ (1 < r.length → 0 < r[i].size) := by
  obtain ⟨l, z, rfl, h2, h3, h4, _⟩ := h
  rw [List.length_append] at hi ⊢
  simp only [List.length_cons, List.length_nil] at hi ⊢
  by_cases q : i < l.length
  · rw [List.getElem_append_left q]
    have := h2 _ (List.getElem_mem q)
    omega
  · rw [List.getElem_append_right (by omega)]
    have e : (([z] : List ByteArray)[i - l.length]'(by simp; omega)) = z := by simp
    rw [e]
    refine ⟨h3, fun _ => by omega, fun q2 => h4 (fun e => by rw [e] at q2; simp at q2)⟩
theorem CutIs.len {s : ByteArray} {r : List ByteArray} (h : CutIs s r) : 1 ≤ r.length ∧ (r.length = 1 ∨ 64 * (r.length - 1) < s.size) := by
  obtain ⟨l, z, rfl, h2, h3, h4, h5⟩ := h
  have e : ∀ l : List ByteArray, (∀ y ∈ l, y.size = 64) → ((l.map (·.data.toList)).flatten).length = 64 * l.length := by
    intro l
    induction l with
    | nil => intro _; rfl
    | cons y l ih =>
      intro hl
      rw [List.map_cons, List.flatten_cons, List.length_append, ih fun y hy => hl y (List.mem_cons_of_mem _ hy)]
      have h1 := hl y (List.mem_cons_self ..)
      have h2 : y.data.toList.length = y.size := Array.length_toList
      simp only [List.length_cons]
      omega
  have h6 := congrArg List.length h5
  rw [List.map_append, List.flatten_append, List.length_append, e l h2] at h6
  have h7 : z.data.toList.length = z.size := Array.length_toList
  have h8 : s.data.toList.length = s.size := Array.length_toList
  simp at h6
  rw [List.length_append]
  simp only [List.length_cons, List.length_nil]
  refine ⟨by omega, ?_⟩
  cases l with
  | nil => exact .inl rfl
  | cons y l =>
    have := h4 (by simp)
    simp only [List.length_cons] at h6 ⊢
    have h9 : z.data.size = z.size := rfl
    have h10 : s.data.size = s.size := rfl
    omega
end Go.Proofs.Ytdjcndcleaffkaa.PChunksPlays
