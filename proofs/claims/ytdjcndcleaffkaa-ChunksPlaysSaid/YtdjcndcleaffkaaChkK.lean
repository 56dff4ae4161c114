/- The chapter's examples: how a long text of nothing is cut. -/
import Derived.Test.YtdjcndcleaffkaaChkW
namespace Go.Proofs.Ytdjcndcleaffkaa.PChunksPlays
open Go.RowKit Go.Proofs.YtdjcndcleaffkaaW.PrintWords Go.Proofs.YtdjcndcleaffkaaW.PrintLast Go.Proofs.YtdjcndcleaffkaaW.PrintMore
open Go.Proofs.YtdjcndcleaffkaaO
attribute [local go_sem] max2_int min2_int max_two min_two max_three min_three max_four min_four
set_option linter.unusedVariables false
set_option linter.unusedSimpArgs false
theorem take_list (x : ByteArray) (n : Nat) : (x.extract 0 n).data.toList = x.data.toList.take n := by
  rw [ByteArray.data_extract, Array.toList_extract, List.extract_eq_take_drop, List.drop_zero, Nat.sub_zero]
theorem bytes_eq {x y : ByteArray} (h : x.data.toList = y.data.toList) : x = y := ByteArray.ext (Array.toList_inj.1 h)
theorem cut_one {s : ByteArray} {r : List ByteArray} (h : CutIs s r) (hs : s.size ≤ 64) : r = [s] := by
  have hl := h.len
  obtain ⟨l, z, rfl, h2, h3, h4, h5⟩ := h
  have e : l = [] := List.length_eq_zero_iff.1 (by rw [List.length_append, List.length_singleton] at hl; omega)
  subst e
  rw [List.nil_append]
  congr 1
  apply bytes_eq
  simpa using h5
theorem sizes_le : ∀ (r : List ByteArray), (∀ y ∈ r, y.size ≤ 64) → ((r.map (·.data.toList)).flatten).length ≤ 64 * r.length
  | [], _ => by simp
  | y :: r, h => by
    have h1 := h y (List.mem_cons_self ..)
    have h2 := sizes_le r fun x hx => h x (List.mem_cons_of_mem _ hx)
    have h3 : y.data.toList.length = y.size := Array.length_toList
    rw [List.map_cons, List.flatten_cons, List.length_append, List.length_cons]
    omega
theorem CutIs.len2 {s : ByteArray} {r : List ByteArray} (h : CutIs s r) : s.size ≤ 64 * r.length := by
  obtain ⟨l, z, rfl, h2, h3, h4, h5⟩ := h
  have h6 := sizes_le (l ++ [z]) (fun y hy => by
    rcases List.mem_append.1 hy with q | q
    · rw [h2 y q]; exact Nat.le_refl _
    · rw [List.mem_singleton.1 q]; exact h3)
  rw [h5] at h6
  have h8 : s.data.toList.length = s.size := Array.length_toList
  omega
theorem one_zero {a : List UInt8} (hl : a.length = 1) (h : ∀ b ∈ a, b = 0) : a = [0] := by
  obtain ⟨b, rfl⟩ := List.length_eq_one_iff.1 hl
  rw [h b (List.mem_cons_self ..)]
theorem cut_two {Z : ByteArray} {r : List ByteArray} (hz : 65 ≤ Z.size) (h0 : ∀ b ∈ Z.data.toList, b = 0) (h : CutIs (Z.extract 0 65) r) : ∃ y, r = [y, Z.extract 0 1] := by
  have hl := h.len
  have hl2 := h.len2
  have hsz : (Z.extract 0 65).size = 65 := by rw [ByteArray.size_extract]; omega
  obtain ⟨l, z, rfl, h2, h3, h4, h5⟩ := h
  rw [List.length_append, List.length_singleton] at hl hl2
  obtain ⟨y, rfl⟩ : ∃ y, l = [y] := List.length_eq_one_iff.1 (by omega)
  refine ⟨y, ?_⟩
  show [y, z] = [y, Z.extract 0 1]
  congr 2
  apply bytes_eq
  have hy : y.data.toList.length = 64 := by rw [Array.length_toList]; exact h2 y (List.mem_cons_self ..)
  have h6 : y.data.toList ++ z.data.toList = Z.data.toList.take 65 := by rw [← take_list, ← h5]; simp
  have hzl : Z.data.toList.length = Z.size := Array.length_toList
  have h7 := congrArg List.length h6
  rw [List.length_append, List.length_take] at h7
  have h8 : z.data.toList = [0] := one_zero (by omega) fun b hb => h0 b (List.mem_of_mem_take (by rw [← h6]; exact List.mem_append_right _ hb))
  rw [h8, take_list]
  exact (one_zero (by rw [List.length_take]; omega) fun b hb => h0 b (List.mem_of_mem_take hb)).symm
theorem known_cuts (Z : ByteArray) (hz : Z.size = 32769) (h0 : ∀ b ∈ Z.data.toList, b = 0) : ∃ y rd, chunks_Cut.f 513 ⟨#[]⟩ = some ([⟨#[]⟩], 0) ∧ chunks_Cut.f 513 (Z.extract 0 64) = some ([Z.extract 0 64], 0) ∧ chunks_Cut.f 513 (Z.extract 0 65) = some ([y, Z.extract 0 1], 0) ∧ (chunks_Cut.f 513 (Z.extract 0 32768) = some (rd, 0) ∧ rd.length = 512) ∧ chunks_Cut.f 513 Z = some ([], 3) := by
  have sz : ∀ n, n ≤ 32769 → (Z.extract 0 n).size = n := fun n hn => by rw [ByteArray.size_extract]; omega
  obtain ⟨r1, a1, b1⟩ := cut_f ⟨#[]⟩ (by decide)
  obtain ⟨r2, a2, b2⟩ := cut_f (Z.extract 0 64) (by rw [sz 64 (by omega)]; omega)
  obtain ⟨r3, a3, b3⟩ := cut_f (Z.extract 0 65) (by rw [sz 65 (by omega)]; omega)
  obtain ⟨r4, a4, b4⟩ := cut_f (Z.extract 0 32768) (by rw [sz 32768 (by omega)]; omega)
  rw [cut_one b1 (by decide)] at a1
  rw [cut_one b2 (by rw [sz 64 (by omega)]; omega)] at a2
  obtain ⟨y, hy⟩ := cut_two (by omega) h0 b3
  rw [hy] at a3
  have hl := b4.len
  have hl2 := b4.len2
  rw [sz 32768 (by omega)] at hl hl2
  exact ⟨y, r4, a1, a2, a3, ⟨a4, by omega⟩, cut_long Z (by omega)⟩
theorem add_one (b n : Nat) : (⟨b, 0, none⟩ : Addr).add n = ⟨b, n, none⟩ := by unfold Addr.add; split <;> simp [*]
theorem _root_.Go.Proofs.YtdjcndcleaffkaaO.Own.litI {w0 w : World} {L : List Asn} (h : Own w0 w L) (k : IntKind) (e : TypeId) (xs : List Int) (hm : xs.length ≤ 9223372036854775807) (n : Nat) (hn : n = xs.length) (inner : Array Value) (hi : inner = (xs.map (.int k)).toArray) :
    Own w0 (w.alloc (.cells inner e)) (Row (Kd.int k) e (.slice (some ⟨w.heap.size, 0, none⟩) n n) xs :: L) := by
  subst hn
  subst hi
  refine h.row_new (ok := fun k => k = w.heap.size) (below_alloc (Below.refl _ _) _) ⟨fun k hk => ?_, xs.map (.int k), ?_, ?_, ?_⟩
  · have : w.heap.size = k := by simpa [Value.ownBlock] using hk
    exact this.symm
  · have h2 := World.ownsRow_lit (base := w.heap.size) (e := e) (size := 1) w (xs.map (.int k)).toArray xs.length (Nat.le_refl _) (by simpa [maxLen] using hm) (by simp)
    have h3 : (w.alloc (.cells (xs.map (.int k)).toArray e)).ownsRow w.heap.size e 1 (.slice (some ⟨w.heap.size, 0, none⟩) xs.length xs.length) xs.length (xs.map (.int k)) := by simpa using h2
    exact h3
  · show _ = xs.length * 1
    simp
  · intro j p hp
    show ((xs.map (Value.int k)).drop (j * 1)).take 1 = [.int k p]
    rw [Nat.mul_one, List.drop_eq_getElem_cons (by simpa using (List.getElem?_eq_some_iff.1 hp).1)]
    simp [(List.getElem?_eq_some_iff.1 hp).2]
end Go.Proofs.Ytdjcndcleaffkaa.PChunksPlays
