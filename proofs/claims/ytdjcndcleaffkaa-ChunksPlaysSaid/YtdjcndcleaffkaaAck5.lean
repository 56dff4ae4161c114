/- Numbers that came (package acks): Set, the keys of a map, sorted. -/
import Derived.Test.YtdjcndcleaffkaaAck4
import Derived.Test.YtdjcndcleaffkaaShelfP
namespace Go.Proofs.Ytdjcndcleaffkaa.PChunksPlays
open Go.RowKit Go.Proofs.YtdjcndcleaffkaaW.PrintWords Go.Proofs.YtdjcndcleaffkaaW.PrintLast Go.Proofs.YtdjcndcleaffkaaW.PrintMore
open Go.Proofs.YtdjcndcleaffkaaO
open Go.Maps Go.Sort Go.Shelf
attribute [local go_sem] max2_int min2_int max_two min_two max_three min_three max_four min_four
set_option linter.unusedVariables false
set_option linter.unusedSimpArgs false
/-- slices.Sort's two contracts at this dump, at the fence that asks nothing. -/
theorem sortsA (m : Nat) : AnyZI.SortsIn Try.prog Try.sortedA_ren Fence.wide m :=
  ⟨fun blk off cap ss W hH hblk hsz => callsIn_wide.2 (AnyM.slices_Sort_int Try.sortA blk off cap ss W hH hblk hsz),
   fun p cap W => callsIn_wide.2 (AnyM.slices_Sort_int_none Try.sortA p cap W)⟩
section
variable {w0 w w' : World} {R : List Asn} {g : Nat} {L : List Int}
set_option maxHeartbeats 1000000 in
theorem set_some {H : Type} (b nn low : Nat) (D0 : DataW H) (Rr : Value → Option (DataW H × List MemPlace)) (w : World) (y1 : w.cell? ⟨g, 1, none⟩ = some (.map (some b))) (hown : w.ownsMap Try.prog 3 Rr b nn D0) (hmax : Maps.size D0 ≤ maxLen) (hbytes : Maps.size D0 * 8 ≤ 140737488355328) :
    Calls Try.prog 22 #[.pointer (some ⟨g, 0, none⟩)] w fun e w' => ∃ (v : Value) (ss : List Int), e = .returned v ∧ ss.Perm (intKeys D0) ∧
      w'.ownsRow w.heap.size 3 1 v ss.length ((ss.mergeSort (fun x y => decide (x ≤ y))).map encZ) ∧ (v = .slice none 0 0 ↔ ss = []) ∧ Below w.heap.size w w' := by
  refine (callsIn_wide (n := 6)).1 ?_
  have hbl := hown.lt
  have hseq : SeqGives Fence.wide 2 Try.prog 36 #[.pointer (some ⟨w.heap.size, 0, none⟩)] encZ (fun ss => ss.Perm (intKeys D0)) (Maps.size D0) (w.alloc (.cells #[.map (some b)] 67)) :=
    AnyZI.keys_gives (ρ := Try.keysA_ren) { Try.keysA with } Fence.wide _ trivial rfl (by omega) w.heap.size b nn D0 _ (by simp) (by simp) (by
      obtain ⟨es, clock, hb, Ft, hs, hD⟩ := hown
      exact ⟨es, clock, (Below.heap_alloc _ _ b hbl).trans hb, Ft, hs, hD⟩)
  have cK : ∀ mb W, CallsIn Fence.wide 5 Try.prog 30 #[.map mb] W fun e w' => e = .returned (.func (.func 36) #[] #[.pointer (some ⟨W.heap.size, 0, none⟩)]) ∧ w' = W.alloc (.cells #[.map mb] 67) := fun mb W => AnyZI.keys_in Try.keysA Fence.wide 5 trivial rfl mb W
  have cS := AnyZI.sorted_in Try.sortedA Fence.wide 5 trivial trivial trivial trivial rfl (by omega) (sortsA _) (enters_of Try.func35 (by kernel_rfl) rfl) 36 #[.pointer (some ⟨w.heap.size, 0, none⟩)] trivial (enters_of Try.func36 (by kernel_rfl) rfl) _ _ hmax hbytes _ hseq
  change CallsIn _ _ Try.prog 29 _ _ _ at cS
  have hfK : Fence.wide.fn 30 := trivial
  have hfS : Fence.wide.fn 29 := trivial
  refine callsIn_of_wp Try.func22 rfl trivial ?_ rfl
  simp only [Try.ntmps22, List.size_toArray, List.length_cons, List.length_nil, Nat.reduceAdd, Nat.reduceSub, Array.replicate_succ, Array.replicate_zero, List.push_toArray, List.append_toArray, List.nil_append, List.cons_append]
  gi_wp2_with (first
    | (gi_at_call 30; refine (cK _ _).mono ?_; rintro e w' ⟨rfl, rfl⟩)
    | (gi_at_call 29; refine cS.mono ?_; rintro e w' ⟨v, ss, rfl, hS, hrow, hnil, hb⟩))
  go_ret
  exact ⟨v, ss, rfl, hS, ownsRow_base_a hrow (by simp), hnil, ((Below.refl _ w).alloc (Nat.le_refl _) _).trans (hb.mono (by simp))⟩
set_option maxHeartbeats 1000000 in
theorem set_none (w : World) (y1 : w.cell? ⟨g, 1, none⟩ = some (.map none)) : Calls Try.prog 22 #[.pointer (some ⟨g, 0, none⟩)] w fun e w' => e = .returned (.slice none 0 0) ∧ Below w.heap.size w w' := by
  refine (callsIn_wide (n := 6)).1 ?_
  have hseq : SeqGives Fence.wide 2 Try.prog 36 #[.pointer (some ⟨w.heap.size, 0, none⟩)] encZ (fun ss : List Int => ss = []) 0 (w.alloc (.cells #[.map none] 67)) :=
    AnyZI.keys_gives_nil (ρ := Try.keysA_ren) { Try.keysA with } Fence.wide _ trivial rfl w.heap.size _ (by simp) (by simp)
  have cK : ∀ mb W, CallsIn Fence.wide 5 Try.prog 30 #[.map mb] W fun e w' => e = .returned (.func (.func 36) #[] #[.pointer (some ⟨W.heap.size, 0, none⟩)]) ∧ w' = W.alloc (.cells #[.map mb] 67) := fun mb W => AnyZI.keys_in Try.keysA Fence.wide 5 trivial rfl mb W
  have cS := AnyZI.sorted_in Try.sortedA Fence.wide 5 trivial trivial trivial trivial rfl (by omega) (sortsA _) (enters_of Try.func35 (by kernel_rfl) rfl) 36 #[.pointer (some ⟨w.heap.size, 0, none⟩)] trivial (enters_of Try.func36 (by kernel_rfl) rfl) _ 0 (Nat.zero_le _) (by omega) _ hseq
  change CallsIn _ _ Try.prog 29 _ _ _ at cS
  have hfK : Fence.wide.fn 30 := trivial
  have hfS : Fence.wide.fn 29 := trivial
  refine callsIn_of_wp Try.func22 rfl trivial ?_ rfl
  simp only [Try.ntmps22, List.size_toArray, List.length_cons, List.length_nil, Nat.reduceAdd, Nat.reduceSub, Array.replicate_succ, Array.replicate_zero, List.push_toArray, List.append_toArray, List.nil_append, List.cons_append]
  gi_wp2_with (first
    | (gi_at_call 30; refine (cK _ _).mono ?_; rintro e w' ⟨rfl, rfl⟩)
    | (gi_at_call 29; refine cS.mono ?_; rintro e w' ⟨v, ss, rfl, rfl, hrow, hnil, hb⟩; obtain rfl : v = .slice none 0 0 := hnil.2 rfl))
  go_ret
  exact ⟨rfl, ((Below.refl _ w).alloc (Nat.le_refl _) _).trans (hb.mono (by simp))⟩
theorem AcksSet (h : Own w0 w (Acks g L :: R)) (hl : L.length ≤ 1000000000) : ∃ (low : Nat) (M : List Int), LowIs L low ∧ SetIs L low M ∧ Calls Try.prog 22 #[.pointer (some ⟨g, 0, none⟩)] w fun e w' => ∃ v, e = .returned v ∧ Own w0 w' (Row (Kd.int .i64) 3 v M :: Acks g L :: R) := by
  obtain ⟨low, M, v, h1, h2⟩ := acks_open h
  refine ⟨low, M, h1.2.1, h1.2.2, ?_⟩
  have y1 : w.cell? ⟨g, 1, none⟩ = some v := (blk_cell h2.at0 1).trans rfl
  rcases maps_out h2.tail with ⟨rfl, rfl⟩ | ⟨b, D, rfl, ho, hD⟩
  · exact (set_none w y1).mono fun e w' ⟨he, hb⟩ => ⟨_, he, (h.below hb).row_nil _ _⟩
  · have hsz := ho.size_le
    refine (set_some b _ low D _ w y1 ho (by unfold maxLen; omega) (by omega)).mono fun e w' ⟨v, ss, he, hp, hr, _, hb⟩ => ⟨v, he, ?_⟩
    have hpM : M.Perm (intKeys D) := by
      have hW := fun x hx => intKeys_wf (x := x) ho Try.underlying3 hx
      obtain ⟨es, hDe, hpw, _⟩ := ho.entries plaw3
      obtain ⟨es', hDe', hko⟩ := ho.keysOf
      obtain rfl : es = es' := by rw [hDe] at hDe'; simpa using hDe'
      subst hDe
      have hk : ∀ p ∈ es, ∃ x, p.1 = .int .i64 x := fun p hp => by obtain ⟨v, hv⟩ := hko p hp; obtain ⟨x, _, hx, _⟩ := Maps.keyOf_i64 Try.underlying3 hv; exact ⟨x, hx⟩
      refine perm_intKeys hpw hk (h1.2.2.1.imp fun h => by omega) fun x => ?_
      by_cases hx : (Lit.int .i64 x).wf = true
      · rw [hD x hx, decide_eq_true_iff]
      · constructor
        · intro hm
          have := h1.1.2 x ((h1.2.2.2 x).1 hm).1
          exact absurd (wf64 x (by omega) (by omega)) hx
        · intro hh
          refine absurd (hW x ?_) hx
          rw [Maps.has_eq, List.any_eq_true] at hh
          obtain ⟨p, hp', hs⟩ := hh
          obtain ⟨a, ha⟩ := hk p hp'
          rw [ha] at hs
          exact List.mem_map.2 ⟨p, hp', by rw [ha]; simpa [Lit.sameKey, Go.intOf] using hs⟩
    have hM : ss.mergeSort (fun x y => decide (x ≤ y)) = M := by
      have tr : ∀ a b c : Int, decide (a ≤ b) = true → decide (b ≤ c) = true → decide (a ≤ c) = true := fun a b c h1 h2 => by simp only [decide_eq_true_eq] at *; exact Int.le_trans h1 h2
      have totl : ∀ a b : Int, (decide (a ≤ b) || decide (b ≤ a)) = true := fun a b => by simp only [Bool.or_eq_true, decide_eq_true_eq]; exact Int.le_total a b
      refine List.Perm.eq_of_pairwise (le := fun a b => decide (a ≤ b) = true) (fun a b _ _ h1 h2 => ?_) (List.pairwise_mergeSort tr totl ss) (h1.2.2.1.imp fun h => by simp only [decide_eq_true_eq]; omega) ((List.mergeSort_perm ss _).trans (hp.trans hpM.symm))
      simp only [decide_eq_true_eq] at h1 h2
      exact Int.le_antisymm h1 h2
    have hlen : ss.length = M.length := by rw [← hM, List.length_mergeSort]
    rw [hM, hlen] at hr
    exact h.row_new hb (Kd.R_of_own (enc := Value.int .i64) (ok := fun _ => True) hr (fun _ _ => trivial))
end
end Go.Proofs.Ytdjcndcleaffkaa.PChunksPlays
