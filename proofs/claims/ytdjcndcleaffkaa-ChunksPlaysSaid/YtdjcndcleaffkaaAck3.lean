/- Numbers that came (package acks): New, Merge, Missing, Whole. -/
import Derived.Test.YtdjcndcleaffkaaAck2
namespace Go.Proofs.Ytdjcndcleaffkaa.PChunksPlays
open Go.RowKit Go.Proofs.YtdjcndcleaffkaaW.PrintWords Go.Proofs.YtdjcndcleaffkaaW.PrintLast Go.Proofs.YtdjcndcleaffkaaW.PrintMore
open Go.Proofs.YtdjcndcleaffkaaO
attribute [local go_sem] max2_int min2_int max_two min_two max_three min_three max_four min_four
set_option linter.unusedVariables false
set_option linter.unusedSimpArgs false
section
variable {w0 w w' : World} {R : List Asn} {g : Nat} {L : List Int}
theorem AcksAdd (h : Own w0 w (Acks g L :: R)) (n : Int) (hn : (Lit.int .i64 n).wf = true) (hl : L.length < 100000000000) (b : Bool) (hb : freshB L n = b) : Calls Try.prog 28 #[.pointer (some ⟨g, 0, none⟩), .int .i64 n] w fun e w' => e = .returned (.bool b) ∧ Own w0 w' (Acks g (addL L n) :: R) := by
  subst hb
  cases hf : freshB L n with
  | true =>
    have e : addL L n = L ++ [n] := by unfold addL; rw [if_pos hf]
    rw [e]
    exact AcksAdd_yes h n hn hf hl
  | false =>
    have e : addL L n = L := by unfold addL; rw [if_neg (by rw [hf]; simp)]
    rw [e]
    exact AcksAdd_no h n hn hf
set_option maxHeartbeats 4000000 in
theorem AcksNew (h : Own w0 w R) : Calls Try.prog 26 #[] w fun e w' => ∃ g : Nat, e = .returned (.pointer (some ⟨g, 0, none⟩)) ∧ Own w0 w' (Acks g [] :: R) := by
  have h1 := h.alloc (.cells #[.int .i64 0, .map none] 69)
  have h2 : Own w0 (w.alloc (.cells #[.int .i64 0, .map none] 69)) (MapS (.map none) 0 [] :: Blk w.heap.size (.cells #[.int .i64 0, .map none] 69) :: R) :=
    h1.make (Below.refl _ _) ⟨fun _ => False, .inl ⟨rfl, rfl, fun _ => id⟩, fun k hk => hk.elim⟩
  have H := Aside0.mk (acks_shut (L := []) (low := 0) (M := []) ⟨Right.nil, ⟨fun i a b => absurd a (by omega), by simp⟩, List.Pairwise.nil, fun x => by simp⟩ h2.r1)
  clear h h1 h2
  go_enter Try.func26, Try.ntmps26
  go_wp2
  go_ret
  exact ⟨_, rfl, H.out⟩
set_option maxHeartbeats 4000000 in
theorem AcksLow_nil (w : World) : Calls Try.prog 21 #[.pointer none] w fun e w' => e = .returned (.int .i64 0) ∧ w = w' := by
  go_enter Try.func21, Try.ntmps21
  go_wp2
  go_ret
  exact ⟨rfl, rfl⟩
theorem AcksLowIs (h : Own w0 w (Acks g L :: R)) : ∃ low : Nat, LowIs L low ∧ Calls Try.prog 21 #[.pointer (some ⟨g, 0, none⟩)] w fun e w' => e = .returned (.int .i64 low) ∧ w = w' := by
  obtain ⟨low, M, v, h1, h2⟩ := acks_open h
  exact ⟨low, h1.2.1, (AcksLow h).mono fun e w' ⟨low', hl, he, hw⟩ => ⟨by rw [he, h1.2.1.uniq hl], hw⟩⟩
theorem acks_right (h : Own w0 w (Acks g L :: R)) : Right L := by
  obtain ⟨low, M, v, h1, h2⟩ := acks_open h
  exact h1.1
theorem acks_low (h : Own w0 w (Acks g L :: R)) : ∃ low : Nat, LowIs L low := by
  obtain ⟨low, M, v, h1, h2⟩ := acks_open h
  exact ⟨low, h1.2.1⟩
theorem low_le {low : Nat} (h : Right L) (h1 : LowIs L low) : low ≤ 2147483647 := by
  by_cases h0 : low = 0
  · omega
  · have := (h.2 _ (h1.1 (low : Int) (by omega) (by omega))).2
    omega
set_option maxHeartbeats 4000000 in
theorem AcksWhole (h : Own w0 w (Acks g L :: R)) (upto : Int) (low : Nat) (hl : LowIs L low) : Calls Try.prog 23 #[.pointer (some ⟨g, 0, none⟩), .int .i64 upto] w fun e w' => e = .returned (.bool (decide (upto < 1 ∨ upto ≤ low))) ∧ w = w' := by
  have H := Aside0.mk ((AcksLow h).mono fun e w' ⟨low', hl', he, hw⟩ => (⟨by rw [he, hl.uniq hl'], hw⟩ : e = Ending.returned (.int .i64 low) ∧ w = w'))
  clear h hl
  by_cases h1 : upto < 1
  · have d1 : decide (upto < 1) = true := decide_eq_true h1
    go_enter Try.func23, Try.ntmps23
    go_wp2
    go_ret
    exact ⟨by rw [decide_eq_true (Or.inl h1)]; rfl, rfl⟩
  · have d1 : decide (upto < 1) = false := decide_eq_false h1
    have HE := Lib.hid (show decide (upto < 1 ∨ upto ≤ low) = decide (upto ≤ low) from decide_eq_decide.2 ⟨fun q => q.elim (fun q => absurd q h1) id, .inr⟩)
    go_enter Try.func23, Try.ntmps23
    go_wp2_with (go_at_call 21; (refine H.out.mono ?_); rintro e w1 ⟨rfl, rfl⟩)
    go_ret
    exact ⟨by rw [HE.out]; rfl, rfl⟩
set_option maxHeartbeats 4000000 in
theorem AcksWhole_nil (upto : Int) (w : World) : Calls Try.prog 23 #[.pointer none, .int .i64 upto] w fun e w' => e = .returned (.bool (decide (upto < 1))) ∧ w = w' := by
  by_cases h1 : upto < 1
  · have d1 : decide (upto < 1) = true := decide_eq_true h1
    go_enter Try.func23, Try.ntmps23
    go_wp2
    go_ret
    exact ⟨by rw [d1]; rfl, rfl⟩
  · have d1 : decide (upto < 1) = false := decide_eq_false h1
    have d2 : decide (upto ≤ 0) = false := decide_eq_false (by omega)
    go_enter Try.func23, Try.ntmps23
    go_wp2_with (go_at_call 21; (refine (AcksLow_nil _).mono ?_); rintro e w1 ⟨rfl, rfl⟩)
    go_ret
    exact ⟨by first | (rw [d1]; rfl) | rfl, rfl⟩
/-- All numbers up to one are put. -/
def addUp (L : List Int) : Nat → List Int
  | 0 => L
  | k + 1 => addL (addUp L k) ((k + 1 : Nat) : Int)
theorem addL_mem_of {n : Int} (h : n ∈ L) : addL L n = L := by
  unfold addL freshB
  rw [if_neg]
  intro q
  exact (of_decide_eq_true q).2.2 h
theorem addUp_low {low : Nat} (h : LowIs L low) : ∀ k, k ≤ low → addUp L k = L
  | 0, _ => rfl
  | k + 1, hk => by
    have ih := addUp_low h k (by omega)
    show addL (addUp L k) _ = L
    rw [ih]
    exact addL_mem_of (h.1 _ (by omega) (by omega))
theorem addUp_len (L : List Int) : ∀ k, L.length ≤ (addUp L k).length ∧ (addUp L k).length ≤ L.length + k
  | 0 => ⟨Nat.le_refl _, Nat.le_refl _⟩
  | k + 1 => by
    have h1 := addUp_len L k
    have h2 := addL_len (addUp L k) ((k + 1 : Nat) : Int)
    show L.length ≤ (addL (addUp L k) _).length ∧ (addL (addUp L k) _).length ≤ _
    omega
theorem addAll_len : ∀ (l : List Int) (L : List Int), L.length ≤ (l.foldl addL L).length ∧ (l.foldl addL L).length ≤ L.length + l.length
  | [], L => ⟨Nat.le_refl _, Nat.le_refl _⟩
  | x :: l, L => by
    have h1 := addAll_len l (addL L x)
    have h2 := addL_len L x
    rw [List.foldl_cons, List.length_cons]
    omega
theorem addL_count (L : List Int) (n : Int) : (addL L n).length = L.length + if freshB L n = true then 1 else 0 := by
  unfold addL
  split <;> simp
/-- What Merge makes of it. -/
def mergeL (L : List Int) (hi : Int) (set : List Int) : List Int := set.foldl addL (addUp L (if 1048576 < hi then 1048576 else hi).toNat)
theorem take_fold (l : List Int) (L : List Int) (k : Nat) (h : k < l.length) : (l.take (k + 1)).foldl addL L = addL ((l.take k).foldl addL L) l[k] := by
  rw [List.take_succ_eq_append_getElem h, List.foldl_append]
  rfl
end
end Go.Proofs.Ytdjcndcleaffkaa.PChunksPlays
