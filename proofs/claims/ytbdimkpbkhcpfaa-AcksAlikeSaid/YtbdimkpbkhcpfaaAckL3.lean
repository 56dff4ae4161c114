/- The laws' helpers over numbers that came: what two know of one another. -/
import Derived.Test.YtbdimkpbkhcpfaaAckL2
namespace Go.Proofs.Ytbdimkpbkhcpfaa.PAcksPlays
open Go.RowKit Go.Proofs.YtbdimkpbkhcpfaaW.PrintWords Go.Proofs.YtbdimkpbkhcpfaaW.PrintLast Go.Proofs.YtbdimkpbkhcpfaaW.PrintMore
open Go.Proofs.YtbdimkpbkhcpfaaO
attribute [local go_sem] max2_int min2_int max_two min_two max_three min_three max_four min_four
set_option linter.unusedVariables false
set_option linter.unusedSimpArgs false
theorem sub_len : ∀ (M L : List Int), M.Nodup → (∀ x ∈ M, x ∈ L) → M.length ≤ L.length
  | [], L, _, _ => Nat.zero_le _
  | x :: M, L, hn, hs => by
    have hx := hs x (List.mem_cons_self ..)
    rw [List.nodup_cons] at hn
    have := sub_len M (L.erase x) hn.2 fun y hy => (List.mem_erase_of_ne (fun e => hn.1 (by rw [← e]; exact hy))).2 (hs y (List.mem_cons_of_mem _ hy))
    rw [List.length_erase_of_mem hx] at this
    have : 0 < L.length := List.length_pos_of_mem hx
    simp only [List.length_cons]
    omega
theorem asc_nodup {M : List Int} (h : M.Pairwise (· < ·)) : M.Nodup := h.imp fun h e => by omega
theorem set_len {L : List Int} {low : Nat} {M : List Int} (h : SetIs L low M) : M.length ≤ L.length := sub_len M L (asc_nodup h.1) fun x hx => ((h.2 x).1 hx).1
theorem low_len {L : List Int} : ∀ {low : Nat}, (∀ i : Int, 1 ≤ i → i ≤ low → i ∈ L) → low ≤ L.length := by
  intro low
  induction low generalizing L with
  | zero => intro _; exact Nat.zero_le _
  | succ k ih =>
    intro h
    have hx := h ((k : Int) + 1) (by omega) (by omega)
    have := @ih (L.erase ((k : Int) + 1)) fun i h1 h2 => (List.mem_erase_of_ne (by omega)).2 (h i h1 (by omega))
    rw [List.length_erase_of_mem hx] at this
    have : 0 < L.length := List.length_pos_of_mem hx
    omega
theorem addUp_mem (L : List Int) : ∀ k : Nat, k ≤ 1048576 → ∀ x, x ∈ addUp L k ↔ x ∈ L ∨ (1 ≤ x ∧ x ≤ k)
  | 0, _, x => by rw [addUp]; constructor
                  · exact .inl
                  · rintro (h | h); exact h; omega
  | k + 1, hk, x => by
    rw [addUp, addL_mem, addUp_mem L k (by omega)]
    constructor
    · rintro ((h | h) | h)
      · exact .inl h
      · exact .inr (by omega)
      · exact .inr (by omega)
    · rintro (h | h)
      · exact .inl (.inl h)
      · by_cases hx : x ≤ k
        · exact .inl (.inr (by omega))
        · exact .inr (by omega)
theorem fold_mem (l : List Int) : ∀ (L : List Int) (x : Int), x ∈ l.foldl addL L ↔ x ∈ L ∨ (x ∈ l ∧ 1 ≤ x ∧ x ≤ 2147483647) := by
  induction l with
  | nil => intro L x; simp
  | cons y l ih =>
    intro L x
    rw [List.foldl_cons, ih, addL_mem, List.mem_cons]
    constructor
    · rintro ((h | ⟨rfl, h⟩) | h)
      · exact .inl h
      · exact .inr ⟨.inl rfl, h⟩
      · exact .inr ⟨.inr h.1, h.2⟩
    · rintro (h | ⟨rfl | h, h2⟩)
      · exact .inl (.inl h)
      · exact .inl (.inr ⟨rfl, h2⟩)
      · exact .inr ⟨h, h2⟩
theorem merge_mem (L M : List Int) {low : Nat} {s : List Int} (hR : Right M) (h1 : LowIs M low) (h2 : SetIs M low s) (hl : M.length ≤ 1000000) (x : Int) : x ∈ mergeL L low s ↔ x ∈ L ∨ x ∈ M := by
  have hlow : low ≤ 1000000 := Nat.le_trans (low_len h1.1) hl
  unfold mergeL
  rw [if_neg (by omega), fold_mem, Int.toNat_natCast, addUp_mem _ _ (by omega)]
  constructor
  · rintro ((h | h) | h)
    · exact .inl h
    · exact .inr (h1.1 x h.1 h.2)
    · exact .inr ((h2.2 x).1 h.1).1
  · rintro (h | h)
    · exact .inl (.inl h)
    · by_cases hx : x ≤ low
      · exact .inl (.inr ⟨(hR.2 x h).1, hx⟩)
      · exact .inr ⟨(h2.2 x).2 ⟨h, by omega⟩, hR.2 x h⟩
theorem fold_same (L : List Int) : ∀ l : List Int, (∀ x ∈ l, x ∈ L) → l.foldl addL L = L
  | [], _ => rfl
  | y :: l, h => by
    rw [List.foldl_cons, addL_mem_of (h y (List.mem_cons_self ..))]
    exact fold_same L l fun x hx => h x (List.mem_cons_of_mem _ hx)
theorem merge_same (L : List Int) {low : Nat} {s : List Int} (h1 : LowIs L low) (h2 : SetIs L low s) (hl : L.length ≤ 1000000) : mergeL L low s = L := by
  have hlow : low ≤ 1000000 := Nat.le_trans (low_len h1.1) hl
  unfold mergeL
  rw [if_neg (by omega), Int.toNat_natCast, addUp_low h1 low (Nat.le_refl _)]
  exact fold_same L s fun x hx => ((h2.2 x).1 hx).1
theorem merge_len (L : List Int) (low : Nat) (s : List Int) (hl : low ≤ 1048576) : (mergeL L low s).length ≤ L.length + low + s.length := by
  unfold mergeL
  rw [if_neg (by omega), Int.toNat_natCast]
  have h1 := addUp_len L low
  have h2 := addAll_len s (addUp L low)
  omega
theorem set_wf {L : List Int} {low : Nat} {s : List Int} (hR : Right L) (h : SetIs L low s) : ∀ x ∈ s, (Lit.int .i64 x).wf = true := fun x hx => by
  have := hR.2 x ((h.2 x).1 hx).1
  exact wf64 x (by omega) (by omega)
theorem acks_facts {w0 w : World} {R : List Asn} {g : Nat} {L : List Int} (h : Own w0 w (Acks g L :: R)) : ∃ (low : Nat) (s : List Int), Right L ∧ LowIs L low ∧ SetIs L low s := by
  obtain ⟨low, M, v, h1, _⟩ := acks_open h
  obtain ⟨s, hs, hm⟩ := sort_ex M
  exact ⟨low, s, h1.1, h1.2.1, hs, fun x => (hm x).trans (h1.2.2.2 x)⟩
theorem row_C {w0 w : World} {R : List Asn} {A : Option Addr} {c n : Nat} {l : List Int} {e : TypeId} (h : Own w0 w (Row (Kd.int .i64) e (.slice A n c) l :: R)) : Kd.C (Kd.int .i64) w A l.length l ∧ l.length ≤ c := by
  obtain ⟨A2, c2, e2, hc, hC⟩ := h.row_reads
  cases e2
  exact ⟨hC, hc⟩
theorem AcksMergeR {w0 w : World} {R : List Asn} {g : Nat} {L : List Int} {e : TypeId} {A : Option Addr} {c : Nat} {l : List Int} (h : Own w0 w (Acks g L :: Row (Kd.int .i64) e (.slice A l.length c) l :: R)) (hi : Int) (hw : ∀ x ∈ l, (Lit.int .i64 x).wf = true) (hl : L.length + l.length ≤ 1000000000) (L' : List Int) (hm : mergeL L hi l = L') :
    Calls Try.prog 15 #[.pointer (some ⟨g, 0, none⟩), .int .i64 hi, .slice A l.length c] w fun e2 w' => e2 = .returned (.int .i64 ((L'.length : Int) - (L.length : Int))) ∧ Own w0 w' (Acks g L' :: Row (Kd.int .i64) e (.slice A l.length c) l :: R) := by
  subst hm
  exact AcksMerge h hi A c l (row_C h.r1).2 (fun L' w' h' => (row_C h'.r1).1) hw hl
theorem same_go (a : List Int) (hb : a.length ≤ 9223372036854775000) : ∀ d k : Nat, k + d = a.length → meterlaw12_same.l0 (d + 1) a a k = some true
  | 0, k, h => by
    simp only [meterlaw12_same.l0]
    rw [if_neg (by omega)]
  | d + 1, k, h => by
    rw [meterlaw12_same.l0]
    rw [if_pos (by omega), if_pos (by omega), if_pos (by omega), if_pos rfl, show wrap64 ((k : Int) + 1) = ((k + 1 : Nat) : Int) by unfold wrap64; omega]
    exact same_go a hb d (k + 1) (by omega)
theorem same_f (a : List Int) (hb : a.length ≤ 9223372036854775000) : meterlaw12_same.f (a.length + 1) a a = some true := by
  unfold meterlaw12_same.f
  rw [if_pos rfl]
  exact same_go a hb a.length 0 (by omega)
theorem same_calls {w : World} (A0 : Option Addr) (c0 : Nat) (A1 : Option Addr) (c1 : Nat) (a : List Int) (hb : a.length ≤ 100000000) (h0 : Kd.C (Kd.int .i64) w A0 a.length a ∧ a.length ≤ c0) (h1 : Kd.C (Kd.int .i64) w A1 a.length a ∧ a.length ≤ c1) :
    Calls Try.prog 16 #[.slice A0 a.length c0, .slice A1 a.length c1] w fun e w' => e = .returned (.bool true) ∧ Drawn0 w w' :=
  meterlaw12_same.calls _ A0 c0 a A1 c1 a true w h0.1 h0.2 h1.1 h1.2 (same_f a (by omega))
theorem Right.up {L : List Int} (h : Right L) : ∀ k, Right (addUp L k)
  | 0 => h
  | k + 1 => (Right.up h k).add _
theorem Right.fold {l : List Int} : ∀ {L : List Int}, Right L → Right (l.foldl addL L) := by
  induction l with
  | nil => exact fun h => h
  | cons x l ih => exact fun h => ih (h.add x)
theorem right_merge {L : List Int} (h : Right L) (hi : Int) (s : List Int) : Right (mergeL L hi s) := Right.fold (h.up _)
theorem right_after (l : List S30) : Right (afterL l) := by
  unfold afterL
  suffices ∀ L, Right L → Right (l.foldl tellL L) from this [] Right.nil
  induction l with
  | nil => exact fun L h => h
  | cons x l ih =>
    intro L h
    refine ih _ ?_
    unfold tellL
    split
    · exact h.add _
    split
    · exact right_merge h _ _
    · exact h
/-- How far all came without a gap. -/
theorem low_ex (L : List Int) : ∃ low, LowIs L low := by
  suffices ∀ d k : Nat, d + k = L.length + 1 → (∀ i : Int, 1 ≤ i → i ≤ k → i ∈ L) → ∃ low, LowIs L low from this (L.length + 1) 0 rfl fun i a b => absurd a (by omega)
  intro d
  induction d with
  | zero => intro k hk h; have := low_len h; omega
  | succ d ih =>
    intro k hk h
    by_cases hx : ((k : Int) + 1) ∈ L
    · refine ih (k + 1) (by omega) fun i a b => ?_
      by_cases hi : i = (k : Int) + 1
      · rw [hi]; exact hx
      · exact h i a (by omega)
    · exact ⟨k, h, hx⟩
theorem facts_ex (L : List Int) : ∃ (low : Nat) (s : List Int), LowIs L low ∧ SetIs L low s := by
  obtain ⟨low, h⟩ := low_ex L
  obtain ⟨s, hs, hm⟩ := sort_ex (L.filter (fun x => (low : Int) < x))
  exact ⟨low, s, h, hs, fun x => by rw [hm, List.mem_filter]; simp⟩
end Go.Proofs.Ytbdimkpbkhcpfaa.PAcksPlays
