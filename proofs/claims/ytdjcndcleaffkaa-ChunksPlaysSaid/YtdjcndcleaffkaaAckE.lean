/- Numbers that came: what laws of other packages lean on. -/
import Derived.Test.YtdjcndcleaffkaaAck5
namespace Go.Proofs.Ytdjcndcleaffkaa.PChunksPlays
open Go.RowKit Go.Proofs.YtdjcndcleaffkaaW.PrintWords Go.Proofs.YtdjcndcleaffkaaW.PrintLast Go.Proofs.YtdjcndcleaffkaaW.PrintMore
open Go.Proofs.YtdjcndcleaffkaaO
attribute [local go_sem] max2_int min2_int max_two min_two max_three min_three max_four min_four
set_option linter.unusedVariables false
set_option linter.unusedSimpArgs false
theorem AcksLowE {w0 w : World} {R : List Asn} {g : Nat} {L : List Int} (h : Own w0 w (Acks g L :: R)) (low : Nat) (hl : LowIs L low) : Calls Try.prog 21 #[.pointer (some ⟨g, 0, none⟩)] w fun e w' => e = .returned (.int .i64 low) ∧ w = w' :=
  (AcksLow h).mono fun e w' ⟨low', hl', he, hw⟩ => ⟨by rw [he, hl.uniq hl'], hw⟩
theorem AcksSetE {w0 w : World} {R : List Asn} {g : Nat} {L : List Int} (h : Own w0 w (Acks g L :: R)) (hL : L.length ≤ 1000000000) (low : Nat) (M : List Int) (hl : LowIs L low) (hM : SetIs L low M) : Calls Try.prog 22 #[.pointer (some ⟨g, 0, none⟩)] w fun e w' => ∃ A c, e = .returned (.slice A M.length c) ∧ M.length ≤ c ∧ Own w0 w' (Row (Kd.int .i64) 3 (.slice A M.length c) M :: Acks g L :: R) := by
  obtain ⟨low', M', h1, h2, hc⟩ := AcksSet h hL
  obtain rfl := hl.uniq h1
  obtain rfl := hM.uniq h2
  refine hc.mono fun e w' ⟨v, he, ho⟩ => ?_
  obtain ⟨A, c, rfl, hlc, _⟩ := ho.row_reads
  exact ⟨A, c, he, hlc, ho⟩
theorem low0 : LowIs [] 0 := ⟨fun i a b => absurd a (by omega), by simp⟩
theorem set0 : SetIs [] 0 [] := ⟨List.Pairwise.nil, fun x => by simp⟩
theorem int_at {w : World} {A : Option Addr} {l : List Int} (hC : Kd.C (Kd.int .i64) w A l.length l) (j : Nat) (x : Int) (h : l[j]? = some x) : ∃ ad, A = some ad ∧ w.cell? (ad.add j) = some (.int .i64 x) := by
  obtain ⟨hjl, _⟩ := List.getElem?_eq_some_iff.1 h
  obtain ⟨ad, c9, e, hK, h7, hc9⟩ := Kd.C_get hC 0 (j : Int) (by omega) (by omega)
  refine ⟨ad, e, ?_⟩
  have hrd : c9 = [.int .i64 (l.getD ((j : Int)).toNat 0)] := h7
  subst hrd
  have := hc9 0 _ rfl
  rw [Int.toNat_natCast, List.getD_eq_getElem?_getD, h] at this
  have e2 : j * (Kd.int .i64).sz + 0 = j := by show j * 1 + 0 = j; omega
  rw [e2] at this
  exact this
theorem own_int_at {w0 w : World} {R : List Asn} {A : Option Addr} {c n : Nat} {l : List Int} {e : TypeId} (h : Own w0 w (Row (Kd.int .i64) e (.slice A n c) l :: R)) (j : Nat) (x : Int) (hx : l[j]? = some x) : ∃ ad, A = some ad ∧ w.cell? (ad.add j) = some (.int .i64 x) := by
  obtain ⟨A2, c2, e2, _, hC⟩ := h.row_reads
  cases e2
  exact int_at hC j x hx
theorem sub_len : ∀ (M L : List Int), M.Nodup → (∀ x ∈ M, x ∈ L) → M.length ≤ L.length
  | [], L, _, _ => Nat.zero_le _
  | x :: M, L, hn, hs => by
    have hx := hs x (List.mem_cons_self ..)
    rw [List.nodup_cons] at hn
    have := sub_len M (L.erase x) hn.2 fun y hy => (List.mem_erase_of_ne (fun e => hn.1 (by rw [← e]; exact hy))).2 (hs y (List.mem_cons_of_mem _ hy))
    rw [List.length_erase_of_mem hx] at this
    have : 0 < L.length := List.length_pos_of_mem hx
    simp only [List.length_cons]
    omega
theorem asc_nodup {M : List Int} (h : M.Pairwise (· < ·)) : M.Nodup := h.imp fun h e => by omega
theorem set_len {L : List Int} {low : Nat} {M : List Int} (h : SetIs L low M) : M.length ≤ L.length := sub_len M L (asc_nodup h.1) fun x hx => ((h.2 x).1 hx).1
theorem low_len {L : List Int} : ∀ {low : Nat}, (∀ i : Int, 1 ≤ i → i ≤ low → i ∈ L) → low ≤ L.length := by
  intro low
  induction low generalizing L with
  | zero => intro _; exact Nat.zero_le _
  | succ k ih =>
    intro h
    have hx := h ((k : Int) + 1) (by omega) (by omega)
    have := @ih (L.erase ((k : Int) + 1)) fun i h1 h2 => (List.mem_erase_of_ne (by omega)).2 (h i h1 (by omega))
    rw [List.length_erase_of_mem hx] at this
    have : 0 < L.length := List.length_pos_of_mem hx
    omega
theorem set_wf {L : List Int} {low : Nat} {s : List Int} (hR : Right L) (h : SetIs L low s) : ∀ x ∈ s, (Lit.int .i64 x).wf = true := fun x hx => by
  have := hR.2 x ((h.2 x).1 hx).1
  exact wf64 x (by omega) (by omega)
theorem acks_facts {w0 w : World} {R : List Asn} {g : Nat} {L : List Int} (h : Own w0 w (Acks g L :: R)) : ∃ (low : Nat) (s : List Int), Right L ∧ LowIs L low ∧ SetIs L low s := by
  obtain ⟨low, M, v, h1, _⟩ := acks_open h
  obtain ⟨s, hs, hm⟩ := sort_ex M
  exact ⟨low, s, h1.1, h1.2.1, hs, fun x => (hm x).trans (h1.2.2.2 x)⟩
theorem row_C {w0 w : World} {R : List Asn} {A : Option Addr} {c n : Nat} {l : List Int} {e : TypeId} (h : Own w0 w (Row (Kd.int .i64) e (.slice A n c) l :: R)) : Kd.C (Kd.int .i64) w A l.length l ∧ l.length ≤ c := by
  obtain ⟨A2, c2, e2, hc, hC⟩ := h.row_reads
  cases e2
  exact ⟨hC, hc⟩
/-- How far all came without a gap. -/
theorem low_ex (L : List Int) : ∃ low, LowIs L low := by
  suffices ∀ d k : Nat, d + k = L.length + 1 → (∀ i : Int, 1 ≤ i → i ≤ k → i ∈ L) → ∃ low, LowIs L low from this (L.length + 1) 0 rfl fun i a b => absurd a (by omega)
  intro d
  induction d with
  | zero => intro k hk h; have := low_len h; omega
  | succ d ih =>
    intro k hk h
    by_cases hx : ((k : Int) + 1) ∈ L
    · refine ih (k + 1) (by omega) fun i a b => ?_
      by_cases hi : i = (k : Int) + 1
      · rw [hi]; exact hx
      · exact h i a (by omega)
    · exact ⟨k, h, hx⟩
theorem facts_ex (L : List Int) : ∃ (low : Nat) (s : List Int), LowIs L low ∧ SetIs L low s := by
  obtain ⟨low, h⟩ := low_ex L
  obtain ⟨s, hs, hm⟩ := sort_ex (L.filter (fun x => (low : Int) < x))
  exact ⟨low, s, h, hs, fun x => by rw [hm, List.mem_filter]; simp⟩
theorem low_mono {L L' : List Int} {a b : Nat} (h : LowIs L a) (g : LowIs L' b) (hs : ∀ x ∈ L, x ∈ L') : a ≤ b := by
  apply Classical.byContradiction
  intro hn
  exact g.2 (hs _ (h.1 ((b : Int) + 1) (by omega) (by omega)))
theorem set_above {L s : List Int} {low : Nat} (h1 : LowIs L low) (h2 : SetIs L low s) (j : Nat) (x : Int) (h : s[j]? = some x) : (low : Int) + 1 < x ∧ x ∈ L := by
  have hx := (h2.2 x).1 (List.mem_of_getElem? h)
  refine ⟨?_, hx.1⟩
  have : x ≠ (low : Int) + 1 := fun e => h1.2 (e ▸ hx.1)
  omega
theorem set_asc {L s : List Int} {low : Nat} (h2 : SetIs L low s) (j : Nat) (x y : Int) (h : s[j + 1]? = some x) (g : s[j]? = some y) : y < x := by
  obtain ⟨a, rfl⟩ := List.getElem?_eq_some_iff.1 h
  obtain ⟨b, rfl⟩ := List.getElem?_eq_some_iff.1 g
  exact List.pairwise_iff_getElem.1 h2.1 j (j + 1) b a (by omega)
end Go.Proofs.Ytdjcndcleaffkaa.PChunksPlays
