/- Numbers that came (package acks): what is kept of them, and what each call does. -/
import Derived.Test.YtdjcndcleaffkaaPChunksPlaysx3
import Derived.Test.YtdjcndcleaffkaaOwn
import Derived.Lib.Hide
import Derived.WalkSpells
import Derived.Great.Walk
import Derived.Maps.OwnSet
import Derived.Deep.QuietTactic
import Derived.BigQuiet
import Derived.Deep.RegionWith
import Derived.RegionTactic
import Derived.Lib.SlKeysI
namespace Go.Proofs.Ytdjcndcleaffkaa.PChunksPlays
open Go.RowKit Go.Proofs.YtdjcndcleaffkaaW.PrintWords Go.Proofs.YtdjcndcleaffkaaW.PrintLast Go.Proofs.YtdjcndcleaffkaaW.PrintMore
open Go.Proofs.YtdjcndcleaffkaaO
attribute [local go_sem] max2_int min2_int max_two min_two max_three min_three max_four min_four
set_option linter.unusedVariables false
set_option linter.unusedSimpArgs false
/-- Up to which number all came. -/
def LowIs (L : List Int) (k : Nat) : Prop := (∀ i : Int, 1 ≤ i → i ≤ k → i ∈ L) ∧ ((k : Int) + 1) ∉ L
theorem LowIs.uniq {L : List Int} {a b : Nat} (h : LowIs L a) (g : LowIs L b) : a = b := by
  rcases Nat.lt_trichotomy a b with q | q | q
  · exact absurd (g.1 ((a : Int) + 1) (by omega) (by omega)) h.2
  · exact q
  · exact absurd (h.1 ((b : Int) + 1) (by omega) (by omega)) g.2
/-- The numbers behind, ascending. -/
def SetIs (L : List Int) (low : Nat) (M : List Int) : Prop := M.Pairwise (· < ·) ∧ ∀ x, x ∈ M ↔ x ∈ L ∧ (low : Int) < x
theorem asc_uniq : ∀ {M N : List Int}, M.Pairwise (· < ·) → N.Pairwise (· < ·) → (∀ x, x ∈ M ↔ x ∈ N) → M = N
  | [], [], _, _, _ => rfl
  | [], y :: N, _, _, h => absurd ((h y).2 (List.mem_cons_self ..)) (by simp)
  | x :: M, [], _, _, h => absurd ((h x).1 (List.mem_cons_self ..)) (by simp)
  | x :: M, y :: N, h1, h2, h => by
    rw [List.pairwise_cons] at h1 h2
    have hxy : x = y := by
      have a1 := (h x).1 (List.mem_cons_self ..)
      have a2 := (h y).2 (List.mem_cons_self ..)
      rcases List.mem_cons.1 a1 with e | a1
      · exact e
      rcases List.mem_cons.1 a2 with e | a2
      · exact e.symm
      have := h2.1 x a1
      have := h1.1 y a2
      omega
    subst hxy
    congr 1
    refine asc_uniq h1.2 h2.2 fun z => ⟨fun hz => ?_, fun hz => ?_⟩
    · rcases List.mem_cons.1 ((h z).1 (List.mem_cons_of_mem _ hz)) with e | q
      · have := h1.1 z hz
        omega
      · exact q
    · rcases List.mem_cons.1 ((h z).2 (List.mem_cons_of_mem _ hz)) with e | q
      · have := h2.1 z hz
        omega
      · exact q
theorem SetIs.uniq {L : List Int} {low : Nat} {M N : List Int} (h : SetIs L low M) (g : SetIs L low N) : M = N := asc_uniq h.1 g.1 fun x => (h.2 x).trans (g.2 x).symm
theorem LowIs.congr {L L' : List Int} (h : ∀ x, x ∈ L ↔ x ∈ L') {k : Nat} (g : LowIs L k) : LowIs L' k := ⟨fun i h1 h2 => (h i).1 (g.1 i h1 h2), fun q => g.2 ((h _).2 q)⟩
theorem SetIs.congr {L L' : List Int} (h : ∀ x, x ∈ L ↔ x ∈ L') {k : Nat} {M : List Int} (g : SetIs L k M) : SetIs L' k M := ⟨g.1, fun x => (g.2 x).trans (and_congr_left fun _ => h x)⟩
def freshB (L : List Int) (n : Int) : Bool := decide (1 ≤ n ∧ n ≤ 2147483647 ∧ n ∉ L)
def addL (L : List Int) (n : Int) : List Int := if freshB L n = true then L ++ [n] else L
/-- The numbers are right ones, each once. -/
def Right (L : List Int) : Prop := L.Nodup ∧ ∀ x ∈ L, 1 ≤ x ∧ x ≤ 2147483647
theorem Right.nil : Right [] := ⟨List.nodup_nil, by simp⟩
theorem Right.add {L : List Int} (h : Right L) (n : Int) : Right (addL L n) := by
  unfold addL
  split
  · rename_i hf
    have hf := of_decide_eq_true hf
    refine ⟨List.nodup_append.2 ⟨h.1, by simp, fun a ha b hb => ?_⟩, fun x hx => ?_⟩
    · rw [List.mem_singleton] at hb
      subst hb
      rintro rfl
      exact hf.2.2 ha
    · rcases List.mem_append.1 hx with hx | hx
      · exact h.2 x hx
      · rw [List.mem_singleton] at hx
        subst hx
        exact ⟨hf.1, hf.2.1⟩
  · exact h
theorem addL_mem (L : List Int) (n x : Int) : x ∈ addL L n ↔ x ∈ L ∨ (x = n ∧ 1 ≤ n ∧ n ≤ 2147483647) := by
  unfold addL
  split
  · rename_i hf
    have hf := of_decide_eq_true hf
    rw [List.mem_append, List.mem_singleton]
    constructor
    · rintro (h | h)
      · exact .inl h
      · exact .inr ⟨h, hf.1, hf.2.1⟩
    · rintro (h | h)
      · exact .inl h
      · exact .inr h.1
  · rename_i hf
    constructor
    · exact .inl
    · rintro (h | ⟨rfl, h1, h2⟩)
      · exact h
      · by_cases hx : x ∈ L
        · exact hx
        · exact absurd (decide_eq_true ⟨h1, h2, hx⟩) hf
theorem addL_len (L : List Int) (n : Int) : L.length ≤ (addL L n).length ∧ (addL L n).length ≤ L.length + 1 := by
  unfold addL
  split <;> simp
theorem plaw3 : Maps.Keyed Try.prog 3 := Maps.int_keyed Try.underlying3
theorem pzeroU (w : World) : (zeroValue 74).run Try.prog w = .ok (.agg #[]) w := by kernel_rfl
/-- A set of numbers as a map: its keys are those of a list; at most n were ever put. -/
def MapS (v : Value) (n : Nat) (K : List Int) : Asn := ⟨fun _ w F => (v = .map none ∧ K = [] ∧ ∀ k, ¬ F k) ∨ ∃ b D, v = .map (some b) ∧ (∀ k, F k ↔ k = b) ∧ w.ownsMap Try.prog 3 (unitElem (H := Unit)) b n D ∧ ∀ x, (Lit.int .i64 x).wf = true → Maps.has D (.int .i64 x) = decide (x ∈ K),
  fun h hm => by
    rcases h with h | ⟨b, D, h1, h2, h3, h4⟩
    · exact .inl h
    · obtain ⟨es, clock, hb, r⟩ := h3
      exact .inr ⟨b, D, h1, h2, ⟨es, clock, (hm b ((h2 b).2 rfl)).trans hb, r⟩, h4⟩,
  fun h k hk => by
    rcases h with h | ⟨b, D, h1, h2, h3, h4⟩
    · exact absurd hk (h.2.2 k)
    · rw [(h2 k).1 hk]; exact h3.lt⟩
/-- What there is of the numbers L that came. -/
def Acks (g : Nat) (L : List Int) : Asn := ex fun low : Nat => ex fun M : List Int => ex fun v : Value => fact (Right L ∧ LowIs L low ∧ SetIs L low M) (star (Blk g (.cells #[.int .i64 low, v] 69 (0, 0))) (MapS v L.length M))
section
variable {w0 w w' : World} {R : List Asn} {g : Nat} {L : List Int}
theorem acks_open (h : Own w0 w (Acks g L :: R)) : ∃ (low : Nat) (M : List Int) (v : Value), (Right L ∧ LowIs L low ∧ SetIs L low M) ∧ Own w0 w (Blk g (.cells #[.int .i64 low, v] 69 (0, 0)) :: MapS v L.length M :: R) := by
  obtain ⟨low, h⟩ := h.ex_out
  obtain ⟨M, h⟩ := h.ex_out
  obtain ⟨v, h⟩ := h.ex_out
  obtain ⟨h1, h⟩ := h.fact_out
  exact ⟨low, M, v, h1, h.split⟩
theorem acks_shut {low : Nat} {M : List Int} {v : Value} (h1 : Right L ∧ LowIs L low ∧ SetIs L low M) (h : Own w0 w (Blk g (.cells #[.int .i64 low, v] 69 (0, 0)) :: MapS v L.length M :: R)) : Own w0 w (Acks g L :: R) :=
  .ex_in low (.ex_in M (.ex_in v (.fact_in h1 (.join h))))
theorem maps_out {v : Value} {n : Nat} {K : List Int} (h : Own w0 w (MapS v n K :: R)) : (v = .map none ∧ K = []) ∨ ∃ b D, v = .map (some b) ∧ w.ownsMap Try.prog 3 (unitElem (H := Unit)) b n D ∧ ∀ x, (Lit.int .i64 x).wf = true → Maps.has D (.int .i64 x) = decide (x ∈ K) := by
  obtain ⟨F, h1, _⟩ := h.sat
  rcases h1 with h1 | ⟨b, D, h1, h2, h3, h4⟩
  · exact .inl ⟨h1.1, h1.2.1⟩
  · exact .inr ⟨b, D, h1, h3, h4⟩
/-- A look-up, in whatever world has the same map. -/
theorem look_run {v : Value} {n : Nat} {K : List Int} (h : Own w0 w (MapS v n K :: R)) (x : Int) (hx : (Lit.int .i64 x).wf = true) : (Instr.lookup 67 v (.int .i64 x) true).run Try.prog w = .ok (.tuple #[.agg #[], .bool (decide (x ∈ K))]) w := by
  rcases maps_out h with ⟨rfl, rfl⟩ | ⟨b, D, rfl, h1, h2⟩
  · have hk : keyOf Try.prog 3 (.int .i64 x) = some (.int .i64 x) := Maps.keyOf_int_mk Try.underlying3 hx
    rw [Maps.look_nil true plaw3 Try.underlying67 (pzeroU w) hk]
    simp
  · have hk : keyOf Try.prog 3 (.int .i64 x) = some (.int .i64 x) := Maps.keyOf_int_mk Try.underlying3 hx
    obtain ⟨v, ps, hr, hv⟩ := h1.look_ok plaw3 Try.underlying67 (pzeroU w) (zd := .agg []) (zp := []) unitElem_mk hk
    obtain ⟨rfl, _⟩ := unitElem_inv hv
    rw [hr, h2 x hx]
set_option maxHeartbeats 4000000 in
set_option maxRecDepth 100000 in
theorem AcksLow (h : Own w0 w (Acks g L :: R)) : Calls Try.prog 21 #[.pointer (some ⟨g, 0, none⟩)] w fun e w' => ∃ low : Nat, LowIs L low ∧ e = .returned (.int .i64 low) ∧ w = w' := by
  obtain ⟨low, M, v, h1, h2⟩ := acks_open h
  have y0 := (blk_cell h2.at0 0).trans rfl
  have H1 := Aside0.mk h1
  clear h h1 h2
  go_enter Try.func21, Try.ntmps21
  go_wp2
  go_ret
  exact ⟨low, H1.out.2.1, rfl, rfl⟩
theorem has_iff {low : Nat} {M : List Int} (h : Right L ∧ LowIs L low ∧ SetIs L low M) (n : Int) : n ∈ L ↔ n ∈ M ∨ (1 ≤ n ∧ n ≤ low) := by
  obtain ⟨h1, h2, h3⟩ := h
  rw [h3.2]
  constructor
  · intro hn
    have := h1.2 n hn
    by_cases hl : n ≤ low
    · exact .inr ⟨by omega, hl⟩
    · exact .inl ⟨hn, by omega⟩
  · rintro (h | h)
    · exact h.1
    · exact h2.1 n h.1 h.2
set_option maxHeartbeats 4000000 in
set_option maxRecDepth 100000 in
theorem AcksHas (h : Own w0 w (Acks g L :: R)) (n : Int) (hn : (Lit.int .i64 n).wf = true) : Calls Try.prog 27 #[.pointer (some ⟨g, 0, none⟩), .int .i64 n] w fun e w' => e = .returned (.bool (decide (n ∈ L))) ∧ Own w0 w' (Acks g L :: R) := by
  obtain ⟨low, M, v, h1, h2⟩ := acks_open h
  have y0 := (blk_cell h2.at0 0).trans rfl
  have y1 := (blk_cell h2.at0 1).trans rfl
  have z0 := (blk_cell (blk_alloc h2.at0 (.cells #[] 74)) 0).trans rfl
  have hl := look_run h2.tail n hn
  have H1 := Aside0.mk h1
  have H := Aside0.mk h
  clear h h1 h2
  go_enter Try.func27, Try.ntmps27
  go_wp2
  · have hm : n ∈ M := by assumption
    go_ret
    exact ⟨by rw [decide_eq_true ((has_iff H1.out n).2 (.inl hm))]; rfl, H.out.junk _⟩
  · have hm : ¬ n ∈ M := by assumption
    have h1 : 1 ≤ n := by assumption
    go_ret
    exact ⟨by rw [show decide (n ∈ L) = decide (n ≤ (low : Int)) from decide_eq_decide.2 ((has_iff H1.out n).trans ⟨fun q => q.elim (fun q => absurd q hm) fun q => q.2, fun q => .inr ⟨h1, q⟩⟩)]; rfl, H.out.junk _⟩
  · have hm : ¬ n ∈ M := by assumption
    have h1 : ¬ 1 ≤ n := by first | assumption | (intro q; omega)
    go_ret
    exact ⟨by rw [decide_eq_false (fun q => by rcases (has_iff H1.out n).1 q with q | q; exact hm q; exact h1 q.1)]; rfl, H.out.junk _⟩
set_option maxHeartbeats 4000000 in
set_option maxRecDepth 100000 in
theorem AcksHas_nil (n : Int) (w : World) : Calls Try.prog 27 #[.pointer none, .int .i64 n] w fun e w' => e = .returned (.bool false) ∧ w = w' := by
  go_enter Try.func27, Try.ntmps27
  go_wp2
  go_ret
  exact ⟨rfl, rfl⟩
theorem sort_ex : ∀ K : List Int, ∃ M : List Int, M.Pairwise (· < ·) ∧ ∀ x, x ∈ M ↔ x ∈ K
  | [] => ⟨[], List.Pairwise.nil, fun _ => Iff.rfl⟩
  | y :: K => by
    obtain ⟨M, h1, h2⟩ := sort_ex K
    by_cases hy : y ∈ M
    · exact ⟨M, h1, fun x => ⟨fun h => List.mem_cons_of_mem _ ((h2 x).1 h), fun h => by
        rcases List.mem_cons.1 h with rfl | h
        · exact hy
        · exact (h2 x).2 h⟩⟩
    · refine ⟨M.filter (· < y) ++ y :: M.filter (y < ·), ?_, fun x => ?_⟩
      · rw [List.pairwise_append]
        refine ⟨h1.filter _, List.pairwise_cons.2 ⟨fun a ha => by simpa using (List.mem_filter.1 ha).2, h1.filter _⟩, fun a ha b hb => ?_⟩
        have ha := (List.mem_filter.1 ha).2
        have ha : a < y := by simpa using ha
        rcases List.mem_cons.1 hb with rfl | hb
        · exact ha
        · have hb := (List.mem_filter.1 hb).2
          have hb : y < b := by simpa using hb
          omega
      · rw [List.mem_append, List.mem_cons, List.mem_filter, List.mem_filter, List.mem_cons, ← h2 x]
        constructor
        · rintro (h | h | h)
          · exact .inr h.1
          · exact .inl h
          · exact .inr h.1
        · rintro (h | h)
          · exact .inr (.inl h)
          · rcases Int.lt_trichotomy x y with q | q | q
            · exact .inl ⟨h, by simpa using q⟩
            · exact .inr (.inl q)
            · exact .inr (.inr ⟨h, by simpa using q⟩)
theorem maps_congr {v : Value} {n m : Nat} {K K' : List Int} (hk : ∀ x, x ∈ K ↔ x ∈ K') (hn : n = m) (h : Own w0 w (MapS v n K :: R)) : Own w0 w (MapS v m K' :: R) := by
  subst hn
  obtain ⟨F, h1, h2⟩ := h.sat
  refine ⟨h.bel, F, ?_, h2⟩
  rcases h1 with ⟨h1, rfl, h3⟩ | ⟨b, D, h1, h3, h4, h5⟩
  · exact .inl ⟨h1, by cases K' with | nil => rfl | cons y K' => exact absurd ((hk y).2 (List.mem_cons_self ..)) (by simp), h3⟩
  · exact .inr ⟨b, D, h1, h3, h4, fun x hx => (h5 x hx).trans (decide_eq_decide.2 (hk x))⟩
end
end Go.Proofs.Ytdjcndcleaffkaa.PChunksPlays
