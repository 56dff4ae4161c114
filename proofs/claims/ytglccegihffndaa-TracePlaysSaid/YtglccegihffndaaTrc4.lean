/- Traces (package trace): Outs, Items. -/
import Derived.Test.YtglccegihffndaaTrc3
namespace Go.Proofs.Ytglccegihffndaa.PTracePlays
open Go.RowKit Go.Proofs.YtglccegihffndaaW.PrintWords Go.Proofs.YtglccegihffndaaW.PrintLast Go.Proofs.YtglccegihffndaaW.PrintMore
open Go.Proofs.YtglccegihffndaaO
attribute [local go_sem] max2_int min2_int max_two min_two max_three min_three max_four min_four
set_option linter.unusedVariables false
set_option linter.unusedSimpArgs false
theorem set_same {α : Type} {l : List α} {i : Nat} {p : α} (h : l[i]? = some p) : l.set i p = l := by
  apply List.ext_getElem?
  intro j
  rw [List.getElem?_set]
  split
  · rename_i e
    subst e
    rw [h]
    have := (List.getElem?_eq_some_iff.1 h).1
    rw [if_pos this]
  · rfl
/-- What was put for a shard. -/
def sAt (ss : List (List TO × List TA)) (part : Int) : List TO × List TA := if inB ss.length part = true then ss.getD part.toNat ([], []) else ([], [])
section
variable {w0 w w' : World} {R : List Asn} {g : Nat} {ss : List (List TO × List TA)}
theorem in_nat {n : Nat} {part : Int} (h : inB n part = true) : ∃ i : Nat, part = i ∧ i < n := by
  have := of_decide_eq_true h
  exact ⟨part.toNat, by omega, by omega⟩
theorem sAt_in {i : Nat} {s : List TO × List TA} (h : ss[i]? = some s) : sAt ss (i : Int) = s := by
  have hi := (List.getElem?_eq_some_iff.1 h).1
  unfold sAt
  rw [if_pos (show inB ss.length (i : Int) = true from decide_eq_true (by omega)), Int.toNat_natCast, List.getD_eq_getElem?_getD, h]
  rfl
theorem sAt_out {part : Int} (h : inB ss.length part = false) : sAt ss part = ([], []) := by
  unfold sAt
  rw [if_neg (by rw [h]; decide)]
/-- A shard's cells and rows. -/
theorem tr_at (h : Own w0 w (Tr g ss :: R)) (i : Nat) (s : List TO × List TA) (hs : ss[i]? = some s) : ∃ (b : Nat) (A1 A2 : Option Addr) (c1 c2 : Nat), Own w0 w (Blk g (.cells #[.slice (some ⟨b, 0, none⟩) ss.length ss.length] 55 (0, 0)) :: []) ∧ w.cell? ⟨b, i * 2, none⟩ = some (.slice A1 s.1.length c1) ∧ w.cell? ⟨b, i * 2 + 1, none⟩ = some (.slice A2 s.2.length c2) ∧ Kd.C k46 w A1 s.1.length s.1 ∧ Kd.C k48 w A2 s.2.length s.2 := by
  obtain ⟨b, ps, hf, h2⟩ := tr_open h
  have hi := (List.getElem?_eq_some_iff.1 hs).1
  have hp : ps[i]? = some ps[i] := List.getElem?_eq_getElem (by omega)
  obtain ⟨z1, z2⟩ := cellsV_at ps i _ hp
  have h3 := rows_take i hp hs h2.r2
  obtain ⟨A1, c1, e1, _, C1⟩ := h3.row_reads
  obtain ⟨A2, c2, e2, _, C2⟩ := h3.tail.row_reads
  refine ⟨b, A1, A2, c1, c2, h2.pick [0], ?_, ?_, C1, C2⟩
  · rw [← e1]
    exact (blk_cell h2.at1 (i * 2)).trans (by simpa using z1)
  · rw [← e2]
    exact (blk_cell h2.at1 (i * 2 + 1)).trans (by simpa using z2)
theorem cloneT_raw (w : World) (A : Option Addr) (c : Nat) (l : List TO) (hC : Kd.C k46 w A l.length l) (hl : l.length ≤ 1000000000) :
    Calls Try.prog 19 #[.slice A l.length c] w fun e w' => ∃ v0_ : Value, e = .returned v0_ ∧ Kd.R k46 46 w' w.heap.size (fun _ => True) v0_ l ∧ Below w.heap.size w w' := by
  cases A with
  | none => exact cloneT_none w c l hC
  | some a => exact cloneT_some w a c l hC (by omega)
set_option maxHeartbeats 4000000 in
set_option maxRecDepth 100000 in
theorem TrOuts_nil (part : Int) (w : World) : Calls Try.prog 11 #[.pointer none, .int .i64 part] w fun e w' => e = .returned (.slice none 0 0) ∧ w = w' := by
  go_enter Try.func11, Try.ntmps11
  go_wp2_with (go_at_call 18; ((with_reducible refine (find_nil part w).mono ?_)); rintro e w1 ⟨rfl, rfl⟩)
  go_ret
  exact ⟨rfl, rfl⟩
set_option maxHeartbeats 4000000 in
set_option maxRecDepth 100000 in
theorem TrOuts_out (h : Own w0 w (Tr g ss :: R)) (part : Int) (hb : inB ss.length part = false) : Calls Try.prog 11 #[.pointer (some ⟨g, 0, none⟩), .int .i64 part] w fun e w' => e = .returned (.slice none 0 0) ∧ w = w' := by
  obtain ⟨b, ps, hf, h2⟩ := tr_open h
  have HC := Aside0.mk (find_out (ss := ss) b h2 part hb)
  clear h h2 hf hb
  go_enter Try.func11, Try.ntmps11
  go_wp2_with (go_at_call 18; ((with_reducible refine (HC.out).mono ?_)); rintro e w1 ⟨rfl, rfl⟩)
  go_ret
  exact ⟨rfl, rfl⟩
set_option maxHeartbeats 4000000 in
set_option maxRecDepth 100000 in
theorem TrOuts_in (h : Own w0 w (Tr g ss :: R)) (i : Nat) (s : List TO × List TA) (hs : ss[i]? = some s) (hl : s.1.length ≤ 1000000000) : Calls Try.prog 11 #[.pointer (some ⟨g, 0, none⟩), .int .i64 i] w fun e w' => ∃ A c, e = .returned (.slice A s.1.length c) ∧ Own w0 w' (Row k46 46 (.slice A s.1.length c) s.1 :: Tr g ss :: R) := by
  obtain ⟨b, A1, A2, c1, c2, h2, y1, y2, C1, C2⟩ := tr_at h i s hs
  have hi := (List.getElem?_eq_some_iff.1 hs).1
  have HC := Aside0.mk (find_in b h2 i hi)
  have HS := Aside0.mk (cloneT_raw w A1 c1 s.1 C1 hl)
  have H := Aside0.mk h
  clear h h2 C1 C2 hl hs hi
  go_enter Try.func11, Try.ntmps11
  go_wp2_with (first
    | (go_at_call 18; ((with_reducible refine (HC.out).mono ?_)); rintro e w1 ⟨rfl, rfl⟩)
    | (go_at_call 19; ((with_reducible refine (HS.out).mono ?_)); rintro e w1 ⟨v, rfl, hr, hb⟩; obtain ⟨A3, c3, e3⟩ := Kd.R_slice hr; subst e3; have H1 := Aside0.mk (H.out.row_new hb hr); clear hr hb))
  go_ret
  exact ⟨_, _, rfl, H1.out⟩
theorem TrOuts (h : Own w0 w (Tr g ss :: R)) (part : Int) (hl : (sAt ss part).1.length ≤ 1000000000) : Calls Try.prog 11 #[.pointer (some ⟨g, 0, none⟩), .int .i64 part] w fun e w' => ∃ A c, e = .returned (.slice A (sAt ss part).1.length c) ∧ Own w0 w' (Row k46 46 (.slice A (sAt ss part).1.length c) (sAt ss part).1 :: Tr g ss :: R) := by
  cases hb : inB ss.length part with
  | false =>
    rw [sAt_out hb]
    exact (TrOuts_out h part hb).mono fun e w' ⟨h1, h2⟩ => ⟨none, 0, h1, h2 ▸ h.row_nil _ _⟩
  | true =>
    obtain ⟨i, rfl, hi⟩ := in_nat hb
    have hs := List.getElem?_eq_getElem hi
    rw [sAt_in hs] at hl ⊢
    exact TrOuts_in h i _ hs hl
theorem cloneA_raw (w : World) (A : Option Addr) (c : Nat) (l : List TA) (hC : Kd.C k48 w A l.length l) (hl : l.length ≤ 1000000000) :
    Calls Try.prog 20 #[.slice A l.length c] w fun e w' => ∃ v0_ : Value, e = .returned v0_ ∧ Kd.R k48 48 w' w.heap.size (fun _ => True) v0_ l ∧ Below w.heap.size w w' := by
  cases A with
  | none => exact cloneA_none w c l hC
  | some a => exact cloneA_some w a c l hC (by omega)
set_option maxHeartbeats 4000000 in
set_option maxRecDepth 100000 in
theorem TrItems_nil (part : Int) (w : World) : Calls Try.prog 12 #[.pointer none, .int .i64 part] w fun e w' => e = .returned (.slice none 0 0) ∧ w = w' := by
  go_enter Try.func12, Try.ntmps12
  go_wp2_with (go_at_call 18; ((with_reducible refine (find_nil part w).mono ?_)); rintro e w1 ⟨rfl, rfl⟩)
  go_ret
  exact ⟨rfl, rfl⟩
set_option maxHeartbeats 4000000 in
set_option maxRecDepth 100000 in
theorem TrItems_out (h : Own w0 w (Tr g ss :: R)) (part : Int) (hb : inB ss.length part = false) : Calls Try.prog 12 #[.pointer (some ⟨g, 0, none⟩), .int .i64 part] w fun e w' => e = .returned (.slice none 0 0) ∧ w = w' := by
  obtain ⟨b, ps, hf, h2⟩ := tr_open h
  have HC := Aside0.mk (find_out (ss := ss) b h2 part hb)
  clear h h2 hf hb
  go_enter Try.func12, Try.ntmps12
  go_wp2_with (go_at_call 18; ((with_reducible refine (HC.out).mono ?_)); rintro e w1 ⟨rfl, rfl⟩)
  go_ret
  exact ⟨rfl, rfl⟩
set_option maxHeartbeats 4000000 in
set_option maxRecDepth 100000 in
theorem TrItems_in (h : Own w0 w (Tr g ss :: R)) (i : Nat) (s : List TO × List TA) (hs : ss[i]? = some s) (hl : s.2.length ≤ 1000000000) : Calls Try.prog 12 #[.pointer (some ⟨g, 0, none⟩), .int .i64 i] w fun e w' => ∃ A c, e = .returned (.slice A s.2.length c) ∧ Own w0 w' (Row k48 48 (.slice A s.2.length c) s.2 :: Tr g ss :: R) := by
  obtain ⟨b, A1, A2, c1, c2, h2, y1, y2, C1, C2⟩ := tr_at h i s hs
  have hi := (List.getElem?_eq_some_iff.1 hs).1
  have HC := Aside0.mk (find_in b h2 i hi)
  have HS := Aside0.mk (cloneA_raw w A2 c2 s.2 C2 hl)
  have H := Aside0.mk h
  clear h h2 C1 C2 hl hs hi
  go_enter Try.func12, Try.ntmps12
  go_wp2_with (first
    | (go_at_call 18; ((with_reducible refine (HC.out).mono ?_)); rintro e w1 ⟨rfl, rfl⟩)
    | (go_at_call 20; ((with_reducible refine (HS.out).mono ?_)); rintro e w1 ⟨v, rfl, hr, hb⟩; obtain ⟨A3, c3, e3⟩ := Kd.R_slice hr; subst e3; have H1 := Aside0.mk (H.out.row_new hb hr); clear hr hb))
  go_ret
  exact ⟨_, _, rfl, H1.out⟩
theorem TrItems (h : Own w0 w (Tr g ss :: R)) (part : Int) (hl : (sAt ss part).2.length ≤ 1000000000) : Calls Try.prog 12 #[.pointer (some ⟨g, 0, none⟩), .int .i64 part] w fun e w' => ∃ A c, e = .returned (.slice A (sAt ss part).2.length c) ∧ Own w0 w' (Row k48 48 (.slice A (sAt ss part).2.length c) (sAt ss part).2 :: Tr g ss :: R) := by
  cases hb : inB ss.length part with
  | false =>
    rw [sAt_out hb]
    exact (TrItems_out h part hb).mono fun e w' ⟨h1, h2⟩ => ⟨none, 0, h1, h2 ▸ h.row_nil _ _⟩
  | true =>
    obtain ⟨i, rfl, hi⟩ := in_nat hb
    have hs := List.getElem?_eq_getElem hi
    rw [sAt_in hs] at hl ⊢
    exact TrItems_in h i _ hs hl
end
end Go.Proofs.Ytglccegihffndaa.PTracePlays
