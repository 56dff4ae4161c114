/- Traces: acts that are laid aside; rows of numbers. -/
import Derived.Test.YtglccegihffndaaTrc9
namespace Go.Proofs.Ytglccegihffndaa.PTracePlays
open Go.RowKit Go.Proofs.YtglccegihffndaaW.PrintWords Go.Proofs.YtglccegihffndaaW.PrintLast Go.Proofs.YtglccegihffndaaW.PrintMore
open Go.Proofs.YtglccegihffndaaO
attribute [local go_sem] max2_int min2_int max_two min_two max_three min_three max_four min_four
set_option linter.unusedVariables false
set_option linter.unusedSimpArgs false
/-- An act is stored into a place of its own. -/
theorem act_store {w0 wb : World} {L : List Asn} {gb t : Nat} (v0 v1 v2 v3 v4 v5 v6 v7 v8 v9 v10 v11 v12 v13 : Value) (h : Own w0 wb (Blk gb (.cells #[.int .i64 0, .int .i64 0, .int .i64 0, .int .i64 0, .slice none 0 0, .int .i64 0, .int .i64 0, .int .i64 0, .int .u8 0, .string ⟨#[]⟩, .int .i64 0, .int .i64 0, .int .i64 0, .int .i64 0] t (0, 0)) :: L)) : Own w0 ((((((((((((((wb.setCell ⟨gb, 0, none⟩ v0).setCell ⟨gb, 1, none⟩ v1).setCell ⟨gb, 2, none⟩ v2).setCell ⟨gb, 3, none⟩ v3).setCell ⟨gb, 4, none⟩ v4).setCell ⟨gb, 5, none⟩ v5).setCell ⟨gb, 6, none⟩ v6).setCell ⟨gb, 7, none⟩ v7).setCell ⟨gb, 8, none⟩ v8).setCell ⟨gb, 9, none⟩ v9).setCell ⟨gb, 10, none⟩ v10).setCell ⟨gb, 11, none⟩ v11).setCell ⟨gb, 12, none⟩ v12).setCell ⟨gb, 13, none⟩ v13) (Blk gb (.cells #[v0, v1, v2, v3, v4, v5, v6, v7, v8, v9, v10, v11, v12, v13] t (0, 0)) :: L) := by
  have h1 := ((((((((((((((h.set 0 v0).set 1 v1).set 2 v2).set 3 v3).set 4 v4).set 5 v5).set 6 v6).set 7 v7).set 8 v8).set 9 v9).set 10 v10).set 11 v11).set 12 v12).set 13 v13)
  simpa using h1
/-- How many windows, and items, each shard has. -/
def cnt1 (ss : List (List TO × List TA)) : List Int := ss.map fun s => (s.1.length : Int)
def cnt2 (ss : List (List TO × List TA)) : List Int := ss.map fun s => (s.2.length : Int)
theorem cnt1_set (ss : List (List TO × List TA)) (i : Nat) (s : List TO × List TA) : cnt1 (ss.set i s) = (cnt1 ss).set i (s.1.length : Int) := by unfold cnt1; rw [List.map_set]
theorem cnt2_set (ss : List (List TO × List TA)) (i : Nat) (s : List TO × List TA) : cnt2 (ss.set i s) = (cnt2 ss).set i (s.2.length : Int) := by unfold cnt2; rw [List.map_set]
theorem cnt1_at {ss : List (List TO × List TA)} {i : Nat} {s : List TO × List TA} (h : ss[i]? = some s) : (cnt1 ss)[i]? = some (s.1.length : Int) := by unfold cnt1; rw [List.getElem?_map, h]; rfl
theorem cnt2_at {ss : List (List TO × List TA)} {i : Nat} {s : List TO × List TA} (h : ss[i]? = some s) : (cnt2 ss)[i]? = some (s.2.length : Int) := by unfold cnt2; rw [List.getElem?_map, h]; rfl
section
variable {w0 w w' : World} {R : List Asn} {g : Nat} {ss : List (List TO × List TA)}
theorem rowput {e b n cap : Nat} {ys : List Int} (h : Own w0 w (Row (Kd.int .i64) e (.slice (some ⟨b, 0, none⟩) n cap) ys :: R)) (i : Nat) (x : Int) : Own w0 (w.setCell ⟨b, i, none⟩ (.int .i64 x)) (Row (Kd.int .i64) e (.slice (some ⟨b, 0, none⟩) n cap) (ys.set i x) :: R) := by
  have hbel := h.bel
  refine h.row_step fun F hF hb => ?_
  have hFb : F b := hF.1 b (by simp [Value.ownBlock])
  have hp := Kd.R_putn hF (i : Int) x
  rw [Int.toNat_natCast] at hp
  exact ⟨hbel.setCell (hb b hFb).1 _, Nat.le_of_eq (by simp), fun k _ hn => Below.heap_setCell w _ _ k (fun e => hn (e ▸ hFb)), F, hp, fun k hk => .inl hk⟩
theorem rowmade (h : Own w0 w R) (e m : Nat) (hm : m ≤ 9223372036854775807) : Own w0 (w.alloc (.cells (madeCells #[Value.int .i64 0] m) e)) (Row (Kd.int .i64) e (.slice (some ⟨w.heap.size, 0, none⟩) m m) (List.replicate m 0) :: R) :=
  h.row_new (ok := fun k => k = w.heap.size) (below_alloc (Below.refl _ _) _) (Kd.R_of_own (own_made_of' (enc := Value.int .i64) (d := 0) w w.heap.size e m (Nat.le_refl _) hm) fun k hk => by simpa [Value.ownBlock] using hk.symm)
theorem int_cell {e b n c : Nat} {l : List Int} (h : Own w0 w (Row (Kd.int .i64) e (.slice (some ⟨b, 0, none⟩) n c) l :: R)) (j : Nat) (x : Int) (hx : l[j]? = some x) : w.cell? ⟨b, j, none⟩ = some (.int .i64 x) ∧ w.frozen? ⟨b, j, none⟩ = false := by
  obtain ⟨cs, h1, h2⟩ := row_blk h
  obtain ⟨c', hK, hc⟩ := h2 j x hx
  have hK : c' = [.int .i64 x] := hK
  subst hK
  have h3 := hc 0 _ rfl
  refine ⟨(blk_cell h1.at0 j).trans ?_, blk_frozen h1.at0 j⟩
  have e1 : j * (Kd.int .i64).sz + 0 = j := by show j * 1 + 0 = j; omega
  rw [e1] at h3
  exact h3
theorem TrShardsE (h : Own w0 w (Tr g ss :: R)) (n : Nat) (hn : ss.length = n) : Calls Try.prog 16 #[.pointer (some ⟨g, 0, none⟩)] w fun e w' => e = .returned (.int .i64 n) ∧ w = w' := by
  subst hn
  exact TrShards h
theorem put_callsE (h : Own w0 w (Tr g ss :: R)) (x : S33) (A : Option Addr) (c : Nat) (hl : (sAt ss x.f1).1.length + x.f4.length ≤ 1000000000 ∧ (sAt ss x.f1).2.length ≤ 1000000000) (hrd : ∀ v, Own w0 v R → Kd.C k44 v A x.f4.length x.f4) (r : Int) (hr : putE ss.length x = r) (ss' : List (List TO × List TA)) (hs : doA ss x = ss') : Calls Try.prog 15 #[.pointer (some ⟨g, 0, none⟩), .agg (actV x A c)] w fun e w' => e = .returned (.int .i64 r) ∧ Own w0 w' (Tr g ss' :: R) := by
  subst hr
  subst hs
  exact put_calls h x A c hl hrd
end
end Go.Proofs.Ytglccegihffndaa.PTracePlays
