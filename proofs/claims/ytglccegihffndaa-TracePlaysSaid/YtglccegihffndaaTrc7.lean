/- Traces (package trace): what is put, for any shard. -/
import Derived.Test.YtglccegihffndaaTrc6
namespace Go.Proofs.Ytglccegihffndaa.PTracePlays
open Go.RowKit Go.Proofs.YtglccegihffndaaW.PrintWords Go.Proofs.YtglccegihffndaaW.PrintLast Go.Proofs.YtglccegihffndaaW.PrintMore
open Go.Proofs.YtglccegihffndaaO
attribute [local go_sem] max2_int min2_int max_two min_two max_three min_three max_four min_four
set_option linter.unusedVariables false
set_option linter.unusedSimpArgs false
/-- The error's number. -/
def errR (n : Nat) (part : Int) : Int := if inB n part = true then 0 else 21
/-- What stands behind Tell, and behind Apply. -/
def tellR (ss : List (List TO × List TA)) (part node epoch : Int) (l : List S44) : List (List TO × List TA) := if inB ss.length part = true then ss.set part.toNat ((sAt ss part).1 ++ l.map (fun x => ⟨x, node, epoch⟩), (sAt ss part).2) else ss
def applyR (ss : List (List TO × List TA)) (part : Int) (x : S31) (code : Int) : List (List TO × List TA) := if inB ss.length part = true then ss.set part.toNat ((sAt ss part).1, (sAt ss part).2 ++ [⟨x, code⟩]) else ss
theorem tellR_len (ss : List (List TO × List TA)) (part node epoch : Int) (l : List S44) : (tellR ss part node epoch l).length = ss.length := by unfold tellR; split <;> simp
theorem applyR_len (ss : List (List TO × List TA)) (part : Int) (x : S31) (code : Int) : (applyR ss part x code).length = ss.length := by unfold applyR; split <;> simp
theorem sAt_set (ss : List (List TO × List TA)) (part q : Int) (s : List TO × List TA) (hp : inB ss.length part = true) : sAt (ss.set part.toNat s) q = if q = part then s else sAt ss q := by
  obtain ⟨i, rfl, hi⟩ := in_nat hp
  rw [Int.toNat_natCast]
  by_cases hq : inB ss.length q = true
  · obtain ⟨j, rfl, hj⟩ := in_nat hq
    have e1 : (ss.set i s)[j]? = some (if (j : Int) = (i : Int) then s else ss[j]) := by
      rw [List.getElem?_set]
      by_cases h : i = j
      · subst h
        rw [if_pos rfl, if_pos hi, if_pos rfl]
      · rw [if_neg h, List.getElem?_eq_getElem hj, if_neg (by omega)]
    rw [sAt_in e1, sAt_in (List.getElem?_eq_getElem hj)]
  · have h1 : inB ss.length q = false := by simpa using hq
    have h2 : inB (ss.set i s).length q = false := by rw [List.length_set]; exact h1
    rw [sAt_out h1, sAt_out h2, if_neg]
    rintro rfl
    rw [hp] at h1
    cases h1
theorem sAt_tell (ss : List (List TO × List TA)) (part node epoch : Int) (l : List S44) (q : Int) : sAt (tellR ss part node epoch l) q = if inB ss.length part = true ∧ q = part then ((sAt ss q).1 ++ l.map (fun x => ⟨x, node, epoch⟩), (sAt ss q).2) else sAt ss q := by
  unfold tellR
  by_cases h : inB ss.length part = true
  · rw [if_pos h, sAt_set ss part q _ h]
    by_cases e : q = part
    · subst e
      rw [if_pos rfl, if_pos ⟨h, rfl⟩]
    · rw [if_neg e, if_neg fun x => e x.2]
  · rw [if_neg h, if_neg fun x => h x.1]
theorem sAt_apply (ss : List (List TO × List TA)) (part : Int) (x : S31) (code : Int) (q : Int) : sAt (applyR ss part x code) q = if inB ss.length part = true ∧ q = part then ((sAt ss q).1, (sAt ss q).2 ++ [⟨x, code⟩]) else sAt ss q := by
  unfold applyR
  by_cases h : inB ss.length part = true
  · rw [if_pos h, sAt_set ss part q _ h]
    by_cases e : q = part
    · subst e
      rw [if_pos rfl, if_pos ⟨h, rfl⟩]
    · rw [if_neg e, if_neg fun x => e x.2]
  · rw [if_neg h, if_neg fun x => h x.1]
section
variable {w0 w w' : World} {R : List Asn} {g : Nat} {ss : List (List TO × List TA)}
set_option maxHeartbeats 4000000 in
set_option maxRecDepth 100000 in
theorem TrTell_no (h : ∀ part w', w = w' → Calls Try.prog 18 #[.pointer (some ⟨g, 0, none⟩), .int .i64 part] w' fun e w' => e = .returned (.tuple #[.pointer none, .int .i64 2]) ∧ w = w') (part node epoch : Int) (v : Value) : Calls Try.prog 13 #[.pointer (some ⟨g, 0, none⟩), .int .i64 part, .int .i64 node, .int .i64 epoch, v] w fun e w' => e = .returned (.int .i64 2) ∧ w = w' := by
  have HC := Aside0.mk (h part w rfl)
  clear h
  go_enter Try.func13, Try.ntmps13
  go_wp2_with (go_at_call 18; ((with_reducible refine (HC.out).mono ?_)); rintro e w1 ⟨rfl, rfl⟩)
  go_ret
  exact ⟨rfl, rfl⟩
set_option maxHeartbeats 4000000 in
set_option maxRecDepth 100000 in
theorem TrTell_nil (part node epoch : Int) (v : Value) (w : World) : Calls Try.prog 13 #[.pointer none, .int .i64 part, .int .i64 node, .int .i64 epoch, v] w fun e w' => e = .returned (.int .i64 2) ∧ w = w' := by
  go_enter Try.func13, Try.ntmps13
  go_wp2_with (go_at_call 18; ((with_reducible refine (find_nil part w).mono ?_)); rintro e w1 ⟨rfl, rfl⟩)
  go_ret
  exact ⟨rfl, rfl⟩
set_option maxHeartbeats 4000000 in
set_option maxRecDepth 100000 in
theorem TrTell_out (h : Own w0 w (Tr g ss :: R)) (part node epoch : Int) (v : Value) (hb : inB ss.length part = false) : Calls Try.prog 13 #[.pointer (some ⟨g, 0, none⟩), .int .i64 part, .int .i64 node, .int .i64 epoch, v] w fun e w' => e = .returned (.int .i64 21) ∧ w = w' := by
  obtain ⟨b, ps, hf, h2⟩ := tr_open h
  have HC := Aside0.mk (find_out (ss := ss) b h2 part hb)
  clear h h2 hf hb
  go_enter Try.func13, Try.ntmps13
  go_wp2_with (go_at_call 18; ((with_reducible refine (HC.out).mono ?_)); rintro e w1 ⟨rfl, rfl⟩)
  go_ret
  exact ⟨rfl, rfl⟩
set_option maxHeartbeats 4000000 in
set_option maxRecDepth 100000 in
theorem TrApply_nil (part : Int) (x : S31) (code : Int) (w : World) : Calls Try.prog 14 #[.pointer none, .int .i64 part, .agg (itemV x), .int .i64 code] w fun e w' => e = .returned (.int .i64 2) ∧ Below w.heap.size w w' := by
  have HB := Aside0.mk (below_alloc (Below.refl w.heap.size w) (.cells (itemV x) 31))
  obtain ⟨x0, x1, x2, x3, x4, x5, x6, x7⟩ := x
  unfold itemV at *
  dsimp only at *
  go_enter Try.func14, Try.ntmps14
  go_wp2_with (go_at_call 18; ((with_reducible refine (find_nil part _).mono ?_)); rintro e w1 ⟨rfl, rfl⟩)
  go_ret
  exact ⟨rfl, HB.out⟩
set_option maxHeartbeats 4000000 in
set_option maxRecDepth 100000 in
theorem TrApply_out (h : Own w0 w (Tr g ss :: R)) (part : Int) (x : S31) (code : Int) (hb : inB ss.length part = false) : Calls Try.prog 14 #[.pointer (some ⟨g, 0, none⟩), .int .i64 part, .agg (itemV x), .int .i64 code] w fun e w' => e = .returned (.int .i64 21) ∧ Own w0 w' (Tr g ss :: R) := by
  have HB := Aside0.mk (h.junk (.cells (itemV x) 31))
  obtain ⟨b, ps, hf, h2⟩ := tr_open (h.junk (.cells (itemV x) 31))
  have HC := Aside0.mk (find_out (ss := ss) b h2 part hb)
  obtain ⟨x0, x1, x2, x3, x4, x5, x6, x7⟩ := x
  unfold itemV at *
  dsimp only at *
  clear h h2 hf hb
  go_enter Try.func14, Try.ntmps14
  go_wp2_with (go_at_call 18; ((with_reducible refine (HC.out).mono ?_)); rintro e w1 ⟨rfl, rfl⟩)
  go_ret
  exact ⟨rfl, HB.out⟩
theorem TrTell (h : Own w0 w (Tr g ss :: R)) (part node epoch : Int) (A : Option Addr) (n c : Nat) (l : List S44) (hn : l.length = n) (hl : (sAt ss part).1.length + n ≤ 1000000000) (hrd : ∀ v, Own w0 v R → Kd.C k44 v A l.length l) : Calls Try.prog 13 #[.pointer (some ⟨g, 0, none⟩), .int .i64 part, .int .i64 node, .int .i64 epoch, .slice A n c] w fun e w' => e = .returned (.int .i64 (errR ss.length part)) ∧ Own w0 w' (Tr g (tellR ss part node epoch l) :: R) := by
  unfold errR tellR
  by_cases hb : inB ss.length part = true
  · rw [if_pos hb, if_pos hb]
    obtain ⟨i, rfl, hi⟩ := in_nat hb
    have hs := List.getElem?_eq_getElem hi
    rw [sAt_in hs] at hl ⊢
    exact TrTell_in h i _ hs node epoch A n c l hn hl hrd
  · rw [if_neg hb, if_neg hb]
    exact (TrTell_out h part node epoch _ (by simpa using hb)).mono fun e w' ⟨h1, h2⟩ => ⟨h1, h2 ▸ h⟩
theorem TrApply (h : Own w0 w (Tr g ss :: R)) (part : Int) (x : S31) (code : Int) (hl : (sAt ss part).2.length ≤ 1000000000) : Calls Try.prog 14 #[.pointer (some ⟨g, 0, none⟩), .int .i64 part, .agg (itemV x), .int .i64 code] w fun e w' => e = .returned (.int .i64 (errR ss.length part)) ∧ Own w0 w' (Tr g (applyR ss part x code) :: R) := by
  unfold errR applyR
  by_cases hb : inB ss.length part = true
  · rw [if_pos hb, if_pos hb]
    obtain ⟨i, rfl, hi⟩ := in_nat hb
    have hs := List.getElem?_eq_getElem hi
    rw [sAt_in hs] at hl ⊢
    exact TrApply_in h i _ hs hl x code
  · rw [if_neg hb, if_neg hb]
    exact TrApply_out h part x code (by simpa using hb)
/-- One window, laid in a block of its own. -/
theorem blk_one {v : World} {gb : Nat} {L : List Asn} (x : S44) (h : Own w0 v (Blk gb (.cells (outV x) 44 (0, 0)) :: L)) : Kd.C k44 v (some ⟨gb, 0, none⟩) ([x] : List S44).length [x] := by
  refine ⟨rfl, by simp, fun _ => ⟨_, rfl, fun j p hj => ?_⟩⟩
  have hj0 : j = 0 := by have := (List.getElem?_eq_some_iff.1 hj).1; simp at this; omega
  subst hj0
  obtain rfl := Option.some.inj hj
  refine ⟨_, rfl, k44_mk v x, fun i u hu => ?_⟩
  rw [Nat.zero_mul, add_at, Nat.zero_add]
  exact (blk_cell h.at0 i).trans (by simpa [outV] using hu)
end
end Go.Proofs.Ytglccegihffndaa.PTracePlays
