/- Numbers that came (package acks): Add. -/
import Derived.Test.YtdjcndcleaffkaaAck1
import Derived.Carry
import Derived.Deep.LoopGhost
namespace Go.Proofs.Ytdjcndcleaffkaa.PChunksPlays
open Go.RowKit Go.Proofs.YtdjcndcleaffkaaW.PrintWords Go.Proofs.YtdjcndcleaffkaaW.PrintLast Go.Proofs.YtdjcndcleaffkaaW.PrintMore
open Go.Proofs.YtdjcndcleaffkaaO
attribute [local go_sem] max2_int min2_int max_two min_two max_three min_three max_four min_four
set_option linter.unusedVariables false
set_option linter.unusedSimpArgs false
section
variable {w0 w w' : World} {R : List Asn} {g : Nat} {L : List Int}
theorem maps_put {b n : Nat} {K : List Int} {D : DataW Unit} {x : Int} (h : Own w0 w (MapS (.map (some b)) n K :: R)) (hx : (Lit.int .i64 x).wf = true) (hD : ∀ x, (Lit.int .i64 x).wf = true → Maps.has D (.int .i64 x) = decide (x ∈ K)) (hi : Maps.IsMap D)
    (ho : w'.ownsMap Try.prog 3 (unitElem (H := Unit)) b (n + 1) (D.put (.int .i64 x) (.agg []))) (hg : w.grownBy w' (some b)) : Own w0 w' (MapS (.map (some b)) (n + 1) (K ++ [x]) :: R) := by
  refine h.step fun F hF _ => ?_
  rcases hF with h1 | ⟨b', D', h1, h2, h3, h4⟩
  · exact absurd h1.1 (by simp)
  have hb : b' = b := by injection h1 with h1; injection h1 with h1; exact h1.symm
  subst hb
  refine ⟨hg.os, hg.tape, hg.output, hg.size, fun k hk hn => hg.block k hk (fun e => hn ((h2 k).2 (Option.some.inj e))), F, .inr ⟨b', _, rfl, h2, ho, fun y hy => ?_⟩, fun k hk => .inl hk⟩
  by_cases hyx : y = x
  · subst hyx
    rw [Maps.has_put_same hi (show WideAt.IsKeyLit (.int .i64 y) from trivial)]
    simp
  · rw [Maps.has_put_other (by simpa using hyx), hD y hy]
    exact decide_eq_decide.2 (by simp [hyx])
theorem maps_del {b n : Nat} {K : List Int} {D : DataW Unit} {x : Int} (h : Own w0 w (MapS (.map (some b)) n K :: R)) (hD : ∀ x, (Lit.int .i64 x).wf = true → Maps.has D (.int .i64 x) = decide (x ∈ K))
    (ho : w'.ownsMap Try.prog 3 (unitElem (H := Unit)) b n (D.del (.int .i64 x))) (hg : w.grownBy w' (some b)) : Own w0 w' (MapS (.map (some b)) n (K.filter (· ≠ x)) :: R) := by
  refine h.step fun F hF _ => ?_
  rcases hF with h1 | ⟨b', D', h1, h2, h3, h4⟩
  · exact absurd h1.1 (by simp)
  have hb : b' = b := by injection h1 with h1; injection h1 with h1; exact h1.symm
  subst hb
  refine ⟨hg.os, hg.tape, hg.output, hg.size, fun k hk hn => hg.block k hk (fun e => hn ((h2 k).2 (Option.some.inj e))), F, .inr ⟨b', _, rfl, h2, ho, fun y hy => ?_⟩, fun k hk => .inl hk⟩
  by_cases hyx : y = x
  · subst hyx
    rw [Maps.has_del_same]
    simp
  · rw [Maps.has_del_other (by simpa using hyx), hD y hy]
    exact decide_eq_decide.2 (by simp [hyx])
theorem maps_new (h : Own w0 w R) (n : Nat) : Own w0 (w.alloc (.map #[] 0)) (MapS (.map (some w.heap.size)) n [] :: R) := by
  refine h.make (below_alloc (Below.refl _ _) _) ⟨fun k => k = w.heap.size, .inr ⟨_, _, rfl, fun _ => Iff.rfl, (World.ownsMap_made w Try.prog 3 unitElem).mono (Nat.zero_le n), fun x hx => ?_⟩, fun k hk => by omega⟩
  simp [Maps.has]
theorem maps_D {b n : Nat} {K : List Int} (h : Own w0 w (MapS (.map (some b)) n K :: R)) : ∃ D : DataW Unit, w.ownsMap Try.prog 3 (unitElem (H := Unit)) b n D ∧ Maps.IsMap D ∧ ∀ x, (Lit.int .i64 x).wf = true → Maps.has D (.int .i64 x) = decide (x ∈ K) := by
  rcases maps_out h with ⟨h1, _⟩ | ⟨b', D, h1, h2, h3⟩
  · exact absurd h1 (by simp)
  have hb : b' = b := by injection h1 with h1; injection h1 with h1; exact h1.symm
  subst hb
  exact ⟨D, h2, h2.isMap, h3⟩
/-- What holds while the low mark goes up. -/
structure Rises (L : List Int) (low : Nat) (K : List Int) : Prop where
  all : ∀ i : Int, 1 ≤ i → i ≤ low → i ∈ L
  key : ∀ x, x ∈ K ↔ x ∈ L ∧ (low : Int) < x
theorem Rises.end_ {low : Nat} {K : List Int} (h : Rises L low K) (hn : ((low : Int) + 1) ∉ K) : LowIs L low := ⟨h.all, fun q => hn ((h.key _).2 ⟨q, by omega⟩)⟩
theorem Rises.next {low : Nat} {K : List Int} (h : Rises L low K) (hn : ((low : Int) + 1) ∈ K) : Rises L (low + 1) (K.filter (· ≠ ((low + 1 : Nat) : Int))) := by
  refine ⟨fun i h1 h2 => ?_, fun x => ?_⟩
  · by_cases hi : i ≤ low
    · exact h.all i h1 hi
    · have : i = (low : Int) + 1 := by omega
      subst this
      exact ((h.key _).1 hn).1
  · rw [List.mem_filter, h.key]
    simp only [ne_eq, decide_not, Bool.not_eq_true', decide_eq_false_iff_not]
    constructor
    · rintro ⟨⟨h1, h2⟩, h3⟩
      exact ⟨h1, by omega⟩
    · rintro ⟨h1, h2⟩
      exact ⟨⟨h1, by omega⟩, by omega⟩
theorem wf64 (x : Int) (h0 : -9223372036854775808 ≤ x) (h1 : x ≤ 9223372036854775807) : (Lit.int .i64 x).wf = true := by simp [Lit.wf, IntKind.min, IntKind.max, IntKind.signed, IntKind.bits]; omega
set_option maxHeartbeats 4000000 in
theorem AcksAdd_nil (n : Int) (w : World) : Calls Try.prog 28 #[.pointer none, .int .i64 n] w fun e w' => e = .returned (.bool false) ∧ w = w' := by
  go_enter Try.func28, Try.ntmps28
  go_wp2
  go_ret
  exact ⟨rfl, rfl⟩
set_option maxHeartbeats 4000000 in
theorem AcksAdd_no (h : Own w0 w (Acks g L :: R)) (n : Int) (hn : (Lit.int .i64 n).wf = true) (hf : freshB L n = false) : Calls Try.prog 28 #[.pointer (some ⟨g, 0, none⟩), .int .i64 n] w fun e w' => e = .returned (.bool false) ∧ Own w0 w' (Acks g L :: R) := by
  have H := Aside0.mk h
  clear h
  by_cases h1 : n < 1
  · have d1 : decide (n < 1) = true := decide_eq_true h1
    clear hf
    go_enter Try.func28, Try.ntmps28
    go_wp2
    go_ret
    exact ⟨rfl, H.out⟩
  have d1 : decide (n < 1) = false := decide_eq_false h1
  by_cases h2 : n > 2147483647
  · have d2 : decide (n > 2147483647) = true := decide_eq_true h2
    clear hf
    go_enter Try.func28, Try.ntmps28
    go_wp2
    go_ret
    exact ⟨rfl, H.out⟩
  have d2 : decide (n > 2147483647) = false := decide_eq_false h2
  have hm : decide (n ∈ L) = true := by
    have := of_decide_eq_false hf
    refine decide_eq_true ?_
    by_cases hm : n ∈ L
    · exact hm
    · exact absurd ⟨by omega, by omega, hm⟩ this
  have HM := Aside0.mk hm
  clear hf hm
  go_enter Try.func28, Try.ntmps28
  go_wp2_with (go_at_call 27; (refine (AcksHas H.out n hn).mono ?_); rintro e w1 ⟨rfl, h⟩; rw [HM.out]; have H1 := Aside0.mk h; clear h)
  go_ret
  exact ⟨rfl, H1.out⟩
/-- The loop behind a number that was put. -/
theorem add_end {low b : Nat} {K : List Int} (hr : Right L) (hk : Rises L low K) (hn : ((low : Int) + 1) ∉ K) (h : Own w0 w (Blk g (.cells #[.int .i64 low, .map (some b)] 69 (0, 0)) :: MapS (.map (some b)) L.length K :: R)) : Own w0 w (Acks g L :: R) := by
  obtain ⟨M, h1, h2⟩ := sort_ex K
  exact acks_shut (M := M) ⟨hr, hk.end_ hn, h1, fun x => (h2 x).trans (hk.key x)⟩ (maps_congr (fun x => (h2 x).symm) rfl h.r1).r1
set_option maxHeartbeats 8000000 in
set_option maxRecDepth 100000 in
theorem AcksAdd_yes (h : Own w0 w (Acks g L :: R)) (n : Int) (hn : (Lit.int .i64 n).wf = true) (hf : freshB L n = true) (hl : L.length < 100000000000) : Calls Try.prog 28 #[.pointer (some ⟨g, 0, none⟩), .int .i64 n] w fun e w' => e = .returned (.bool true) ∧ Own w0 w' (Acks g (L ++ [n]) :: R) := by
  have H := Aside0.mk h
  have hrt : Right (L ++ [n]) := by
    obtain ⟨low, M, v, h1, h2⟩ := acks_open h
    have := h1.1.add n
    unfold addL at this
    rwa [if_pos hf] at this
  have hff := of_decide_eq_true hf
  have d1 : decide (n < 1) = false := decide_eq_false (by omega)
  have d2 : decide (n > 2147483647) = false := decide_eq_false (by omega)
  have hm : decide (n ∈ L) = false := decide_eq_false hff.2.2
  have HM := Aside0.mk hm
  have HF := Aside0.mk hff
  have HRT := Aside0.mk hrt
  clear hf hm h hff hrt
  go_enter Try.func28, Try.ntmps28
  go_wp2_with fail
  refine (AcksHas H.out n hn).mono ?_
  rintro e w1 ⟨rfl, h⟩
  rw [HM.out]
  have H1 := Aside0.mk h
  obtain ⟨low, M, v, hl1, h2⟩ := acks_open h
  have HL1 := Aside0.mk hl1
  have hnl : (low : Int) < n := by
    have q1 := HF.out
    by_cases hq : n ≤ low
    · exact absurd (hl1.2.1.1 n q1.1 hq) q1.2.2
    · omega
  have hmapK : ∀ x, x ∈ M ++ [n] ↔ x ∈ L ++ [n] ∧ (low : Int) < x := fun x => by
    rw [List.mem_append, List.mem_append, List.mem_singleton, hl1.2.2.2]
    constructor
    · rintro (q | q)
      · exact ⟨.inl q.1, q.2⟩
      · exact ⟨.inr q, by omega⟩
    · rintro ⟨q | q, q2⟩
      · exact .inl ⟨q, q2⟩
      · exact .inr q
  have HLP := Aside0.mk (show Rises (L ++ [n]) low (M ++ [n]) from ⟨fun i a1 a2 => List.mem_append_left _ (hl1.2.1.1 i a1 a2), hmapK⟩)
  have y1 : w1.cell? ⟨g, 1, none⟩ = some v := (blk_cell h2.at0 1).trans rfl
  have f1 := blk_frozen h2.at0 1
  have H2 := Aside0.mk h2
  have hmm := @run_makeMap Try.prog
  have heq := fun r => run_eql_map_nil (P := Try.prog) w1 67 3 74 r Try.underlying67
  have hkey : keyOf Try.prog 3 (.int .i64 n) = some (.int .i64 n) := Maps.keyOf_int_mk Try.underlying3 hn
  have hlow9 : low ≤ 2147483648 := by have := HF.out; omega
  clear h hl1 h2 hnl hmapK
  have HLOW := Lib.hid hlow9
  rcases maps_out H2.out.tail with ⟨rfl, rfl⟩ | ⟨b, D, rfl, hown, hD⟩
  · have h4 := (maps_new H2.out.r1.tail L.length).r1.set 1 (.map (some w1.heap.size))
    have f2 := blk_frozen (blk_alloc H2.out.at0 (.map #[] 0)) 1
    have y2 : (w1.alloc (.map #[] 0)).cell? ⟨g, 1, none⟩ = some (.map none) := (blk_cell (blk_alloc H2.out.at0 (.map #[] 0)) 1).trans rfl
    have H4 := Aside0.mk h4
    obtain ⟨D, hown, _, hD⟩ := maps_D h4.tail
    have HD := Aside0.mk hD
    have HOWN := Aside0.mk hown
    clear hD hown h4
    go_wp2_with (at_mapUpdate; refine wpList_mapUpdate_own _ rfl _ _ _ 67 rfl 3 74 plaw3 Try.underlying67 (unitElem (H := Unit)) _ L.length _ rfl HOWN.out (by unfold maxLen; omega) _ _ _ rfl rfl hkey _ [] unitElem_mk ?_; intro w2 hown2 hgrow2; have H3 := Aside0.mk (maps_put H4.out.r1 hn HD.out HOWN.out.isMap hown2 hgrow2); clear hown2 hgrow2)
    clear f2 y2
    clear y1 f1 heq hmm
    go_frame
    go_loopg [6] (2147483648 - low) (fun kq v6 wr => ∃ (lo : Nat) (K : List Int), kq + lo = 2147483648 ∧ Aside0 (Rises (L ++ [n]) lo K) ∧ Aside0 (Own w0 wr (Blk g (.cells #[.int .i64 lo, .map (some w1.heap.size)] 69 (0, 0)) :: MapS (.map (some w1.heap.size)) (L ++ [n]).length K :: R)))
    case atStart => exact ⟨low, _, by have := HLOW.out; omega, HLP, ⟨by simpa using H3.out.r1⟩⟩
    case round =>
      obtain ⟨lo, K, hkq, HRI, HO⟩ := hrel
      have hlt : lo < 2147483649 := by omega
      have hlk1 := look_run HO.out.tail.drew ((lo : Int) + 1) (wf64 _ (by omega) (by omega))
      have hlk2 := look_run (HO.out.tail.drew.junk (.cells #[] 74)) ((lo : Int) + 1) (wf64 _ (by omega) (by omega))
      have hlk3 := look_run (HO.out.tail.junk (.cells #[] 74)).drew ((lo : Int) + 1) (wf64 _ (by omega) (by omega))
      have z0 : wr.cell? ⟨g, 0, none⟩ = some (.int .i64 lo) := (blk_cell HO.out.at0 0).trans rfl
      have z1 : wr.cell? ⟨g, 1, none⟩ = some (.map (some w1.heap.size)) := (blk_cell HO.out.at0 1).trans rfl
      have hgl := blk_lt HO.out.at0
      have f0 := blk_frozen HO.out.at0 0
      by_cases hin : ((lo : Int) + 1) ∈ K
      · have HIN := Aside0.mk hin
        have hmax := (HRT.out.2 _ ((HRI.out.key _).1 hin).1).2
        obtain ⟨k1, rfl⟩ : ∃ k1, gk = k1 + 1 := ⟨gk - 1, by omega⟩
        rw [decide_eq_true hin] at hlk1 hlk2 hlk3
        clear hin
        go_wp2
        go_region
        all_goals go_wp2
        all_goals
          have HW := Aside0.mk ((HO.out.set 0 (.int .i64 ((lo : Int) + 1))).junk (.cells #[] 74)).drew
          obtain ⟨D9, hown9, _, hD9⟩ := maps_D HW.out.tail.drew
          have hkey9 : keyOf Try.prog 3 (.int .i64 ((lo : Int) + 1)) = some (.int .i64 ((lo : Int) + 1)) := Maps.keyOf_int_mk Try.underlying3 (wf64 _ (by omega) (by omega))
          obtain ⟨w9, hrun9, hown9', hturn9⟩ := hown9.drop plaw3 Try.underlying67 hkey9 0
          have H9 := Aside0.mk (maps_del HW.out.r1.drew hD9 hown9' hturn9.grown)
          clear hown9 hown9' hturn9 hD9 hlk1 hlk2 hlk3
          go_region
          all_goals
            go_wp2
            go_roundg k1
            case rel => exact ⟨lo + 1, _, by omega, ⟨HRI.out.next HIN.out⟩, ⟨H9.out.r1⟩⟩
            case measure => omega
      · have HNI := Aside0.mk hin
        rw [decide_eq_false hin] at hlk1 hlk2 hlk3
        clear hin
        go_wp2
        go_region
        all_goals
          go_wp2
          go_ret
          exact ⟨rfl, add_end HRT.out HRI.out HNI.out (HO.out.junk _).drew⟩
  · have HD := Aside0.mk hD
    have HOWN := Aside0.mk hown
    have H4 := H2
    clear hD hown
    go_wp2_with (at_mapUpdate; refine wpList_mapUpdate_own _ rfl _ _ _ 67 rfl 3 74 plaw3 Try.underlying67 (unitElem (H := Unit)) _ L.length _ rfl HOWN.out (by unfold maxLen; omega) _ _ _ rfl rfl hkey _ [] unitElem_mk ?_; intro w2 hown2 hgrow2; have H3 := Aside0.mk (maps_put H4.out.r1 hn HD.out HOWN.out.isMap hown2 hgrow2); clear hown2 hgrow2)
    clear y1 f1 heq hmm
    go_frame
    go_loopg [6] (2147483648 - low) (fun kq v6 wr => ∃ (lo : Nat) (K : List Int), kq + lo = 2147483648 ∧ Aside0 (Rises (L ++ [n]) lo K) ∧ Aside0 (Own w0 wr (Blk g (.cells #[.int .i64 lo, .map (some b)] 69 (0, 0)) :: MapS (.map (some b)) (L ++ [n]).length K :: R)))
    case atStart => exact ⟨low, _, by have := HLOW.out; omega, HLP, ⟨by simpa using H3.out.r1⟩⟩
    case round =>
      obtain ⟨lo, K, hkq, HRI, HO⟩ := hrel
      have hlt : lo < 2147483649 := by omega
      have hlk1 := look_run HO.out.tail.drew ((lo : Int) + 1) (wf64 _ (by omega) (by omega))
      have hlk2 := look_run (HO.out.tail.drew.junk (.cells #[] 74)) ((lo : Int) + 1) (wf64 _ (by omega) (by omega))
      have hlk3 := look_run (HO.out.tail.junk (.cells #[] 74)).drew ((lo : Int) + 1) (wf64 _ (by omega) (by omega))
      have z0 : wr.cell? ⟨g, 0, none⟩ = some (.int .i64 lo) := (blk_cell HO.out.at0 0).trans rfl
      have z1 : wr.cell? ⟨g, 1, none⟩ = some (.map (some b)) := (blk_cell HO.out.at0 1).trans rfl
      have hgl := blk_lt HO.out.at0
      have f0 := blk_frozen HO.out.at0 0
      by_cases hin : ((lo : Int) + 1) ∈ K
      · have HIN := Aside0.mk hin
        have hmax := (HRT.out.2 _ ((HRI.out.key _).1 hin).1).2
        obtain ⟨k1, rfl⟩ : ∃ k1, gk = k1 + 1 := ⟨gk - 1, by omega⟩
        rw [decide_eq_true hin] at hlk1 hlk2 hlk3
        clear hin
        go_wp2
        go_region
        all_goals go_wp2
        all_goals
          have HW := Aside0.mk ((HO.out.set 0 (.int .i64 ((lo : Int) + 1))).junk (.cells #[] 74)).drew
          obtain ⟨D9, hown9, _, hD9⟩ := maps_D HW.out.tail.drew
          have hkey9 : keyOf Try.prog 3 (.int .i64 ((lo : Int) + 1)) = some (.int .i64 ((lo : Int) + 1)) := Maps.keyOf_int_mk Try.underlying3 (wf64 _ (by omega) (by omega))
          obtain ⟨w9, hrun9, hown9', hturn9⟩ := hown9.drop plaw3 Try.underlying67 hkey9 0
          have H9 := Aside0.mk (maps_del HW.out.r1.drew hD9 hown9' hturn9.grown)
          clear hown9 hown9' hturn9 hD9 hlk1 hlk2 hlk3
          go_region
          all_goals
            go_wp2
            go_roundg k1
            case rel => exact ⟨lo + 1, _, by omega, ⟨HRI.out.next HIN.out⟩, ⟨H9.out.r1⟩⟩
            case measure => omega
      · have HNI := Aside0.mk hin
        rw [decide_eq_false hin] at hlk1 hlk2 hlk3
        clear hin
        go_wp2
        go_region
        all_goals
          go_wp2
          go_ret
          exact ⟨rfl, add_end HRT.out HRI.out HNI.out (HO.out.junk _).drew⟩
end
end Go.Proofs.Ytdjcndcleaffkaa.PChunksPlays
