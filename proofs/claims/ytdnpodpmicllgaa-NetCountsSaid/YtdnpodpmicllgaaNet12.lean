/- Packets on their way: has no link more than its room. -/
import Derived.Test.YtdnpodpmicllgaaNet11
import Derived.Deep.MidRow
import Derived.Deep.QuietTactic
import Derived.WideKeyEntry
namespace Go.Proofs.Ytdnpodpmicllgaa.PNetPlays
open Go.RowKit Go.Proofs.YtdnpodpmicllgaaW.PrintWords Go.Proofs.YtdnpodpmicllgaaW.PrintLast Go.Proofs.YtdnpodpmicllgaaW.PrintMore
open Go.Proofs.YtdnpodpmicllgaaO Go.Proofs.YtdnpodpmicllgaaC
attribute [local go_sem] max2_int min2_int max_two min_two max_three min_three max_four min_four
set_option linter.unusedVariables false
set_option linter.unusedSimpArgs false
def zI : DataW Unit := .lit (.int .i64 0)
/-- How many packets of each link were seen. -/
def CntM (b N : Nat) (cnt : Int → Int → Nat) : Asn := ⟨fun _ w F => (∃ D, w.ownsMap Try.prog 62 (plainElem (H := Unit) Try.prog 3) b N D ∧ ∀ f t, wfI f → wfI t → D.atKey (keyL f t) zI = .lit (.int .i64 (cnt f t : Nat))) ∧ ∀ k, F k ↔ k = b,
  fun ⟨⟨D, h, hc⟩, hF⟩ hm => ⟨⟨D, by obtain ⟨es, clock, hb, r⟩ := h; exact ⟨es, clock, (hm b ((hF b).2 rfl)).trans hb, r⟩, hc⟩, hF⟩,
  fun ⟨⟨D, h, _⟩, hF⟩ k hk => by
    obtain rfl := (hF k).1 hk
    exact h.lt⟩
section
variable {w0 w w' : World} {R : List Asn} {b N : Nat} {cnt : Int → Int → Nat}
theorem cnt_new (h : Own w0 w R) : Own w0 (w.alloc (.map #[] 0)) (CntM w.heap.size 0 (fun _ _ => 0) :: R) := by
  refine h.make (below_alloc (Below.refl _ _) _) ⟨fun k => k = w.heap.size, ⟨⟨.map [], World.ownsMap_made w Try.prog 62 (plainElem (H := Unit) Try.prog 3), fun f t _ _ => rfl⟩, fun k => Iff.rfl⟩, fun k hk => by omega⟩
theorem cnt_out (h : Own w0 w (CntM b N cnt :: R)) : ∃ D, w.ownsMap Try.prog 62 (plainElem (H := Unit) Try.prog 3) b N D ∧ ∀ f t, wfI f → wfI t → D.atKey (keyL f t) zI = .lit (.int .i64 (cnt f t : Nat)) := by
  obtain ⟨F, ⟨h1, _⟩, _⟩ := h.sat
  exact h1
theorem zeroI (w : World) : (zeroValue 3).run Try.prog w = .ok (.int .i64 0) w := by kernel_rfl
theorem cnt_look (h : Own w0 w (CntM b N cnt :: R)) (f t : Int) (hf : wfI f) (ht : wfI t) : (Instr.lookup 61 (.map (some b)) (.agg #[.int .i64 f, .int .i64 t]) false).run Try.prog w = .ok (.int .i64 (cnt f t : Nat)) w := by
  obtain ⟨D, ho, hd⟩ := cnt_out h
  obtain ⟨c, hr, hc, _⟩ := ho.lookup_int (Maps.Keyed.of_law lawArr) Try.underlying61 Try.underlying3 (zeroI w) (key_arr f t hf ht)
  have e := (hd f t hf ht).symm.trans hc
  injection e with e
  injection e with _ e
  rw [hr, ← e]
/-- The entry that 'm[k] op= x' makes first: every link counts as before. -/
theorem cnt_made (h : Own w0 w (CntM b N cnt :: R)) (f t : Int) (hf : wfI f) (ht : wfI t) (hN : N < 1000000000) {v : Value} {w1 : World} (hr : (Instr.mapEntry 61 (.map (some b)) (.agg #[.int .i64 f, .int .i64 t])).run Try.prog w = .ok v w1) : Own w0 w1 (CntM b (N + 1) cnt :: R) := by
  obtain ⟨D, ho, hd⟩ := cnt_out h
  have hkey := key_arr f t hf ht
  have K := lawArr
  have hu := Try.underlying61
  have ho' := ho
  obtain ⟨es, clock, hb, F, hs, hD⟩ := ho'
  rcases K.find w hkey es.toList F.keys with ⟨h1, h2⟩ | ⟨j, e0, h1, h2, h3⟩
  · have hwu : (Lit.int .i64 0).wf = true := by decide
    obtain ⟨w3, hr4, ho3, ht3⟩ := ho.store (Maps.Keyed.of_law lawArr) hu (by unfold maxLen; omega) hkey (plainElem_int (H := Unit) Try.underlying3 hwu)
    have e1 : w1 = w3 := by
      have q1 : (Instr.mapEntry 61 (.map (some b)) (.agg #[.int .i64 f, .int .i64 t])).run Try.prog w = .ok (.tuple #[.int .i64 0, goInt clock]) (ChangeMaps.setBlock w b (.map (es.push ⟨(.agg #[.int .i64 f, .int .i64 t]), .int .i64 0, clock⟩) (clock + 1))) := by
        simp [Instr.mapEntry, run_underlying hu, MapKept.run_getObj_map hb, K.check w false hkey, h1, zeroI, MapKept.run_setObj_map _ hb, Result.andThen, ChangeMaps.setBlock]
      have q2 : (Instr.mapUpdate 61 (.map (some b)) (.agg #[.int .i64 f, .int .i64 t]) (.int .i64 0)).run Try.prog w = .ok () (ChangeMaps.setBlock w b (.map (es.push ⟨(.agg #[.int .i64 f, .int .i64 t]), .int .i64 0, clock⟩) (clock + 1))) := by
        simp [Instr.mapUpdate, run_underlying hu, MapKept.run_getObj_map hb, K.check w false hkey, h1, MapKept.run_setObj_map _ hb, Result.andThen, ChangeMaps.setBlock]
      have q3 := hr.symm.trans q1
      have q4 := hr4.symm.trans q2
      injection q3 with _ q3
      injection q4 with _ q4
      rw [q3, q4]
    subst e1
    have hz : cnt f t = 0 := by
      have q1 := cnt_look h f t hf ht
      have q2 : (Instr.lookup 61 (.map (some b)) (.agg #[.int .i64 f, .int .i64 t]) false).run Try.prog w = .ok (.int .i64 0) w := by
        simp [Instr.lookup, run_underlying hu, MapKept.run_getObj_map hb, K.check w _ hkey, h1, zeroI, Result.andThen]
      have q3 := q1.symm.trans q2
      injection q3 with q3
      injection q3 with _ q3
      omega
    have hg := ht3.grown
    refine h.step fun F hF hB => ?_
    obtain ⟨_, hFk⟩ := hF
    refine ⟨hg.os, hg.tape, hg.output, hg.size, fun k hk hn => hg.block k hk fun e => hn ((hFk k).2 (Option.some.inj e)), F, ⟨⟨_, ho3, fun f' t' hf' ht' => ?_⟩, hFk⟩, fun k hk => .inl hk⟩
    by_cases hft : f' = f ∧ t' = t
    · obtain ⟨rfl, rfl⟩ := hft
      rw [Maps.atKey_put_same ho.isMap (keyL_is _ _), hz]
      rfl
    · have hk : keyL f' t' ≠ keyL f t := fun q => hft (keyL_inj hf' ht' hf ht q)
      rw [Maps.atKey_put_other hk, hd f' t' hf' ht']
  · have hj : es[j]? = some e0 := by simpa using h2
    have hsame : es.modify j (fun e => { e with key := (.agg #[.int .i64 f, .int .i64 t]) }) = es := by
      apply Array.ext_getElem?
      intro i
      rw [Array.getElem?_modify]
      split
      · rename_i q
        subst q
        rw [hj]
        simp [← h3]
      · rfl
    have q1 : (Instr.mapEntry 61 (.map (some b)) (.agg #[.int .i64 f, .int .i64 t])).run Try.prog w = .ok (.tuple #[e0.val, goInt e0.born]) (ChangeMaps.setBlock w b (.map es clock)) := by
      simp [Instr.mapEntry, run_underlying hu, MapKept.run_getObj_map hb, K.check w false hkey, h1, hj, h3, K.stays w hkey, hsame, MapKept.run_setObj_map _ hb, Result.andThen, ChangeMaps.setBlock]
    have q3 := hr.symm.trans q1
    injection q3 with _ q3
    have hw : ChangeMaps.setBlock w b (.map es clock) = w := by
      unfold ChangeMaps.setBlock
      have e : w.heap.setIfInBounds b (.map es clock) = w.heap := by
        apply Array.ext_getElem?
        intro i
        rw [Array.getElem?_setIfInBounds]
        split
        · rename_i q
          subst q
          rw [if_pos (blk_lt hb), hb]
        · rfl
      rw [e]
    rw [q3, hw]
    refine h.step fun F hF _ => ⟨rfl, rfl, rfl, Nat.le_refl _, fun k _ _ => rfl, F, ⟨?_, hF.2⟩, fun k hk => .inl hk⟩
    obtain ⟨D, h1, h2⟩ := hF.1
    exact ⟨D, h1.mono (Nat.le_succ _), h2⟩
/-- 'm[k] op= x' in its two steps. -/
theorem cnt_entry (h : Own w0 w (CntM b N cnt :: R)) (f t : Int) (hf : wfI f) (ht : wfI t) (hN : N < 1000000000) (u : Nat) (hu : u ≤ 1000000000) : ∃ v0 st w1 w2, (Instr.mapEntry 61 (.map (some b)) (.agg #[.int .i64 f, .int .i64 t])).run Try.prog w = .ok (.tuple #[v0, goInt st]) w1 ∧ (Instr.entryStore 61 (.map (some b)) (goInt st) (.int .i64 (u : Int))).run Try.prog w1 = .ok () w2 ∧ Own w0 w2 (CntM b (N + 1) (updN cnt f t u) :: R) := by
  obtain ⟨D, ho, hd⟩ := cnt_out h
  have ho' := ho
  obtain ⟨es, clock, hb, F, hs, hD⟩ := ho'
  obtain ⟨v0, st, es1, clock1, hr, _, hst⟩ := WideElems.entry_then_store lawArr Try.underlying61 zeroI hb F (key_arr f t hf ht)
  obtain ⟨es2, clock2, hr2, hr3⟩ := hst _ (.int .i64 (u : Int)) (ChangeMaps.heap_setBlock_same hb _)
  have hwu : (Lit.int .i64 (u : Int)).wf = true := by simp [Lit.wf, IntKind.min, IntKind.max, IntKind.signed, IntKind.bits]; omega
  obtain ⟨w3, hr4, ho3, ht3⟩ := ho.store (Maps.Keyed.of_law lawArr) Try.underlying61 (by unfold maxLen; omega) (key_arr f t hf ht) (plainElem_int (H := Unit) Try.underlying3 hwu)
  have e3 := hr3.symm.trans hr4
  injection e3 with _ e3
  have e4 : ChangeMaps.setBlock (ChangeMaps.setBlock w b (.map es1 clock1)) b (.map es2 clock2) = w3 := by
    rw [← e3]
    simp [ChangeMaps.setBlock]
  refine ⟨v0, st, _, _, hr, hr2, ?_⟩
  rw [e4]
  have hg := ht3.grown
  refine h.step fun F hF hB => ?_
  obtain ⟨_, hFk⟩ := hF
  refine ⟨hg.os, hg.tape, hg.output, hg.size, fun k hk hn => hg.block k hk fun e => hn ((hFk k).2 (Option.some.inj e)), F, ⟨⟨_, ho3, fun f' t' hf' ht' => ?_⟩, hFk⟩, fun k hk => .inl hk⟩
  by_cases hft : f' = f ∧ t' = t
  · obtain ⟨rfl, rfl⟩ := hft
    rw [Maps.atKey_put_same ho.isMap (keyL_is _ _)]
    unfold updN
    rw [if_pos ⟨rfl, rfl⟩]
  · have hk : keyL f' t' ≠ keyL f t := fun q => hft (keyL_inj hf' ht' hf ht q)
    rw [Maps.atKey_put_other hk, hd f' t' hf' ht']
    unfold updN
    rw [if_neg hft]
theorem cnt_congr {cnt' : Int → Int → Nat} (hc : ∀ f t, cnt f t = cnt' f t) (h : Own w0 w (CntM b N cnt :: R)) : Own w0 w (CntM b N cnt' :: R) := by
  rwa [show cnt' = cnt from funext fun f => funext fun t => (hc f t).symm]
set_option maxHeartbeats 8000000 in
set_option maxRecDepth 100000 in
theorem fits_calls {A : Option Addr} {n c : Nat} {l : List Pk} (h : Own w0 w (Row k25 25 (.slice A n c) l :: R)) (hl : n ≤ 1000000) (h64 : ∀ f t, cntW l f t ≤ 64) (hgd : ∀ p ∈ l, goodP p) : Calls Try.prog 19 #[.slice A n c] w fun e w' => e = .returned (.bool true) ∧ Own w0 w' (Row k25 25 (.slice A n c) l :: R) := by
  have h3 := cnt_new h
  have hn := row_len h
  have HN := Aside0.mk hn
  have H64 := Aside0.mk h64
  have HGD := Aside0.mk hgd
  have H := Aside0.mk h3
  have hmm := @run_makeMap Try.prog
  clear h h3 hn h64 hgd
  go_enter Try.func19, Try.ntmps19
  go_wp2
  obtain ⟨b, hb⟩ : ∃ b, b = w.heap.size := ⟨_, rfl⟩
  rw [← hb] at H ⊢
  clear hb hmm
  go_loopw [4] (fun v4 wr => ∃ i : Nat, i ≤ n ∧ v4 = .int .i64 i ∧ Aside0 (Own w0 wr (CntM b i (cntW (l.take i)) :: Row k25 25 (.slice A n c) l :: R))) (fun v4 _ => n - (RowKit.intOf v4).toNat)
  case atStart => exact ⟨0, Nat.zero_le _, rfl, ⟨cnt_congr (fun f t => by simp [cntW]) H.out⟩⟩
  case round =>
    obtain ⟨i, hi, rfl, HO⟩ := hrel
    by_cases hlt : i < n
    · have hiw : i < l.length := by rw [HN.out]; exact hlt
      have hgk := List.getElem?_eq_getElem hiw
      have hgood := HGD.out _ (List.getElem_mem hiw)
      generalize l[i] = x at hgk hgood
      have HGK := Aside0.mk hgk
      obtain ⟨x0, x1, x2⟩ := x
      have hw0 : wfI x0 := wf9 hgood.1 hgood.2.1
      have hw1 : wfI x1 := wf9 hgood.2.2.1 hgood.2.2.2
      have HW0 := Aside0.mk hw0
      have HW1 := Aside0.mk hw1
      obtain ⟨bw, c2, e1⟩ := row_form' HO.out.tail (by omega)
      injection e1 with e1 e2 e3
      clear e2 e3
      subst e1
      have hfb := add_at bw
      have q0 := pk_cell HO.out.tail i _ hgk 0 _ rfl
      have q1 := pk_cell HO.out.tail i _ hgk 1 _ rfl
      rw [Nat.add_zero] at q0
      clear hgk hgood hw0 hw1 hiw
      go_wp2
      have HD := Aside0.mk HO.out.drew
      refine start_ (n := 13) (S := fun w' => Own w0 w' (CntM b i (cntW (l.take i)) :: Row k25 25 (.slice (some ⟨bw, 0, none⟩) n c) l :: R)) (ds := [12]) #[false, false, false, false, false, false, false, false, false, false, false, false, false] (by kernel_rfl) rfl rfl HD.out (fun hHeld => ?_)
      generalize hwd : (World.drew _) = wd at HD hHeld ⊢
      clear hwd
      refine pure_ (i := 0) (N := some 13) (v := ?_) (a' := ?_) #[true, false, false, false, false, false, false, false, false, false, false, false, false] rfl rfl (by kernel_rfl) (fun _ _ _ h => h) (Or.inl ⟨by rfl, ?_⟩) ?_ ?_
      rotate_left
      · intro w'
        go_simp
        with_reducible rfl
      rotate_left
      · simp only [Act.put, List.setIfInBounds_toArray, List.set_cons_zero, List.set_cons_succ, i64_w, i32_w]
        rfl
      refine pure_ (i := 1) (N := some 14) (v := ?_) (a' := ?_) #[true, true, false, false, false, false, false, false, false, false, false, false, false] rfl rfl (by kernel_rfl) (fun _ _ _ h => h) (Or.inl ⟨by rfl, ?_⟩) ?_ ?_
      rotate_left
      · intro w'
        go_simp
        with_reducible rfl
      rotate_left
      · simp only [Act.put, List.setIfInBounds_toArray, List.set_cons_zero, List.set_cons_succ, i64_w, i32_w]
        rfl
      refine pure_ (i := 2) (N := some 15) (v := ?_) (a' := ?_) #[true, true, true, false, false, false, false, false, false, false, false, false, false] rfl rfl (by kernel_rfl) (fun _ _ _ h => h) (Or.inl ⟨by rfl, ?_⟩) ?_ ?_
      rotate_left
      · intro w'
        go_simp
        with_reducible rfl
      rotate_left
      · simp only [Act.put, List.setIfInBounds_toArray, List.set_cons_zero, List.set_cons_succ, i64_w, i32_w]
        rfl
      refine pure_ (i := 3) (N := some 16) (v := ?_) (a' := ?_) #[true, true, true, true, false, false, false, false, false, false, false, false, false] rfl rfl (by kernel_rfl) (fun _ _ _ h => h) (Or.inl ⟨by rfl, ?_⟩) ?_ ?_
      rotate_left
      · intro w'
        go_simp
        with_reducible rfl
      rotate_left
      · simp only [Act.put, List.setIfInBounds_toArray, List.set_cons_zero, List.set_cons_succ, i64_w, i32_w]
        rfl
      refine take_ (i := 4) (N := some 17) (v := ?_) (a' := ?_) #[true, true, true, true, true, false, false, false, false, false, false, false, false] rfl rfl (by kernel_rfl) (fun _ _ _ h => h) (Or.inl ⟨by rfl, ?_⟩) hHeld ?_ ?_
      rotate_left
      · rintro w' s0
        have q0 := pk_cell s0.tail i _ HGK.out 0 _ rfl
        have q1 := pk_cell s0.tail i _ HGK.out 1 _ rfl
        rw [Nat.add_zero] at q0
        go_simp
        with_reducible rfl
      rotate_left
      · simp only [Act.put, List.setIfInBounds_toArray, List.set_cons_zero, List.set_cons_succ, i64_w, i32_w]
        rfl
      refine pure_ (i := 5) (N := some 18) (v := ?_) (a' := ?_) #[true, true, true, true, true, true, false, false, false, false, false, false, false] rfl rfl (by kernel_rfl) (fun _ _ _ h => h) (Or.inl ⟨by rfl, ?_⟩) ?_ ?_
      rotate_left
      · intro w'
        go_simp
        with_reducible rfl
      rotate_left
      · simp only [Act.put, List.setIfInBounds_toArray, List.set_cons_zero, List.set_cons_succ, i64_w, i32_w]
        rfl
      refine pure_ (i := 6) (N := some 19) (v := ?_) (a' := ?_) #[true, true, true, true, true, true, true, false, false, false, false, false, false] rfl rfl (by kernel_rfl) (fun _ _ _ h => h) (Or.inl ⟨by rfl, ?_⟩) ?_ ?_
      rotate_left
      · intro w'
        go_simp
        with_reducible rfl
      rotate_left
      · simp only [Act.put, List.setIfInBounds_toArray, List.set_cons_zero, List.set_cons_succ, i64_w, i32_w]
        rfl
      refine pure_ (i := 7) (N := some 20) (v := ?_) (a' := ?_) #[true, true, true, true, true, true, true, true, false, false, false, false, false] rfl rfl (by kernel_rfl) (fun _ _ _ h => h) (Or.inl ⟨by rfl, ?_⟩) ?_ ?_
      rotate_left
      · intro w'
        go_simp
        with_reducible rfl
      rotate_left
      · simp only [Act.put, List.setIfInBounds_toArray, List.set_cons_zero, List.set_cons_succ, i64_w, i32_w]
        rfl
      refine pure_ (i := 8) (N := some 21) (v := ?_) (a' := ?_) #[true, true, true, true, true, true, true, true, true, false, false, false, false] rfl rfl (by kernel_rfl) (fun _ _ _ h => h) (Or.inl ⟨by rfl, ?_⟩) ?_ ?_
      rotate_left
      · intro w'
        go_simp
        with_reducible rfl
      rotate_left
      · simp only [Act.put, List.setIfInBounds_toArray, List.set_cons_zero, List.set_cons_succ, i64_w, i32_w]
        rfl
      refine take_ (i := 9) (N := some 22) (v := ?_) (a' := ?_) #[true, true, true, true, true, true, true, true, true, true, false, false, false] rfl rfl (by kernel_rfl) (fun _ _ _ h => h) (Or.inl ⟨by rfl, ?_⟩) hHeld ?_ ?_
      rotate_left
      · rintro w' s0
        have q0 := pk_cell s0.tail i _ HGK.out 0 _ rfl
        have q1 := pk_cell s0.tail i _ HGK.out 1 _ rfl
        rw [Nat.add_zero] at q0
        go_simp
        with_reducible rfl
      rotate_left
      · simp only [Act.put, List.setIfInBounds_toArray, List.set_cons_zero, List.set_cons_succ, i64_w, i32_w]
        rfl
      refine pure_ (i := 10) (N := some 23) (v := ?_) (a' := ?_) #[true, true, true, true, true, true, true, true, true, true, true, false, false] rfl rfl (by kernel_rfl) (fun _ _ _ h => h) (Or.inl ⟨by rfl, ?_⟩) ?_ ?_
      rotate_left
      · intro w'
        go_simp
        with_reducible rfl
      rotate_left
      · simp only [Act.put, List.setIfInBounds_toArray, List.set_cons_zero, List.set_cons_succ, i64_w, i32_w]
        rfl
      refine one_ (i := 11) (N := some 5) #[true, true, true, true, true, true, true, true, true, true, true, true, false] rfl rfl (by kernel_rfl) (by decide) (fun K hK => ?_)
      refine value_ (w1 := ?_) (v := ?_) (by rfl) rfl ?_ ?_
      rotate_left 2
      · go_simp
        constructor
        · rfl
        · rfl
      refine hK.out _ _ (HD.out.junk _) (fun hHeld => ?_)
      clear hK K
      refine norm_ (a' := ?_) ?_ ?_
      rotate_left
      · simp only [Act.put, List.setIfInBounds_toArray, List.set_cons_zero, List.set_cons_succ, i64_w, i32_w]
        rfl
      have HK := Aside0.mk (HD.out.alloc (.cells #[.int .i64 0, .int .i64 0] 62))
      generalize hkk : wd.heap.size = kk at HK ⊢
      clear hkk
      have hz0 := blk_frozen HK.out.at0 0
      have hz1 := blk_frozen HK.out.at0 1
      have hc0 := (blk_cell HK.out.at0 0).trans rfl
      have hc1 := (blk_cell HK.out.at0 1).trans rfl
      refine last_ (i := 12) (N := none) #[true, true, true, true, true, true, true, true, true, true, true, true, true] rfl rfl (by kernel_rfl) (by decide) (fun K hK => ?_)
      refine skip_ (w1 := ?_) (by rfl) rfl ?_ ?_
      rotate_left
      · go_simp
        rfl
      refine hK.out _ _ ?_
      clear hK K
      refine done_ (by kernel_rfl) ?_
      skip
      have H2 := Aside0.mk (Own.swap (show Own w0 (((wd.alloc (.cells #[.int .i64 0, .int .i64 0] 62)).setCell ⟨kk, 0, none⟩ (.int .i64 x0)).setCell ⟨kk, 1, none⟩ (.int .i64 x1)) (Blk kk (.cells #[.int .i64 x0, .int .i64 x1] 62 (0, 0)) :: CntM b i (cntW (l.take i)) :: Row k25 25 (.slice (some ⟨bw, 0, none⟩) n c) l :: R) from (HK.out.set 0 _).set 1 _))
      go_wp2
      have hle : cntW (l.take i) x0 x1 + 1 ≤ 64 := by
        have e1 := cnt_take l i _ HGK.out x0 x1
        rw [if_pos ⟨rfl, rfl⟩] at e1
        have e2 : cntW (l.take (i + 1)) x0 x1 ≤ cntW l x0 x1 := (List.take_sublist (i + 1) l).countP_le
        have e3 := H64.out x0 x1
        omega
      clear HD HK hz0 hz1 hc0 hc1 hHeld
      generalize hw2 : World.setCell _ _ _ = w2 at H2 ⊢
      clear hw2
      have HD := Aside0.mk H2.out.drew
      refine start_ (n := 7) (S := fun w' => ∃ N', (Own w0 w' (CntM b N' (cntW (l.take i)) :: Blk kk (.cells #[.int .i64 x0, .int .i64 x1] 62 (0, 0)) :: Row k25 25 (.slice (some ⟨bw, 0, none⟩) n c) l :: R))) (ds := [6]) #[false, false, false, false, false, false, false] (by kernel_rfl) rfl rfl ⟨_, HD.out⟩ (fun hHeld => ?_)
      generalize hwd : (World.drew _) = wd at HD hHeld ⊢
      clear hwd
      obtain ⟨v0, st, w4, w5, hme, hes, h5⟩ := cnt_entry HD.out x0 x1 HW0.out HW1.out (by omega) (cntW (l.take i) x0 x1 + 1) (by omega)
      generalize hcm : cntW (l.take i) x0 x1 = m at hes h5 hle
      have H4 := Aside0.mk (cnt_made HD.out x0 x1 HW0.out HW1.out (by omega) hme)
      have H5 := Aside0.mk h5
      have CME := Aside0.mk hcm
      have hwr : wrap64 ((m : Int) + 1) = (m : Int) + 1 := by unfold wrap64; omega
      replace hes : (Instr.entryStore 61 (.map (some b)) (.int .i64 (st : Int)) (.int .i64 ((m : Int) + 1))).run Try.prog w4 = .ok () w5 := hes
      clear hcm h5
      refine pure_ (i := 0) (N := some 24) (v := ?_) (a' := ?_) #[true, false, false, false, false, false, false] rfl rfl (by kernel_rfl) (fun _ _ _ h => h) (Or.inl ⟨by rfl, ?_⟩) ?_ ?_
      rotate_left
      · intro w'
        go_simp
        with_reducible rfl
      rotate_left
      · simp only [Act.put, List.setIfInBounds_toArray, List.set_cons_zero, List.set_cons_succ, i64_w, i32_w]
        rfl
      refine take_ (i := 1) (N := some 25) (v := ?_) (a' := ?_) #[true, true, false, false, false, false, false] rfl rfl (by kernel_rfl) (fun _ _ _ h => h) (Or.inl ⟨by rfl, ?_⟩) hHeld ?_ ?_
      rotate_left
      · rintro w' s0
        obtain ⟨N', s0⟩ := s0
        have hc0 := (blk_cell s0.at1 0).trans rfl
        have hc1 := (blk_cell s0.at1 1).trans rfl
        go_simp
        with_reducible rfl
      rotate_left
      · simp only [Act.put, List.setIfInBounds_toArray, List.set_cons_zero, List.set_cons_succ, i64_w, i32_w]
        rfl
      refine take_ (i := 2) (N := some 26) (v := ?_) (a' := ?_) #[true, true, true, false, false, false, false] rfl rfl (by kernel_rfl) (fun _ _ _ h => h) (Or.inl ⟨by rfl, ?_⟩) hHeld ?_ ?_
      rotate_left
      · rintro w' s0
        obtain ⟨N', s0⟩ := s0
        have hlk := cnt_look s0 x0 x1 HW0.out HW1.out
        rw [CME.out] at hlk
        go_simp
        with_reducible rfl
      rotate_left
      · simp only [Act.put, List.setIfInBounds_toArray, List.set_cons_zero, List.set_cons_succ, i64_w, i32_w]
        rfl
      refine pure_ (i := 3) (N := some 27) (v := ?_) (a' := ?_) #[true, true, true, true, false, false, false] rfl rfl (by kernel_rfl) (fun _ _ _ h => h) (Or.inl ⟨by rfl, ?_⟩) ?_ ?_
      rotate_left
      · intro w'
        go_simp
        with_reducible rfl
      rotate_left
      · simp only [Act.put, List.setIfInBounds_toArray, List.set_cons_zero, List.set_cons_succ, i64_w, i32_w]
        rfl
      refine one_ (i := 4) (N := some 28) #[true, true, true, true, true, false, false] rfl rfl (by kernel_rfl) (by decide) (fun K hK => ?_)
      refine value_ (w1 := ?_) (v := ?_) (by rfl) rfl ?_ ?_
      rotate_left 2
      · go_simp
        constructor
        · rfl
        · rfl
      refine hK.out _ _ ⟨_, H4.out⟩ (fun hHeld => ?_)
      clear hK K
      refine norm_ (a' := ?_) ?_ ?_
      rotate_left
      · simp only [Act.put, List.setIfInBounds_toArray, List.set_cons_zero, List.set_cons_succ, i64_w, i32_w]
        rfl
      refine pure_ (i := 5) (N := some 29) (v := ?_) (a' := ?_) #[true, true, true, true, true, true, false] rfl rfl (by kernel_rfl) (fun _ _ _ h => h) (Or.inl ⟨by rfl, ?_⟩) ?_ ?_
      rotate_left
      · intro w'
        go_simp
        with_reducible rfl
      rotate_left
      · simp only [Act.put, List.setIfInBounds_toArray, List.set_cons_zero, List.set_cons_succ, i64_w, i32_w]
        rfl
      refine last_ (i := 6) (N := none) #[true, true, true, true, true, true, true] rfl rfl (by kernel_rfl) (by decide) (fun K hK => ?_)
      refine skip_ (w1 := ?_) (by rfl) rfl ?_ ?_
      rotate_left
      · go_simp
        rfl
      refine hK.out _ _ ?_
      clear hK K
      refine done_ (by kernel_rfl) ?_
      skip
      have CMM := Aside0.mk (show ∀ f t, updN (cntW (l.take i)) x0 x1 (m + 1) f t = cntW (l.take (i + 1)) f t from fun f t => by
        rw [cnt_take l i _ HGK.out f t]
        unfold updN
        by_cases q : f = x0 ∧ t = x1
        · obtain ⟨rfl, rfl⟩ := q
          rw [if_pos ⟨rfl, rfl⟩, if_pos ⟨rfl, rfl⟩, CME.out]
        · rw [if_neg q, if_neg fun q2 => q ⟨q2.1.symm, q2.2.symm⟩]; rfl)
      clear hme hes HD H2 H4
      have HE := Aside0.mk (cnt_congr CMM.out H5.out)
      have hlk := cnt_look H5.out x0 x1 HW0.out HW1.out
      rw [show updN (cntW (l.take i)) x0 x1 (m + 1) x0 x1 = m + 1 from if_pos ⟨rfl, rfl⟩] at hlk
      have hlk : (Instr.lookup 61 (.map (some b)) (.agg #[.int .i64 x0, .int .i64 x1]) false).run Try.prog w5 = .ok (.int .i64 ((m : Int) + 1)) w5 := hlk
      have hc0 := (blk_cell H5.out.at1 0).trans rfl
      have hc1 := (blk_cell H5.out.at1 1).trans rfl
      have hdc : decide ((64 : Int) < (m : Int) + 1) = false := decide_eq_false (by omega)
      go_wp2
      go_roundw
      case rel => exact ⟨i + 1, by omega, by first | rfl | go_num, ⟨HE.out.r1.tail⟩⟩
      case measure => first | (simp [RowKit.intOf]; done) | (simp [RowKit.intOf]; omega)
    · clear hi
      go_wp2
      go_ret
      exact ⟨rfl, HO.out.tail⟩
end
end Go.Proofs.Ytdnpodpmicllgaa.PNetPlays
