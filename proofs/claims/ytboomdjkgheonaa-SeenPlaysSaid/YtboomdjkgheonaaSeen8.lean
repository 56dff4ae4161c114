/- Items that were seen (package seen): Of. -/
import Derived.Test.YtboomdjkgheonaaSeen7
namespace Go.Proofs.Ytboomdjkgheonaa.PSeenPlays
open Go.RowKit Go.Proofs.YtboomdjkgheonaaW.PrintWords Go.Proofs.YtboomdjkgheonaaW.PrintLast Go.Proofs.YtboomdjkgheonaaW.PrintMore
open Go.Proofs.YtboomdjkgheonaaO
open Go.Maps Go.Sort Go.Shelf
attribute [local go_sem] max2_int min2_int max_two min_two max_three min_three max_four min_four
set_option linter.unusedVariables false
set_option linter.unusedSimpArgs false
section
variable {w0 w w' : World} {R : List Asn} {g N b : Nat} {at' : Int → Option Int} {lo : Nat → Int} {co : Nat → Int → Option Int}
theorem seen_lo (h : Own w0 w (SeenA g N lo co :: R)) (n : Nat) (hn : n < 4) : w.cell? ⟨g, n, none⟩ = some (.int .i64 (lo n)) ∧ w.frozen? ⟨g, n, none⟩ = false := by
  obtain ⟨b0, b1, b2, b3, h⟩ := seen_open h
  refine ⟨?_, blk_frozen h.at0 n⟩
  rcases (show n = 0 ∨ n = 1 ∨ n = 2 ∨ n = 3 by omega) with rfl | rfl | rfl | rfl
  · exact (blk_cell h.at0 0).trans rfl
  · exact (blk_cell h.at0 1).trans rfl
  · exact (blk_cell h.at0 2).trans rfl
  · exact (blk_cell h.at0 3).trans rfl
def setLo (lo : Nat → Int) (n : Nat) (v : Int) : Nat → Int := fun j => if j = n then v else lo j
def setCo (co : Nat → Int → Option Int) (n : Nat) (k v : Int) : Nat → Int → Option Int := fun j => if j = n then updI (co n) k v else co j
theorem seen_setlo (h : Own w0 w (SeenA g N lo co :: R)) (n : Nat) (hn : n < 4) (v : Int) : Own w0 (w.setCell ⟨g, n, none⟩ (.int .i64 v)) (SeenA g N (setLo lo n v) co :: R) := by
  obtain ⟨b0, b1, b2, b3, h⟩ := seen_open h
  rcases (show n = 0 ∨ n = 1 ∨ n = 2 ∨ n = 3 by omega) with rfl | rfl | rfl | rfl
  · exact note_shut (h.set 0 (.int .i64 v)) rfl rfl rfl rfl (fun _ => rfl) (fun _ => rfl) (fun _ => rfl) (fun _ => rfl) (Nat.le_refl _) (Nat.le_refl _) (Nat.le_refl _) (Nat.le_refl _)
  · exact note_shut (h.set 1 (.int .i64 v)) rfl rfl rfl rfl (fun _ => rfl) (fun _ => rfl) (fun _ => rfl) (fun _ => rfl) (Nat.le_refl _) (Nat.le_refl _) (Nat.le_refl _) (Nat.le_refl _)
  · exact note_shut (h.set 2 (.int .i64 v)) rfl rfl rfl rfl (fun _ => rfl) (fun _ => rfl) (fun _ => rfl) (fun _ => rfl) (Nat.le_refl _) (Nat.le_refl _) (Nat.le_refl _) (Nat.le_refl _)
  · exact note_shut (h.set 3 (.int .i64 v)) rfl rfl rfl rfl (fun _ => rfl) (fun _ => rfl) (fun _ => rfl) (fun _ => rfl) (Nat.le_refl _) (Nat.le_refl _) (Nat.le_refl _) (Nat.le_refl _)
theorem seen_put (h : Own w0 w (SeenA g N lo co :: R)) (n : Nat) (hn : n < 4) (k v : Int) (hk : wfI k) (hv : wfI v) (hN : N < 1000000000) : ∃ bn w2, w.cell? ⟨g, 4 + n, none⟩ = some (.map (some bn)) ∧ (Instr.mapUpdate 42 (.map (some bn)) (.int .i64 k) (.int .i64 v)).run Try.prog w = .ok () w2 ∧ Own w0 w2 (SeenA g (N + 1) lo (setCo co n k v) :: R) := by
  obtain ⟨b0, b1, b2, b3, h⟩ := seen_open h
  rcases (show n = 0 ∨ n = 1 ∨ n = 2 ∨ n = 3 by omega) with rfl | rfl | rfl | rfl
  · obtain ⟨w2, hr, h2⟩ := int_put h.r1 k v hk hv hN
    exact ⟨b0, w2, (blk_cell h.at0 4).trans rfl, hr, note_shut h2.r1 rfl rfl rfl rfl (fun _ => rfl) (fun _ => rfl) (fun _ => rfl) (fun _ => rfl) (Nat.le_refl _) (Nat.le_succ _) (Nat.le_succ _) (Nat.le_succ _)⟩
  · obtain ⟨w2, hr, h2⟩ := int_put h.r2 k v hk hv hN
    exact ⟨b1, w2, (blk_cell h.at0 5).trans rfl, hr, note_shut h2.r2.r2 rfl rfl rfl rfl (fun _ => rfl) (fun _ => rfl) (fun _ => rfl) (fun _ => rfl) (Nat.le_succ _) (Nat.le_refl _) (Nat.le_succ _) (Nat.le_succ _)⟩
  · obtain ⟨w2, hr, h2⟩ := int_put h.r3 k v hk hv hN
    exact ⟨b2, w2, (blk_cell h.at0 6).trans rfl, hr, note_shut h2.r3.r3.r3 rfl rfl rfl rfl (fun _ => rfl) (fun _ => rfl) (fun _ => rfl) (fun _ => rfl) (Nat.le_succ _) (Nat.le_succ _) (Nat.le_refl _) (Nat.le_succ _)⟩
  · obtain ⟨w2, hr, h2⟩ := int_put h.r4 k v hk hv hN
    exact ⟨b3, w2, (blk_cell h.at0 7).trans rfl, hr, note_shut h2.r4.r4.r4.r4 rfl rfl rfl rfl (fun _ => rfl) (fun _ => rfl) (fun _ => rfl) (fun _ => rfl) (Nat.le_succ _) (Nat.le_succ _) (Nat.le_succ _) (Nat.le_refl _)⟩
theorem seen_nest (h : Own w0 w R) (h2 : Own w w' [SeenA g N lo co]) : Own w0 w' (SeenA g N lo co :: R) := by
  obtain ⟨F, h3, h4, _⟩ := h2.sat
  exact h.make h2.bel ⟨F, h3, fun k hk => (h4 k hk).1⟩
theorem seen_congr {lo2 : Nat → Int} {co2 : Nat → Int → Option Int} (h : Own w0 w (SeenA g N lo co :: R)) (hl : ∀ j, j < 4 → lo j = lo2 j) (hc : ∀ j, j < 4 → ∀ k, co j k = co2 j k) : Own w0 w (SeenA g N lo2 co2 :: R) := by
  obtain ⟨b0, b1, b2, b3, h⟩ := seen_open h
  exact note_shut h (hl 0 (by decide)) (hl 1 (by decide)) (hl 2 (by decide)) (hl 3 (by decide)) (hc 0 (by decide)) (hc 1 (by decide)) (hc 2 (by decide)) (hc 3 (by decide)) (Nat.le_refl _) (Nat.le_refl _) (Nat.le_refl _) (Nat.le_refl _)
end
section
variable {w0 w w' : World} {R : List Asn} {g N b : Nat} {lo : Nat → Int} {co : Nat → Int → Option Int}
def okLow (x : Int) : Prop := 1 ≤ x ∧ x ≤ 1099511627776
def okE (lo : Nat → Int) (x : S33) : Prop := 0 ≤ x.f0 ∧ x.f0 < 4 ∧ codeB x.f2 = true ∧ lo x.f0.toNat ≤ x.f1 ∧ x.f1 < lo x.f0.toNat + 16
def ltE (p x : S33) : Prop := p.f0 < x.f0 ∨ p.f0 = x.f0 ∧ p.f1 < x.f1
def okAt (lo : Nat → Int) (l : List S33) (i : Nat) : Prop := ∀ x, l[i]? = some x → okE lo x ∧ ∀ p, 0 < i → l[i - 1]? = some p → ltE p x
def lowsF (lows : List Int) : Nat → Int := fun j => lows.getD j 0
/-- May it be a table? -/
def OfOk (lows : List Int) (l : List S33) : Prop := lows.length = 4 ∧ (∀ x ∈ lows, okLow x) ∧ ∀ i, okAt (lowsF lows) l i
def ofLoP (lows : List Int) (i : Nat) : Nat → Int := fun j => if j < i then lows.getD j 0 else 1
def ofCo (l : List S33) : Nat → Int → Option Int := l.foldl (fun co x => setCo co x.f0.toNat x.f1 x.f2) (fun _ _ => none)
theorem ofCo_snoc (l : List S33) (i : Nat) (x : S33) (hx : l[i]? = some x) : ofCo (l.take (i + 1)) = setCo (ofCo (l.take i)) x.f0.toNat x.f1 x.f2 := by
  obtain ⟨hi, rfl⟩ := List.getElem?_eq_some_iff.1 hx
  unfold ofCo
  rw [List.take_succ_eq_append_getElem hi, List.foldl_append]
  rfl
theorem entry_at {w v : World} {ad : Addr} {n : Nat} {l : List S33} (hr : Kd.C k33 w (some ad) n l) (hb : Below w.heap.size w v) (k : Nat) (hk : k < n) (f0 f1 f2 : Int) (hx : l[k]? = some ⟨f0, f1, f2⟩) :
    v.cell? (ad.add (k * 3)) = some (.int .i64 f0) ∧ v.cell? ⟨(ad.add (k * 3)).block, (ad.add (k * 3)).off + 1, none⟩ = some (.int .i64 f1) ∧ v.cell? ⟨(ad.add (k * 3)).block, (ad.add (k * 3)).off + 2, none⟩ = some (.int .i64 f2) := by
  obtain ⟨ad', e, h0, h1, h2⟩ := at_T33 hr (k : Int) (by omega) (by omega)
  cases e
  have hrd : rd_T33 l (k : Int) = ⟨f0, f1, f2⟩ := by unfold rd_T33; rw [Int.toNat_natCast, List.getD_eq_getElem?_getD, hx]; rfl
  rw [hrd, Int.toNat_natCast] at h0 h1 h2
  have hlt : (ad.add (k * 3)).block < w.heap.size := World.block_lt_of_cell? w _ h0
  exact ⟨(hb.cell hlt).trans h0, (hb.cell (p := ⟨_, _, none⟩) hlt).trans h1, (hb.cell (p := ⟨_, _, none⟩) hlt).trans h2⟩
end
section
variable {w0 w w' : World} {R : List Asn} {g N b : Nat} {lo : Nat → Int} {co : Nat → Int → Option Int}
theorem codeQ (n : Int) (W : World) (b : Bool) (hb : codeB n = b) : Calls Try.prog 23 #[.int .i64 n] W fun e w' => e = .returned (.bool b) ∧ w' = W := by
  subst hb
  exact (code_calls n W).mono fun e w' ⟨h1, h2⟩ => ⟨h1, h2.symm⟩
theorem not_ok_low {lows : List Int} {l : List S33} (i : Nat) (x : Int) (hx : lows[i]? = some x) (h : ¬ okLow x) : ¬ OfOk lows l := fun q => h (q.2.1 x (List.mem_of_getElem? hx))
theorem not_ok_at {lows : List Int} {l : List S33} (i : Nat) (x : S33) (hx : l[i]? = some x) (h : ¬ okE (lowsF lows) x) : ¬ OfOk lows l := fun q => h ((q.2.2 i) x hx).1
theorem not_ok_lt {lows : List Int} {l : List S33} (i : Nat) (p x : S33) (hp : l[i]? = some p) (hx : l[i + 1]? = some x) (h : ¬ ltE p x) : ¬ OfOk lows l := fun q => h (((q.2.2 (i + 1)) x hx).2 p (by omega) hp)
set_option maxHeartbeats 8000000 in
set_option maxRecDepth 100000 in
theorem SeenOf_ne (A : Option Addr) (c : Nat) (lows : List Int) (B : Option Addr) (d : Nat) (l : List S33) (w : World) (h4 : lows.length ≠ 4) : Calls Try.prog 12 #[.slice A lows.length c, .slice B l.length d] w fun e w' => e = .returned (.tuple #[.pointer none, .int .i64 1]) ∧ w = w' := by
  have e4 : ((lows.length : Int) == 4) = false := beq_eq_false_iff_ne.mpr (by omega)
  go_enter Try.func12, Try.ntmps12
  go_wp2
  refine bodyPost_ret (v := .tuple #[.pointer none, .int .i64 1]) (results_tt (p := 4) (q := 5) rfl _ _ _ _ rfl rfl) rfl ?_
  exact ⟨rfl, rfl⟩
set_option maxHeartbeats 8000000 in
set_option maxRecDepth 100000 in
theorem SeenOf_4 (A : Option Addr) (c : Nat) (lows : List Int) (B : Option Addr) (d : Nat) (l : List S33) (w : World) (hr : Kd.C (Kd.int .i64) w A lows.length lows) (hc : lows.length ≤ c) (hs : Kd.C k33 w B l.length l) (hd : l.length ≤ d) (hl : l.length < 1000000000) (h4 : lows.length = 4) :
    Calls Try.prog 12 #[.slice A lows.length c, .slice B l.length d] w fun e w' => (OfOk lows l ∧ ∃ g, e = .returned (.tuple #[.pointer (some ⟨g, 0, none⟩), .int .i64 0]) ∧ Own w w' [SeenA g l.length (lowsF lows) (ofCo l)]) ∨ (¬ OfOk lows l ∧ e = .returned (.tuple #[.pointer none, .int .i64 1]) ∧ Below w.heap.size w w') := by
  have HR := Aside0.mk hr
  have HS := Aside0.mk hs
  have HH := Aside0.mk h4
  have e4 : ((lows.length : Int) == 4) = true := by rw [h4]; rfl
  rw [h4]
  clear hr hs hc hd h4
  go_enter Try.func12, Try.ntmps12
  go_wp2_with (go_at_call 8; (with_reducible refine (SeenNew (Own.nil w)).mono ?_); rintro e w1 ⟨g, rfl, h⟩; have H1 := Aside0.mk h; clear h)
  clear e4
  go_loopw [17] (fun v17 wr => ∃ i : Nat, i ≤ 4 ∧ v17 = .int .i64 i ∧ Aside0 (∀ j x, j < i → lows[j]? = some x → okLow x) ∧ Aside0 (Own w wr [SeenA g 0 (ofLoP lows i) (fun _ _ => none)])) (fun v17 _ => 4 - (RowKit.intOf v17).toNat)
  case atStart => exact ⟨0, by decide, rfl, ⟨fun j x hj => absurd hj (by omega)⟩, ⟨seen_congr H1.out (fun j hj => rfl) (fun j hj k => rfl)⟩⟩
  case round =>
    obtain ⟨i, hi, rfl, HK, HO⟩ := hrel
    by_cases hlt : i < 4
    · have hgx := List.getElem?_eq_getElem (show i < lows.length by rw [HH.out]; exact hlt)
      obtain ⟨x, hx⟩ : ∃ x, lows[i]'(by rw [HH.out]; exact hlt) = x := ⟨_, rfl⟩
      rw [hx] at hgx
      have HGX := Aside0.mk hgx
      obtain ⟨ad, rfl, hcell⟩ := int_at (Kd.C_below HR.out HO.out.bel) i x hgx
      clear hgx hx
      by_cases c0 : x < 1
      · have d0 : decide (x < 1) = true := decide_eq_true c0
        go_wp2
        refine bodyPost_ret (v := .tuple #[.pointer none, .int .i64 1]) (results_tt (p := 4) (q := 5) rfl _ _ _ _ rfl rfl) rfl ?_
        exact .inr ⟨not_ok_low i x HGX.out (fun q => by have q1 := q.1; have q2 := q.2; omega), rfl, HO.out.bel⟩
      · have d0 : decide (x < 1) = false := decide_eq_false c0
        by_cases c1 : x > 1099511627776
        · have d1 : decide (x > 1099511627776) = true := decide_eq_true c1
          go_wp2
          refine bodyPost_ret (v := .tuple #[.pointer none, .int .i64 1]) (results_tt (p := 4) (q := 5) rfl _ _ _ _ rfl rfl) rfl ?_
          exact .inr ⟨not_ok_low i x HGX.out (fun q => by have q1 := q.1; have q2 := q.2; omega), rfl, HO.out.bel⟩
        · have d1 : decide (x > 1099511627776) = false := decide_eq_false c1
          have f := (seen_lo HO.out i hlt).2
          have z := (seen_lo HO.out i hlt).1
          have H5 := Aside0.mk (seen_setlo HO.out i hlt x)
          have i1 : (i : Int) < 4 := by omega
          go_wp2
          go_roundw
          case rel =>
            refine ⟨i + 1, by omega, by first | rfl | go_num, ⟨fun j y hj hy => ?_⟩, ⟨seen_congr H5.out (fun j hj => ?_) (fun j hj k => rfl)⟩⟩
            · by_cases e : j = i
              · subst e
                obtain rfl := Option.some.inj (HGX.out.symm.trans hy)
                exact ⟨by omega, by omega⟩
              · exact HK.out j y (by omega) hy
            · unfold setLo ofLoP
              by_cases e : j = i
              · subst e
                rw [if_pos rfl, if_pos (by omega), List.getD_eq_getElem?_getD, HGX.out]
                rfl
              · rw [if_neg e]
                by_cases e2 : j < i
                · rw [if_pos e2, if_pos (by omega)]
                · rw [if_neg e2, if_neg (by omega)]
          case measure => first | (simp [RowKit.intOf]; done) | (simp [RowKit.intOf]; omega)
    · obtain rfl : i = 4 := by omega
      have HLO : Aside0 (∀ x ∈ lows, okLow x) := ⟨fun x hx => by
        obtain ⟨j, hj⟩ := List.getElem?_of_mem hx
        exact HK.out j x (by have := (List.getElem?_eq_some_iff.1 hj).1; have := HH.out; omega) hj⟩
      have H2 : Aside0 (Own w wr [SeenA g 0 (lowsF lows) (fun _ _ => none)]) := ⟨seen_congr HO.out (fun j hj => if_pos hj) (fun j hj k => rfl)⟩
      have HLW : Aside0 (∀ n, n < 4 → okLow (lowsF lows n)) := ⟨fun n hn => by
        unfold lowsF
        rw [List.getD_eq_getElem?_getD, List.getElem?_eq_getElem (show n < lows.length by rw [HH.out]; exact hn)]
        exact HLO.out _ (List.getElem_mem _)⟩
      obtain ⟨lf, hlf⟩ : ∃ lf, lf = lowsF lows := ⟨_, rfl⟩
      rw [← hlf] at H2 HLW
      have HLF := Aside0.mk hlf
      clear hlt hi hlf
      go_wp2
      rename World => wo
      go_loopw [37] (fun v37 wr => ∃ i : Nat, i ≤ l.length ∧ v37 = .int .i64 i ∧ Aside0 (∀ j, j < i → okAt lf l j) ∧ Aside0 (Own w wr [SeenA g i lf (ofCo (l.take i))])) (fun v37 _ => l.length - (RowKit.intOf v37).toNat)
      case atStart => exact ⟨0, Nat.zero_le _, rfl, ⟨fun j hj => absurd hj (by omega)⟩, H2⟩
      case round =>
        obtain ⟨i, hi, rfl, HK2, HO2⟩ := hrel
        by_cases hlt : i < l.length
        · have hgx := List.getElem?_eq_getElem hlt
          obtain ⟨x, hx⟩ : ∃ x, l[i] = x := ⟨_, rfl⟩
          rw [hx] at hgx
          obtain ⟨f0, f1, f2⟩ := x
          have HGX := Aside0.mk hgx
          have hsn := ofCo_snoc l i _ hgx
          rcases B with _ | ad
          · exact absurd (HS.out.2.2 (by omega)) (by rintro ⟨_, h, _⟩; cases h)
          obtain ⟨a0, a1, a2⟩ := entry_at HS.out HO2.out.bel i hlt f0 f1 f2 hgx
          have HSN := Aside0.mk hsn
          clear hgx hx hsn
          go_wp2
          clear a0 a1 a2
          rcases i with _ | i
          · have h3 := HO2.out.alloc (.cells #[.int .i64 f0, .int .i64 f1, .int .i64 f2] 33)
            obtain ⟨W, hW⟩ : ∃ W, W = wr.alloc (.cells #[.int .i64 f0, .int .i64 f1, .int .i64 f2] 33) := ⟨_, rfl⟩
            rw [← hW] at h3 ⊢
            obtain ⟨bx, hbx⟩ : ∃ bx, bx = wr.heap.size := ⟨_, rfl⟩
            rw [← hbx] at h3 ⊢
            have H3 := Aside0.mk h3
            clear h3 hW hbx
            have x0 : W.cell? ⟨bx, 0, none⟩ = some (.int .i64 f0) := (blk_cell H3.out.at0 0).trans rfl
            have x1 : W.cell? ⟨bx, 1, none⟩ = some (.int .i64 f1) := (blk_cell H3.out.at0 1).trans rfl
            have x2 : W.cell? ⟨bx, 2, none⟩ = some (.int .i64 f2) := (blk_cell H3.out.at0 2).trans rfl
            by_cases c0 : f0 < 0
            · have d0a : decide (f0 < 0) = true := decide_eq_true (by omega)
              go_quiet (fail)
              go_wp2
              refine bodyPost_ret (v := .tuple #[.pointer none, .int .i64 1]) (results_tt (p := 4) (q := 5) rfl _ _ _ _ rfl rfl) rfl ?_
              exact .inr ⟨not_ok_at 0 ⟨f0, f1, f2⟩ HGX.out (fun q => by have q1 : 0 ≤ f0 := q.1; have q2 : f0 < 4 := q.2.1; have q3 : codeB f2 = true := q.2.2.1; have q4 : lowsF lows f0.toNat ≤ f1 := q.2.2.2.1; have q5 : f1 < lowsF lows f0.toNat + 16 := q.2.2.2.2; rw [← HLF.out] at q4 q5; omega), rfl, (H3.out.drewN nq).bel⟩
            have d0a : decide (f0 < 0) = false := decide_eq_false (by omega)
            by_cases c1 : 4 ≤ f0
            · have d1a : decide (f0 ≥ 4) = true := decide_eq_true (by omega)
              have d1b : decide (4 ≤ f0) = true := decide_eq_true (by omega)
              go_quiet (fail)
              go_wp2
              refine bodyPost_ret (v := .tuple #[.pointer none, .int .i64 1]) (results_tt (p := 4) (q := 5) rfl _ _ _ _ rfl rfl) rfl ?_
              exact .inr ⟨not_ok_at 0 ⟨f0, f1, f2⟩ HGX.out (fun q => by have q1 : 0 ≤ f0 := q.1; have q2 : f0 < 4 := q.2.1; have q3 : codeB f2 = true := q.2.2.1; have q4 : lowsF lows f0.toNat ≤ f1 := q.2.2.2.1; have q5 : f1 < lowsF lows f0.toNat + 16 := q.2.2.2.2; rw [← HLF.out] at q4 q5; omega), rfl, (H3.out.drewN nq).bel⟩
            have d1a : decide (f0 ≥ 4) = false := decide_eq_false (by omega)
            have d1b : decide (4 ≤ f0) = false := decide_eq_false (by omega)
            by_cases c2 : codeB f2 = false
            · have HC := Lib.hid c2
              clear c2
              go_quiet ((go_at_call 23; exact Calls.quiet_of_same (codeQ _ _ false HC.out)))
              go_wp2
              refine bodyPost_ret (v := .tuple #[.pointer none, .int .i64 1]) (results_tt (p := 4) (q := 5) rfl _ _ _ _ rfl rfl) rfl ?_
              exact .inr ⟨not_ok_at 0 ⟨f0, f1, f2⟩ HGX.out (fun q => by have q1 : 0 ≤ f0 := q.1; have q2 : f0 < 4 := q.2.1; have q3 : codeB f2 = true := q.2.2.1; have q4 : lowsF lows f0.toNat ≤ f1 := q.2.2.2.1; have q5 : f1 < lowsF lows f0.toNat + 16 := q.2.2.2.2; rw [← HLF.out] at q4 q5; exact absurd q3 (by rw [HC.out]; simp)), rfl, (H3.out.drewN nq).bel⟩
            have hcode : codeB f2 = true := by cases hcb : codeB f2 with | true => rfl | false => exact absurd hcb c2
            have HC := Lib.hid hcode
            have HN4 := Aside0.mk (show f0.toNat < 4 by omega)
            have z0 := (seen_lo H3.out.r1 f0.toNat HN4.out).1
            have hlw := HLW.out f0.toNat HN4.out
            have hlw1 : 1 ≤ lf f0.toNat := hlw.1
            have hlw2 : lf f0.toNat ≤ 1099511627776 := hlw.2
            have hw : wrap64 (lf f0.toNat + 16) = lf f0.toNat + 16 := by unfold wrap64; omega
            have j0 : 0 ≤ f0 := by omega
            have j1 : f0 < 4 := by omega
            clear c2 hcode hlw
            by_cases c3 : f1 < lf f0.toNat
            · have d3a : decide (f1 < lf f0.toNat) = true := decide_eq_true (by omega)
              go_quiet ((go_at_call 23; exact Calls.quiet_of_same (codeQ _ _ true HC.out)))
              go_wp2
              refine bodyPost_ret (v := .tuple #[.pointer none, .int .i64 1]) (results_tt (p := 4) (q := 5) rfl _ _ _ _ rfl rfl) rfl ?_
              exact .inr ⟨not_ok_at 0 ⟨f0, f1, f2⟩ HGX.out (fun q => by have q1 : 0 ≤ f0 := q.1; have q2 : f0 < 4 := q.2.1; have q3 : codeB f2 = true := q.2.2.1; have q4 : lowsF lows f0.toNat ≤ f1 := q.2.2.2.1; have q5 : f1 < lowsF lows f0.toNat + 16 := q.2.2.2.2; rw [← HLF.out] at q4 q5; omega), rfl, (H3.out.drewN nq).bel⟩
            have d3a : decide (f1 < lf f0.toNat) = false := decide_eq_false (by omega)
            by_cases c4 : lf f0.toNat + 16 ≤ f1
            · have d4a : decide (f1 ≥ lf f0.toNat + 16) = true := decide_eq_true (by omega)
              have d4b : decide (lf f0.toNat + 16 ≤ f1) = true := decide_eq_true (by omega)
              go_quiet ((go_at_call 23; exact Calls.quiet_of_same (codeQ _ _ true HC.out)))
              go_wp2
              refine bodyPost_ret (v := .tuple #[.pointer none, .int .i64 1]) (results_tt (p := 4) (q := 5) rfl _ _ _ _ rfl rfl) rfl ?_
              exact .inr ⟨not_ok_at 0 ⟨f0, f1, f2⟩ HGX.out (fun q => by have q1 : 0 ≤ f0 := q.1; have q2 : f0 < 4 := q.2.1; have q3 : codeB f2 = true := q.2.2.1; have q4 : lowsF lows f0.toNat ≤ f1 := q.2.2.2.1; have q5 : f1 < lowsF lows f0.toNat + 16 := q.2.2.2.2; rw [← HLF.out] at q4 q5; omega), rfl, (H3.out.drewN nq).bel⟩
            have d4a : decide (f1 ≥ lf f0.toNat + 16) = false := decide_eq_false (by omega)
            have d4b : decide (lf f0.toNat + 16 ≤ f1) = false := decide_eq_false (by omega)
            have HOK : Aside0 (okE lf ⟨f0, f1, f2⟩) := ⟨j0, j1, HC.out, (show lf f0.toNat ≤ f1 by omega), (show f1 < lf f0.toNat + 16 by omega)⟩
            have HW1 := Aside0.mk (wfi (x := f1) (by omega) (by omega))
            have hcd := of_decide_eq_true HC.out
            have HW2 := Aside0.mk (wfi (x := f2) (by omega) (by omega))
            go_quiet ((go_at_call 23; exact Calls.quiet_of_same (codeQ _ _ true HC.out)))
            go_wp2
            clear hcd hw hlw1 hlw2 c0 c1 c3 c4 d0a d1a d1b d3a d4a d4b
            obtain ⟨W2, hW⟩ : ∃ V : World, V = W.drewN nq := ⟨_, rfl⟩
            rw [← hW]
            have H4 : Aside0 (Own w W2 (Blk bx (.cells #[.int .i64 f0, .int .i64 f1, .int .i64 f2] 33 (0, 0)) :: SeenA g 0 lf (ofCo (l.take 0)) :: [])) := ⟨by rw [hW]; exact H3.out.drewN nq⟩
            clear hW x0 x1 x2 z0
            have x0 : W2.cell? ⟨bx, 0, none⟩ = some (.int .i64 f0) := (blk_cell H4.out.at0 0).trans rfl
            have x1 : W2.cell? ⟨bx, 1, none⟩ = some (.int .i64 f1) := (blk_cell H4.out.at0 1).trans rfl
            have x2 : W2.cell? ⟨bx, 2, none⟩ = some (.int .i64 f2) := (blk_cell H4.out.at0 2).trans rfl
            go_quiet (fail)
            go_wp2
            have HKN : Aside0 (∀ j, j < 0 + 1 → okAt lf l j) := ⟨fun j hj => by
              by_cases e : j = 0
              · subst e
                intro y hy
                obtain rfl := Option.some.inj (HGX.out.symm.trans hy)
                exact ⟨HOK.out, fun p hp => absurd hp (by omega)⟩
              · exact HK2.out j (by omega)⟩
            obtain ⟨W3, hW⟩ : ∃ V : World, V = W2.drewN nq := ⟨_, rfl⟩
            rw [← hW]
            have H5 : Aside0 (Own w W3 (Blk bx (.cells #[.int .i64 f0, .int .i64 f1, .int .i64 f2] 33 (0, 0)) :: SeenA g 0 lf (ofCo (l.take 0)) :: [])) := ⟨by rw [hW]; exact H4.out.drewN nq⟩
            clear hW x0 x1 x2
            have x0 : W3.cell? ⟨bx, 0, none⟩ = some (.int .i64 f0) := (blk_cell H5.out.at0 0).trans rfl
            have x1 : W3.cell? ⟨bx, 1, none⟩ = some (.int .i64 f1) := (blk_cell H5.out.at0 1).trans rfl
            have x2 : W3.cell? ⟨bx, 2, none⟩ = some (.int .i64 f2) := (blk_cell H5.out.at0 2).trans rfl
            obtain ⟨bn, w5, hz5, hrun5, h5⟩ := seen_put H5.out.r1.drew f0.toNat HN4.out f1 f2 HW1.out HW2.out (by omega)
            have hz6 : W3.cell? ⟨g, 4 + f0.toNat, none⟩ = some (.map (some bn)) := hz5
            have H9 := Aside0.mk h5.r1.tail
            clear hz5 h5 
            go_region
            all_goals go_wp2
            go_roundw
            case rel =>
              have HEND : Aside0 (Own w w5 [SeenA g (0 + 1) lf (ofCo (l.take (0 + 1)))]) := ⟨by rw [HSN.out]; exact H9.out⟩
              first | exact ⟨0 + 1, by omega, by first | rfl | go_num, HKN, HEND⟩ | ((repeat apply Exists.intro); exact ⟨⟨0 + 1, by omega, by first | rfl | go_num, HKN, HEND⟩, rfl⟩)
            case measure => first | (simp [RowKit.intOf]; done) | (simp [RowKit.intOf]; omega)
          · have h3 := HO2.out.alloc (.cells #[.int .i64 f0, .int .i64 f1, .int .i64 f2] 33)
            obtain ⟨W, hW⟩ : ∃ W, W = wr.alloc (.cells #[.int .i64 f0, .int .i64 f1, .int .i64 f2] 33) := ⟨_, rfl⟩
            rw [← hW] at h3 ⊢
            obtain ⟨bx, hbx⟩ : ∃ bx, bx = wr.heap.size := ⟨_, rfl⟩
            rw [← hbx] at h3 ⊢
            have H3 := Aside0.mk h3
            clear h3 hW hbx
            have x0 : W.cell? ⟨bx, 0, none⟩ = some (.int .i64 f0) := (blk_cell H3.out.at0 0).trans rfl
            have x1 : W.cell? ⟨bx, 1, none⟩ = some (.int .i64 f1) := (blk_cell H3.out.at0 1).trans rfl
            have x2 : W.cell? ⟨bx, 2, none⟩ = some (.int .i64 f2) := (blk_cell H3.out.at0 2).trans rfl
            by_cases c0 : f0 < 0
            · have d0a : decide (f0 < 0) = true := decide_eq_true (by omega)
              go_quiet (fail)
              go_wp2
              refine bodyPost_ret (v := .tuple #[.pointer none, .int .i64 1]) (results_tt (p := 4) (q := 5) rfl _ _ _ _ rfl rfl) rfl ?_
              exact .inr ⟨not_ok_at (i + 1) ⟨f0, f1, f2⟩ HGX.out (fun q => by have q1 : 0 ≤ f0 := q.1; have q2 : f0 < 4 := q.2.1; have q3 : codeB f2 = true := q.2.2.1; have q4 : lowsF lows f0.toNat ≤ f1 := q.2.2.2.1; have q5 : f1 < lowsF lows f0.toNat + 16 := q.2.2.2.2; rw [← HLF.out] at q4 q5; omega), rfl, (H3.out.drewN nq).bel⟩
            have d0a : decide (f0 < 0) = false := decide_eq_false (by omega)
            by_cases c1 : 4 ≤ f0
            · have d1a : decide (f0 ≥ 4) = true := decide_eq_true (by omega)
              have d1b : decide (4 ≤ f0) = true := decide_eq_true (by omega)
              go_quiet (fail)
              go_wp2
              refine bodyPost_ret (v := .tuple #[.pointer none, .int .i64 1]) (results_tt (p := 4) (q := 5) rfl _ _ _ _ rfl rfl) rfl ?_
              exact .inr ⟨not_ok_at (i + 1) ⟨f0, f1, f2⟩ HGX.out (fun q => by have q1 : 0 ≤ f0 := q.1; have q2 : f0 < 4 := q.2.1; have q3 : codeB f2 = true := q.2.2.1; have q4 : lowsF lows f0.toNat ≤ f1 := q.2.2.2.1; have q5 : f1 < lowsF lows f0.toNat + 16 := q.2.2.2.2; rw [← HLF.out] at q4 q5; omega), rfl, (H3.out.drewN nq).bel⟩
            have d1a : decide (f0 ≥ 4) = false := decide_eq_false (by omega)
            have d1b : decide (4 ≤ f0) = false := decide_eq_false (by omega)
            by_cases c2 : codeB f2 = false
            · have HC := Lib.hid c2
              clear c2
              go_quiet ((go_at_call 23; exact Calls.quiet_of_same (codeQ _ _ false HC.out)))
              go_wp2
              refine bodyPost_ret (v := .tuple #[.pointer none, .int .i64 1]) (results_tt (p := 4) (q := 5) rfl _ _ _ _ rfl rfl) rfl ?_
              exact .inr ⟨not_ok_at (i + 1) ⟨f0, f1, f2⟩ HGX.out (fun q => by have q1 : 0 ≤ f0 := q.1; have q2 : f0 < 4 := q.2.1; have q3 : codeB f2 = true := q.2.2.1; have q4 : lowsF lows f0.toNat ≤ f1 := q.2.2.2.1; have q5 : f1 < lowsF lows f0.toNat + 16 := q.2.2.2.2; rw [← HLF.out] at q4 q5; exact absurd q3 (by rw [HC.out]; simp)), rfl, (H3.out.drewN nq).bel⟩
            have hcode : codeB f2 = true := by cases hcb : codeB f2 with | true => rfl | false => exact absurd hcb c2
            have HC := Lib.hid hcode
            have HN4 := Aside0.mk (show f0.toNat < 4 by omega)
            have z0 := (seen_lo H3.out.r1 f0.toNat HN4.out).1
            have hlw := HLW.out f0.toNat HN4.out
            have hlw1 : 1 ≤ lf f0.toNat := hlw.1
            have hlw2 : lf f0.toNat ≤ 1099511627776 := hlw.2
            have hw : wrap64 (lf f0.toNat + 16) = lf f0.toNat + 16 := by unfold wrap64; omega
            have j0 : 0 ≤ f0 := by omega
            have j1 : f0 < 4 := by omega
            clear c2 hcode hlw
            by_cases c3 : f1 < lf f0.toNat
            · have d3a : decide (f1 < lf f0.toNat) = true := decide_eq_true (by omega)
              go_quiet ((go_at_call 23; exact Calls.quiet_of_same (codeQ _ _ true HC.out)))
              go_wp2
              refine bodyPost_ret (v := .tuple #[.pointer none, .int .i64 1]) (results_tt (p := 4) (q := 5) rfl _ _ _ _ rfl rfl) rfl ?_
              exact .inr ⟨not_ok_at (i + 1) ⟨f0, f1, f2⟩ HGX.out (fun q => by have q1 : 0 ≤ f0 := q.1; have q2 : f0 < 4 := q.2.1; have q3 : codeB f2 = true := q.2.2.1; have q4 : lowsF lows f0.toNat ≤ f1 := q.2.2.2.1; have q5 : f1 < lowsF lows f0.toNat + 16 := q.2.2.2.2; rw [← HLF.out] at q4 q5; omega), rfl, (H3.out.drewN nq).bel⟩
            have d3a : decide (f1 < lf f0.toNat) = false := decide_eq_false (by omega)
            by_cases c4 : lf f0.toNat + 16 ≤ f1
            · have d4a : decide (f1 ≥ lf f0.toNat + 16) = true := decide_eq_true (by omega)
              have d4b : decide (lf f0.toNat + 16 ≤ f1) = true := decide_eq_true (by omega)
              go_quiet ((go_at_call 23; exact Calls.quiet_of_same (codeQ _ _ true HC.out)))
              go_wp2
              refine bodyPost_ret (v := .tuple #[.pointer none, .int .i64 1]) (results_tt (p := 4) (q := 5) rfl _ _ _ _ rfl rfl) rfl ?_
              exact .inr ⟨not_ok_at (i + 1) ⟨f0, f1, f2⟩ HGX.out (fun q => by have q1 : 0 ≤ f0 := q.1; have q2 : f0 < 4 := q.2.1; have q3 : codeB f2 = true := q.2.2.1; have q4 : lowsF lows f0.toNat ≤ f1 := q.2.2.2.1; have q5 : f1 < lowsF lows f0.toNat + 16 := q.2.2.2.2; rw [← HLF.out] at q4 q5; omega), rfl, (H3.out.drewN nq).bel⟩
            have d4a : decide (f1 ≥ lf f0.toNat + 16) = false := decide_eq_false (by omega)
            have d4b : decide (lf f0.toNat + 16 ≤ f1) = false := decide_eq_false (by omega)
            have HOK : Aside0 (okE lf ⟨f0, f1, f2⟩) := ⟨j0, j1, HC.out, (show lf f0.toNat ≤ f1 by omega), (show f1 < lf f0.toNat + 16 by omega)⟩
            have HW1 := Aside0.mk (wfi (x := f1) (by omega) (by omega))
            have hcd := of_decide_eq_true HC.out
            have HW2 := Aside0.mk (wfi (x := f2) (by omega) (by omega))
            go_quiet ((go_at_call 23; exact Calls.quiet_of_same (codeQ _ _ true HC.out)))
            go_wp2
            clear hcd hw hlw1 hlw2 c0 c1 c3 c4 d0a d1a d1b d3a d4a d4b
            obtain ⟨W2, hW⟩ : ∃ V : World, V = W.drewN nq := ⟨_, rfl⟩
            rw [← hW]
            have H4 : Aside0 (Own w W2 (Blk bx (.cells #[.int .i64 f0, .int .i64 f1, .int .i64 f2] 33 (0, 0)) :: SeenA g (i + 1) lf (ofCo (l.take (i + 1))) :: [])) := ⟨by rw [hW]; exact H3.out.drewN nq⟩
            clear hW x0 x1 x2 z0
            have x0 : W2.cell? ⟨bx, 0, none⟩ = some (.int .i64 f0) := (blk_cell H4.out.at0 0).trans rfl
            have x1 : W2.cell? ⟨bx, 1, none⟩ = some (.int .i64 f1) := (blk_cell H4.out.at0 1).trans rfl
            have x2 : W2.cell? ⟨bx, 2, none⟩ = some (.int .i64 f2) := (blk_cell H4.out.at0 2).trans rfl
            have hgp := List.getElem?_eq_getElem (show i < l.length by omega)
            obtain ⟨p, hp⟩ : ∃ p, l[i] = p := ⟨_, rfl⟩
            rw [hp] at hgp
            obtain ⟨p0, p1, p2⟩ := p
            have HGP := Aside0.mk hgp
            obtain ⟨e0, e1, e2⟩ := entry_at HS.out H4.out.bel i (by omega) p0 p1 p2 hgp
            have i0 : decide ((i : Int) + 1 > 0) = true := decide_eq_true (by omega)
            have i1 : decide (0 < (i : Int) + 1) = true := decide_eq_true (by omega)
            have i2 : wrap64 ((i : Int) + 1 - 1) = (i : Int) := by unfold wrap64; omega
            have i3 : (i : Int) + 1 - 1 = (i : Int) := by omega
            have i4 : wrap64 (i : Int) = (i : Int) := by unfold wrap64; omega
            have i5 : (i : Int) < (l.length : Int) := by omega
            clear hgp hp
            try rw [show ((i + 1 : Nat) : Int) = (i : Int) + 1 from rfl]
            by_cases g0 : p0 > f0
            · have g0a : decide (p0 > f0) = true := decide_eq_true g0
              have g0b : decide (f0 < p0) = true := decide_eq_true g0
              go_quiet (fail)
              go_wp2
              refine bodyPost_ret (v := .tuple #[.pointer none, .int .i64 1]) (results_tt (p := 4) (q := 5) rfl _ _ _ _ rfl rfl) rfl ?_
              exact .inr ⟨not_ok_lt i ⟨p0, p1, p2⟩ ⟨f0, f1, f2⟩ HGP.out HGX.out (fun q => by rcases q with q | q; exact absurd (show p0 < f0 from q) (by omega); exact absurd (show p0 = f0 from q.1) (by omega)), rfl, (H4.out.drewN nq).bel⟩
            have g0a : decide (p0 > f0) = false := decide_eq_false g0
            have g0b : decide (f0 < p0) = false := decide_eq_false g0
            by_cases g1 : p0 = f0
            · have g1a : (p0 == f0) = true := beq_iff_eq.2 g1
              by_cases g2 : p1 ≥ f1
              · have g2a : decide (p1 ≥ f1) = true := decide_eq_true g2
                have g2b : decide (f1 ≤ p1) = true := decide_eq_true g2
                go_quiet (fail)
                go_wp2
                refine bodyPost_ret (v := .tuple #[.pointer none, .int .i64 1]) (results_tt (p := 4) (q := 5) rfl _ _ _ _ rfl rfl) rfl ?_
                exact .inr ⟨not_ok_lt i ⟨p0, p1, p2⟩ ⟨f0, f1, f2⟩ HGP.out HGX.out (fun q => by rcases q with q | q; exact absurd (show p0 < f0 from q) (by omega); exact absurd (show p1 < f1 from q.2) (by omega)), rfl, (H4.out.drewN nq).bel⟩
              have g2a : decide (p1 ≥ f1) = false := decide_eq_false g2
              have g2b : decide (f1 ≤ p1) = false := decide_eq_false g2
              have HKN : Aside0 (∀ j, j < (i + 1) + 1 → okAt lf l j) := ⟨fun j hj => by
                by_cases e : j = (i + 1)
                · subst e
                  intro y hy
                  obtain rfl := Option.some.inj (HGX.out.symm.trans hy)
                  exact ⟨HOK.out, fun p hp1 hp2 => by obtain rfl := Option.some.inj (HGP.out.symm.trans hp2); exact .inr ⟨g1, show p1 < f1 by omega⟩⟩
                · exact HK2.out j (by omega)⟩
              go_quiet (fail)
              go_wp2
              obtain ⟨W3, hW⟩ : ∃ V : World, V = W2.drewN nq := ⟨_, rfl⟩
              rw [← hW]
              have H5 : Aside0 (Own w W3 (Blk bx (.cells #[.int .i64 f0, .int .i64 f1, .int .i64 f2] 33 (0, 0)) :: SeenA g (i + 1) lf (ofCo (l.take (i + 1))) :: [])) := ⟨by rw [hW]; exact H4.out.drewN nq⟩
              clear hW x0 x1 x2 e0 e1 e2
              have x0 : W3.cell? ⟨bx, 0, none⟩ = some (.int .i64 f0) := (blk_cell H5.out.at0 0).trans rfl
              have x1 : W3.cell? ⟨bx, 1, none⟩ = some (.int .i64 f1) := (blk_cell H5.out.at0 1).trans rfl
              have x2 : W3.cell? ⟨bx, 2, none⟩ = some (.int .i64 f2) := (blk_cell H5.out.at0 2).trans rfl
              obtain ⟨bn, w5, hz5, hrun5, h5⟩ := seen_put H5.out.r1.drew f0.toNat HN4.out f1 f2 HW1.out HW2.out (by omega)
              have hz6 : W3.cell? ⟨g, 4 + f0.toNat, none⟩ = some (.map (some bn)) := hz5
              have H9 := Aside0.mk h5.r1.tail
              clear hz5 h5 
              go_region
              all_goals go_wp2
              go_roundw
              case rel =>
                have HEND : Aside0 (Own w w5 [SeenA g ((i + 1) + 1) lf (ofCo (l.take ((i + 1) + 1)))]) := ⟨by rw [HSN.out]; exact H9.out⟩
                first | exact ⟨(i + 1) + 1, by omega, by first | rfl | go_num, HKN, HEND⟩ | ((repeat apply Exists.intro); exact ⟨⟨(i + 1) + 1, by omega, by first | rfl | go_num, HKN, HEND⟩, rfl⟩)
              case measure => first | (simp [RowKit.intOf]; done) | (simp [RowKit.intOf]; omega)
            · have g1a : (p0 == f0) = false := beq_eq_false_iff_ne.2 g1
              have HKN : Aside0 (∀ j, j < (i + 1) + 1 → okAt lf l j) := ⟨fun j hj => by
                by_cases e : j = (i + 1)
                · subst e
                  intro y hy
                  obtain rfl := Option.some.inj (HGX.out.symm.trans hy)
                  exact ⟨HOK.out, fun p hp1 hp2 => by obtain rfl := Option.some.inj (HGP.out.symm.trans hp2); exact .inl (show p0 < f0 by omega)⟩
                · exact HK2.out j (by omega)⟩
              go_quiet (fail)
              go_wp2
              obtain ⟨W3, hW⟩ : ∃ V : World, V = W2.drewN nq := ⟨_, rfl⟩
              rw [← hW]
              have H5 : Aside0 (Own w W3 (Blk bx (.cells #[.int .i64 f0, .int .i64 f1, .int .i64 f2] 33 (0, 0)) :: SeenA g (i + 1) lf (ofCo (l.take (i + 1))) :: [])) := ⟨by rw [hW]; exact H4.out.drewN nq⟩
              clear hW x0 x1 x2 e0 e1 e2
              have x0 : W3.cell? ⟨bx, 0, none⟩ = some (.int .i64 f0) := (blk_cell H5.out.at0 0).trans rfl
              have x1 : W3.cell? ⟨bx, 1, none⟩ = some (.int .i64 f1) := (blk_cell H5.out.at0 1).trans rfl
              have x2 : W3.cell? ⟨bx, 2, none⟩ = some (.int .i64 f2) := (blk_cell H5.out.at0 2).trans rfl
              obtain ⟨bn, w5, hz5, hrun5, h5⟩ := seen_put H5.out.r1.drew f0.toNat HN4.out f1 f2 HW1.out HW2.out (by omega)
              have hz6 : W3.cell? ⟨g, 4 + f0.toNat, none⟩ = some (.map (some bn)) := hz5
              have H9 := Aside0.mk h5.r1.tail
              clear hz5 h5 
              go_region
              all_goals go_wp2
              go_roundw
              case rel =>
                have HEND : Aside0 (Own w w5 [SeenA g ((i + 1) + 1) lf (ofCo (l.take ((i + 1) + 1)))]) := ⟨by rw [HSN.out]; exact H9.out⟩
                first | exact ⟨(i + 1) + 1, by omega, by first | rfl | go_num, HKN, HEND⟩ | ((repeat apply Exists.intro); exact ⟨⟨(i + 1) + 1, by omega, by first | rfl | go_num, HKN, HEND⟩, rfl⟩)
              case measure => first | (simp [RowKit.intOf]; done) | (simp [RowKit.intOf]; omega)
        · obtain rfl : i = l.length := by omega
          go_wp2
          refine bodyPost_ret (v := .tuple #[.pointer (some ⟨g, 0, none⟩), .int .i64 0]) (results_tt (p := 4) (q := 5) rfl _ _ _ _ rfl rfl) rfl ?_
          refine .inl ⟨⟨HH.out, HLO.out, fun j x hx => ?_⟩, g, rfl, ?_⟩
          · have := HK2.out j (by have := (List.getElem?_eq_some_iff.1 hx).1; omega) x hx
            rwa [HLF.out] at this
          · have := HO2.out
            rwa [List.take_length, HLF.out] at this
end
end Go.Proofs.Ytboomdjkgheonaa.PSeenPlays
