/- Traces: acts. -/
import Derived.Test.YtglccegihffndaaTrc8
import Derived.Test.YtglccegihffndaaQ
namespace Go.Proofs.Ytglccegihffndaa.PTracePlays
open Go.RowKit Go.Proofs.YtglccegihffndaaW.PrintWords Go.Proofs.YtglccegihffndaaW.PrintLast Go.Proofs.YtglccegihffndaaW.PrintMore
open Go.Proofs.YtglccegihffndaaO
attribute [local go_sem] max2_int min2_int max_two min_two max_three min_three max_four min_four
set_option linter.unusedVariables false
set_option linter.unusedSimpArgs false
abbrev actV (x : S33) (A : Option Addr) (c : Nat) : Array Value := #[.int .i64 x.f0, .int .i64 x.f1, .int .i64 x.f2, .int .i64 x.f3, .slice A x.f4.length c, .int .i64 x.f5.f0, .int .i64 x.f5.f1, .int .i64 x.f5.f2, .int .u8 x.f5.f3, .string x.f5.f4, .int .i64 x.f5.f5, .int .i64 x.f5.f6, .int .i64 x.f5.f7, .int .i64 x.f6]
/-- An act, in whatever world that has come of the first one. -/
theorem act_at {w v : World} {A : Option Addr} {l : List S33} (hr : Kd.C k33 w A l.length l) (hb : Below w.heap.size w v) (k : Nat) (x : S33) (hx : l[k]? = some x) : ∃ ad YA Yc, A = some ad ∧ v.cell? (ad.add (k * 14)) = some (.int .i64 x.f0) ∧ v.cell? ⟨(ad.add (k * 14)).block, (ad.add (k * 14)).off + 1, none⟩ = some (.int .i64 x.f1) ∧ v.cell? ⟨(ad.add (k * 14)).block, (ad.add (k * 14)).off + 2, none⟩ = some (.int .i64 x.f2) ∧ v.cell? ⟨(ad.add (k * 14)).block, (ad.add (k * 14)).off + 3, none⟩ = some (.int .i64 x.f3) ∧ v.cell? ⟨(ad.add (k * 14)).block, (ad.add (k * 14)).off + 4, none⟩ = some (.slice YA x.f4.length Yc) ∧ v.cell? ⟨(ad.add (k * 14)).block, (ad.add (k * 14)).off + 5, none⟩ = some (.int .i64 x.f5.f0) ∧ v.cell? ⟨(ad.add (k * 14)).block, (ad.add (k * 14)).off + 6, none⟩ = some (.int .i64 x.f5.f1) ∧ v.cell? ⟨(ad.add (k * 14)).block, (ad.add (k * 14)).off + 7, none⟩ = some (.int .i64 x.f5.f2) ∧ v.cell? ⟨(ad.add (k * 14)).block, (ad.add (k * 14)).off + 8, none⟩ = some (.int .u8 x.f5.f3) ∧ v.cell? ⟨(ad.add (k * 14)).block, (ad.add (k * 14)).off + 9, none⟩ = some (.string x.f5.f4) ∧ v.cell? ⟨(ad.add (k * 14)).block, (ad.add (k * 14)).off + 10, none⟩ = some (.int .i64 x.f5.f5) ∧ v.cell? ⟨(ad.add (k * 14)).block, (ad.add (k * 14)).off + 11, none⟩ = some (.int .i64 x.f5.f6) ∧ v.cell? ⟨(ad.add (k * 14)).block, (ad.add (k * 14)).off + 12, none⟩ = some (.int .i64 x.f5.f7) ∧ v.cell? ⟨(ad.add (k * 14)).block, (ad.add (k * 14)).off + 13, none⟩ = some (.int .i64 x.f6) ∧ Kd.C k44 w YA x.f4.length x.f4 := by
  have hk := (List.getElem?_eq_some_iff.1 hx).1
  have hrd : rd_T33 l (k : Int) = x := by unfold rd_T33; rw [Int.toNat_natCast, List.getD_eq_getElem?_getD, hx]; rfl
  obtain ⟨ad, YA, Yc, e, h0, h1, h2, h3, h4, h5, h6, h7, h8, h9, h10, h11, h12, h13, hlen, hC⟩ := at_T33 hr (k : Int) (by omega) (by omega)
  rw [hrd, Int.toNat_natCast] at h0 h1 h2 h3 h4 h5 h6 h7 h8 h9 h10 h11 h12 h13
  rw [hrd] at hC
  have hlt : (ad.add (k * 14)).block < w.heap.size := World.block_lt_of_cell? w _ h0
  exact ⟨ad, YA, Yc, e, (hb.cell hlt).trans h0, (hb.cell (p := ⟨_, _, none⟩) hlt).trans h1, (hb.cell (p := ⟨_, _, none⟩) hlt).trans h2, (hb.cell (p := ⟨_, _, none⟩) hlt).trans h3, (hb.cell (p := ⟨_, _, none⟩) hlt).trans h4, (hb.cell (p := ⟨_, _, none⟩) hlt).trans h5, (hb.cell (p := ⟨_, _, none⟩) hlt).trans h6, (hb.cell (p := ⟨_, _, none⟩) hlt).trans h7, (hb.cell (p := ⟨_, _, none⟩) hlt).trans h8, (hb.cell (p := ⟨_, _, none⟩) hlt).trans h9, (hb.cell (p := ⟨_, _, none⟩) hlt).trans h10, (hb.cell (p := ⟨_, _, none⟩) hlt).trans h11, (hb.cell (p := ⟨_, _, none⟩) hlt).trans h12, (hb.cell (p := ⟨_, _, none⟩) hlt).trans h13, hC⟩
/-- What stands behind an act, and what it answers. -/
def doA (ss : List (List TO × List TA)) (x : S33) : List (List TO × List TA) := if x.f0 = 0 then tellR ss x.f1 x.f2 x.f3 x.f4 else if x.f0 = 1 then applyR ss x.f1 x.f5 x.f6 else ss
def putE (n : Nat) (x : S33) : Int := if x.f0 = 0 ∨ x.f0 = 1 then errR n x.f1 else 0
theorem doA_len (ss : List (List TO × List TA)) (x : S33) : (doA ss x).length = ss.length := by
  unfold doA
  split
  · exact tellR_len ..
  · split
    · exact applyR_len ..
    · rfl
/-- What an act makes of one shard. -/
def upd (s : List TO × List TA) (x : S33) : List TO × List TA := if x.f0 = 0 then (s.1 ++ x.f4.map (fun y => ⟨y, x.f2, x.f3⟩), s.2) else if x.f0 = 1 then (s.1, s.2 ++ [⟨x.f5, x.f6⟩]) else s
theorem sAt_do (ss : List (List TO × List TA)) (x : S33) (q : Int) : sAt (doA ss x) q = if inB ss.length x.f1 = true ∧ q = x.f1 then upd (sAt ss q) x else sAt ss q := by
  unfold doA upd
  by_cases h0 : x.f0 = 0
  · rw [if_pos h0, if_pos h0]
    exact sAt_tell ..
  · rw [if_neg h0, if_neg h0]
    by_cases h1 : x.f0 = 1
    · rw [if_pos h1, if_pos h1]
      exact sAt_apply ..
    · rw [if_neg h1, if_neg h1, ite_self]
theorem fold_len (ss : List (List TO × List TA)) : ∀ (l : List S33), (l.foldl doA ss).length = ss.length
  | [] => rfl
  | x :: l => by rw [List.foldl_cons, fold_len (doA ss x) l, doA_len]
/-- Each shard bears what was put for it, in its row. -/
theorem sAt_fold (q : Int) : ∀ (l : List S33) (ss : List (List TO × List TA)), sAt (l.foldl doA ss) q = if inB ss.length q = true then (l.filter (fun x => decide (x.f1 = q))).foldl upd (sAt ss q) else sAt ss q
  | [], ss => by simp
  | x :: l, ss => by
    rw [List.foldl_cons, sAt_fold q l, doA_len, sAt_do]
    by_cases hq : inB ss.length q = true
    · rw [if_pos hq, if_pos hq, List.filter_cons]
      by_cases e : x.f1 = q
      · subst e
        rw [if_pos ⟨hq, rfl⟩, if_pos (decide_eq_true rfl), List.foldl_cons]
      · rw [if_neg (fun h => e h.2.symm), if_neg (by simpa using e)]
    · rw [if_neg hq, if_neg hq, if_neg]
      rintro ⟨h1, rfl⟩
      exact hq h1
theorem sAt_new (n : Nat) (q : Int) : sAt (List.replicate n ([], [])) q = ([], []) := by
  unfold sAt
  split
  · rw [List.getD_eq_getElem?_getD, List.getElem?_replicate]
    split <;> rfl
  · rfl
theorem upd_len (s : List TO × List TA) (x : S33) (h : x.f4.length ≤ 30) : (upd s x).1.length ≤ s.1.length + 30 ∧ (upd s x).2.length ≤ s.2.length + 30 := by
  unfold upd
  split
  · simp; omega
  · split
    · simp
    · simp
theorem fold_upd_len : ∀ (l : List S33) (s : List TO × List TA), (∀ x ∈ l, x.f4.length ≤ 30) → (l.foldl upd s).1.length ≤ s.1.length + 30 * l.length ∧ (l.foldl upd s).2.length ≤ s.2.length + 30 * l.length
  | [], s, _ => by simp
  | x :: l, s, h => by
    have h1 := upd_len s x (h x (List.mem_cons_self ..))
    have h2 := fold_upd_len l (upd s x) fun y hy => h y (List.mem_cons_of_mem _ hy)
    rw [List.foldl_cons, List.length_cons]
    omega
theorem sAt_len (n : Nat) (l : List S33) (h : ∀ x ∈ l, x.f4.length ≤ 30) (hl : l.length ≤ 100000) (q : Int) : (sAt (l.foldl doA (List.replicate n ([], []))) q).1.length ≤ 30 * 100000 ∧ (sAt (l.foldl doA (List.replicate n ([], []))) q).2.length ≤ 30 * 100000 := by
  rw [sAt_fold, sAt_new]
  split
  · have h1 := fold_upd_len (l.filter (fun x => decide (x.f1 = q))) ([], []) fun y hy => h y ((List.mem_filter.1 hy).1)
    have h2 := List.length_filter_le (fun x : S33 => decide (x.f1 = q)) l
    simp only [List.length_nil] at h1
    omega
  · simp
theorem great_go (l : List S33) : ∀ d k : Nat, k + d = min l.length 201 → (∀ j, j < k → ∀ hjl : j < l.length, (l[j]).f4.length ≤ 30) → ∃ r, meterlaw24_Great.l0 (2 * d + 2) l k = some r ∧ (r = false → l.length ≤ 200 ∧ ∀ x ∈ l, x.f4.length ≤ 30)
  | 0, k, h, hp => by
    simp only [meterlaw24_Great.l0]
    by_cases hk : k < l.length
    · rw [if_pos (by omega), show decide ((k : Int) ≤ 200) = false from decide_eq_false (by omega)]
      simp only [meterlaw24_Great.j1]
      rw [if_neg (by simp)]
      exact ⟨_, rfl, fun h => by have := of_decide_eq_false h; omega⟩
    · rw [if_neg (by omega)]
      simp only [meterlaw24_Great.j1]
      rw [if_neg (by simp)]
      refine ⟨_, rfl, fun h => ⟨by have := of_decide_eq_false h; omega, fun x hx => ?_⟩⟩
      obtain ⟨j, hj⟩ := List.getElem?_of_mem hx
      obtain ⟨hjl, rfl⟩ := List.getElem?_eq_some_iff.1 hj
      exact hp j (by omega) hjl
  | d + 1, k, h, hp => by
    have hk : k < l.length := by omega
    have hrd : rd_T33 l (k : Int) = l[k] := by unfold rd_T33; rw [Int.toNat_natCast, List.getD_eq_getElem?_getD, List.getElem?_eq_getElem hk]; rfl
    have hw : wrap64 ((k : Int) + 1) = ((k + 1 : Nat) : Int) := by unfold wrap64; omega
    rw [show 2 * (d + 1) + 2 = (2 * d + 2) + 1 + 1 by omega]
    simp only [meterlaw24_Great.l0]
    rw [if_pos (show ((k : Nat) : Int) < (l.length : Int) by omega), show decide (((k : Nat) : Int) ≤ 200) = true from decide_eq_true (by omega)]
    simp only [meterlaw24_Great.j1]
    rw [if_pos trivial, if_pos (show 0 ≤ ((k : Nat) : Int) by omega), if_pos (show ((k : Nat) : Int) < (l.length : Int) by omega), hrd, hw]
    by_cases h2 : (l[k].f4.length : Int) > 30
    · rw [if_pos h2]
      exact ⟨true, rfl, fun h => by cases h⟩
    rw [if_neg h2]
    refine great_go l d (k + 1) (by omega) fun j hj hjl => ?_
    by_cases hjk : j = k
    · subst hjk
      omega
    · exact hp j (by omega) hjl
theorem great_f (l : List S33) : ∃ r, meterlaw24_Great.f (2 * min l.length 201 + 2) l = some r ∧ (r = false → l.length ≤ 200 ∧ ∀ x ∈ l, x.f4.length ≤ 30) :=
  great_go l (min l.length 201) 0 (by omega) fun j hj => by omega
section
variable {w0 w w' : World} {R : List Asn} {g : Nat} {ss : List (List TO × List TA)}
set_option maxHeartbeats 4000000 in
set_option maxRecDepth 100000 in
theorem put_calls (h : Own w0 w (Tr g ss :: R)) (x : S33) (A : Option Addr) (c : Nat) (hl : (sAt ss x.f1).1.length + x.f4.length ≤ 1000000000 ∧ (sAt ss x.f1).2.length ≤ 1000000000) (hrd : ∀ v, Own w0 v R → Kd.C k44 v A x.f4.length x.f4) : Calls Try.prog 15 #[.pointer (some ⟨g, 0, none⟩), .agg (actV x A c)] w fun e w' => e = .returned (.int .i64 (putE ss.length x)) ∧ Own w0 w' (Tr g (doA ss x) :: R) := by
  have H := Aside0.mk h
  have HR := Aside0.mk hrd
  have HL := Aside0.mk hl
  have HD := Lib.hid (show doA ss x = if x.f0 = 0 then tellR ss x.f1 x.f2 x.f3 x.f4 else if x.f0 = 1 then applyR ss x.f1 x.f5 x.f6 else ss from rfl)
  have HE := Lib.hid (show putE ss.length x = if x.f0 = 0 ∨ x.f0 = 1 then errR ss.length x.f1 else 0 from rfl)
  generalize doA ss x = sd at HD
  generalize putE ss.length x = pe at HE
  obtain ⟨y0, y1, y2, y3, yl, ⟨y5, y6, y7, y8, y9, y10, y11, y12⟩, y13⟩ := x
  unfold actV
  dsimp only at HD HE HR HL
  dsimp only
  clear h hrd hl
  by_cases c0 : y0 = 0
  · have HD := Lib.hid (HD.out.trans (if_pos c0))
    have HE := Lib.hid (HE.out.trans (if_pos (.inl c0)))
    subst c0
    go_enter Try.func15, Try.ntmps15
    go_wp2_with (first
      | ((with_reducible refine gate_dst (N := 3) rfl ?_); refine box_event ?hg (N := 3) ?hd (cs := #[.int .i64 0, .int .i64 y1, .int .i64 y2, .int .i64 y3, .slice A yl.length c, .int .i64 y5, .int .i64 y6, .int .i64 y7, .int .u8 y8, .string y9, .int .i64 y10, .int .i64 y11, .int .i64 y12, .int .i64 y13]) (t := 33) ?hr ?_; (case hd => rfl); (case hg => rfl); (case hr => first | (go_simp; done) | (go_simp; rfl)); intro gb hg wb hbox hbb; have HX := Aside0.mk (H.out.box hg hbox hbb); have z0 := (blk_cell HX.out.at0 0).trans rfl; have z1 := (blk_cell HX.out.at0 1).trans rfl; have z2 := (blk_cell HX.out.at0 2).trans rfl; have z3 := (blk_cell HX.out.at0 3).trans rfl; have z4 := (blk_cell HX.out.at0 4).trans rfl; have z5 := (blk_cell HX.out.at0 5).trans rfl; have z6 := (blk_cell HX.out.at0 6).trans rfl; have z7 := (blk_cell HX.out.at0 7).trans rfl; have z8 := (blk_cell HX.out.at0 8).trans rfl; have z9 := (blk_cell HX.out.at0 9).trans rfl; have z10 := (blk_cell HX.out.at0 10).trans rfl; have z11 := (blk_cell HX.out.at0 11).trans rfl; have z12 := (blk_cell HX.out.at0 12).trans rfl; have z13 := (blk_cell HX.out.at0 13).trans rfl; clear hg hbox hbb)
      | (go_at_call 13; ((with_reducible refine (TrTell HX.out.r1 y1 y2 y3 A yl.length c yl rfl HL.out.1 (fun v h => HR.out v h.tail)).mono ?_)); rintro e w1 ⟨rfl, h⟩; have H1 := Aside0.mk h.r1.tail; clear h))
    go_ret
    exact ⟨by rw [HE.out]; rfl, by rw [HD.out]; exact H1.out⟩
  · by_cases c1 : y0 = 1
    · have HD := Lib.hid (HD.out.trans ((if_neg c0).trans (if_pos c1)))
      have HE := Lib.hid (HE.out.trans (if_pos (.inr c1)))
      subst c1
      go_enter Try.func15, Try.ntmps15
      go_wp2_with (first
        | ((with_reducible refine gate_dst (N := 3) rfl ?_); refine box_event ?hg (N := 3) ?hd (cs := #[.int .i64 1, .int .i64 y1, .int .i64 y2, .int .i64 y3, .slice A yl.length c, .int .i64 y5, .int .i64 y6, .int .i64 y7, .int .u8 y8, .string y9, .int .i64 y10, .int .i64 y11, .int .i64 y12, .int .i64 y13]) (t := 33) ?hr ?_; (case hd => rfl); (case hg => rfl); (case hr => first | (go_simp; done) | (go_simp; rfl)); intro gb hg wb hbox hbb; have HX := Aside0.mk (H.out.box hg hbox hbb); have z0 := (blk_cell HX.out.at0 0).trans rfl; have z1 := (blk_cell HX.out.at0 1).trans rfl; have z2 := (blk_cell HX.out.at0 2).trans rfl; have z3 := (blk_cell HX.out.at0 3).trans rfl; have z4 := (blk_cell HX.out.at0 4).trans rfl; have z5 := (blk_cell HX.out.at0 5).trans rfl; have z6 := (blk_cell HX.out.at0 6).trans rfl; have z7 := (blk_cell HX.out.at0 7).trans rfl; have z8 := (blk_cell HX.out.at0 8).trans rfl; have z9 := (blk_cell HX.out.at0 9).trans rfl; have z10 := (blk_cell HX.out.at0 10).trans rfl; have z11 := (blk_cell HX.out.at0 11).trans rfl; have z12 := (blk_cell HX.out.at0 12).trans rfl; have z13 := (blk_cell HX.out.at0 13).trans rfl; clear hg hbox hbb)
        | (go_at_call 14; ((with_reducible refine (TrApply HX.out.r1 y1 ⟨y5, y6, y7, y8, y9, y10, y11, y12⟩ y13 HL.out.2).mono ?_)); rintro e w1 ⟨rfl, h⟩; have H1 := Aside0.mk h.r1.tail; clear h))
      go_ret
      exact ⟨by rw [HE.out]; rfl, by rw [HD.out]; exact H1.out⟩
    · have HD := Lib.hid (HD.out.trans ((if_neg c0).trans (if_neg c1)))
      have HE := Lib.hid (HE.out.trans (if_neg (fun h => h.elim c0 c1)))
      have d0 : (y0 == 0) = false := by simpa using c0
      have d1 : (y0 == 1) = false := by simpa using c1
      go_enter Try.func15, Try.ntmps15
      go_wp2_with (first
        | ((with_reducible refine gate_dst (N := 3) rfl ?_); refine box_event ?hg (N := 3) ?hd (cs := #[.int .i64 y0, .int .i64 y1, .int .i64 y2, .int .i64 y3, .slice A yl.length c, .int .i64 y5, .int .i64 y6, .int .i64 y7, .int .u8 y8, .string y9, .int .i64 y10, .int .i64 y11, .int .i64 y12, .int .i64 y13]) (t := 33) ?hr ?_; (case hd => rfl); (case hg => rfl); (case hr => first | (go_simp; done) | (go_simp; rfl)); intro gb hg wb hbox hbb; have HX := Aside0.mk (H.out.box hg hbox hbb); have z0 := (blk_cell HX.out.at0 0).trans rfl; have z1 := (blk_cell HX.out.at0 1).trans rfl; have z2 := (blk_cell HX.out.at0 2).trans rfl; have z3 := (blk_cell HX.out.at0 3).trans rfl; have z4 := (blk_cell HX.out.at0 4).trans rfl; have z5 := (blk_cell HX.out.at0 5).trans rfl; have z6 := (blk_cell HX.out.at0 6).trans rfl; have z7 := (blk_cell HX.out.at0 7).trans rfl; have z8 := (blk_cell HX.out.at0 8).trans rfl; have z9 := (blk_cell HX.out.at0 9).trans rfl; have z10 := (blk_cell HX.out.at0 10).trans rfl; have z11 := (blk_cell HX.out.at0 11).trans rfl; have z12 := (blk_cell HX.out.at0 12).trans rfl; have z13 := (blk_cell HX.out.at0 13).trans rfl; clear hg hbox hbb))
      go_ret
      exact ⟨by rw [HE.out]; rfl, by rw [HD.out]; exact HX.out.tail⟩
end
end Go.Proofs.Ytglccegihffndaa.PTracePlays
