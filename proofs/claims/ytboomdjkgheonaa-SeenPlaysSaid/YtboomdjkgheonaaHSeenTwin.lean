/- The law SeenTwin, walked. -/
import Derived.Test.YtboomdjkgheonaaSeen10
namespace Go.Proofs.Ytboomdjkgheonaa.PSeenPlays
open Go.RowKit Go.Proofs.YtboomdjkgheonaaW.PrintWords Go.Proofs.YtboomdjkgheonaaW.PrintLast Go.Proofs.YtboomdjkgheonaaW.PrintMore
open Go.Proofs.YtboomdjkgheonaaO
attribute [local go_sem] max2_int min2_int max_two min_two max_three min_three max_four min_four
set_option linter.unusedVariables false
set_option linter.unusedSimpArgs false
theorem add_zero' (p : Addr) : p.add 0 = p := by cases p; simp [Addr.add]
theorem own_entry_at {w0 w : World} {R : List Asn} {A : Option Addr} {n c : Nat} {l : List S33} {e : TypeId} (h : Own w0 w (Row k33 e (.slice A n c) l :: R)) (k : Nat) (f0 f1 f2 : Int) (hx : l[k]? = some ⟨f0, f1, f2⟩) : ∃ ad, A = some ad ∧ w.cell? (ad.add (k * 3)) = some (.int .i64 f0) ∧ w.cell? ⟨(ad.add (k * 3)).block, (ad.add (k * 3)).off + 1, none⟩ = some (.int .i64 f1) ∧ w.cell? ⟨(ad.add (k * 3)).block, (ad.add (k * 3)).off + 2, none⟩ = some (.int .i64 f2) := by
  obtain ⟨A2, c2, e2, _, hC⟩ := h.row_reads
  cases e2
  have hk : k < l.length := (List.getElem?_eq_some_iff.1 hx).1
  obtain ⟨ad, e3, _⟩ := at_T33 hC (k : Int) (by omega) (by omega)
  subst e3
  exact ⟨ad, rfl, entry_at hC (Below.refl _ _) k hk f0 f1 f2 hx⟩
theorem own_reads {w0 w : World} {R : List Asn} {A : Option Addr} {n c : Nat} {l : List S33} {e : TypeId} (h : Own w0 w (Row k33 e (.slice A n c) l :: R)) : n = l.length ∧ l.length ≤ c ∧ Kd.C k33 w A l.length l := by
  obtain ⟨A2, c2, e2, h1, hC⟩ := h.row_reads
  cases e2
  exact ⟨rfl, h1, hC⟩
theorem same_calls {w0 w : World} {R : List Asn} {L : List Asn} (h : Own w0 w L) (A1 A2 : Option Addr) (n1 n2 c1 c2 : Nat) (l : List S33) (hn1 : n1 = l.length) (hn2 : n2 = l.length) (h1 : Kd.C k33 w A1 l.length l) (h2 : Kd.C k33 w A2 l.length l) (k1 : l.length ≤ c1) (k2 : l.length ≤ c2) (hl : l.length ≤ 9223372036854775806) :
    Calls Try.prog 22 #[.slice A1 n1 c1, .slice A2 n2 c2] w fun e w' => e = .returned (.bool true) ∧ Own w0 w' L := by
  subst hn1 hn2
  exact (meterlaw11_same.calls (l.length + 1) A1 c1 l A2 c2 l true w h1 k1 h2 k2 (same_f l hl)).mono fun e w' ⟨he, hb⟩ => ⟨he, h.drawn hb⟩
theorem row_C4 {w0 w : World} {R : List Asn} {A : Option Addr} {c : Nat} {lo : Nat → Int} (h : Own w0 w (Row (Kd.int .i64) 3 (.slice A 4 c) [lo 0, lo 1, lo 2, lo 3] :: R)) : Kd.C (Kd.int .i64) w A 4 [lo 0, lo 1, lo 2, lo 3] := by
  obtain ⟨A2, c2, e2, h1, hC⟩ := h.row_reads
  cases e2
  exact hC
theorem row_c4 {w0 w : World} {R : List Asn} {A : Option Addr} {c : Nat} {lo : Nat → Int} (h : Own w0 w (Row (Kd.int .i64) 3 (.slice A 4 c) [lo 0, lo 1, lo 2, lo 3] :: R)) : 4 ≤ c := by
  obtain ⟨A2, c2, e2, h1, hC⟩ := h.row_reads
  cases e2
  exact h1
theorem lowsF_is (lo : Nat → Int) (j : Nat) (hj : j < 4) : lowsF [lo 0, lo 1, lo 2, lo 3] j = lo j := by
  rcases (show j = 0 ∨ j = 1 ∨ j = 2 ∨ j = 3 by omega) with rfl | rfl | rfl | rfl <;> rfl
def isZero (x : S33) : Bool := x.f0 == 0
theorem filter_zero {co : Nat → Int → Option Int} {Ms : Nat → List Int} : (allP co Ms 4).filter isZero = srcL 0 (co 0) (Ms 0) := by
  have h0 : ∀ (j : Int) (at' : Int → Option Int) (M : List Int), j ≠ 0 → (srcL j at' M).filter isZero = [] := fun j at' M hj => by
    rw [List.filter_eq_nil_iff]
    intro x hx
    obtain ⟨k, _, rfl⟩ := List.mem_map.1 hx
    simp [isZero, hj]
  have h1 : (srcL 0 (co 0) (Ms 0)).filter isZero = srcL 0 (co 0) (Ms 0) := by
    rw [List.filter_eq_self]
    intro x hx
    obtain ⟨k, _, rfl⟩ := List.mem_map.1 hx
    rfl
  have e : allP co Ms 4 = [] ++ srcL 0 (co 0) (Ms 0) ++ srcL 1 (co 1) (Ms 1) ++ srcL 2 (co 2) (Ms 2) ++ srcL 3 (co 3) (Ms 3) := rfl
  rw [e, List.filter_append, List.filter_append, List.filter_append, List.nil_append, h1, h0 1 _ _ (by decide), h0 2 _ _ (by decide), h0 3 _ _ (by decide)]
  simp
theorem take_filter (L : List S33) (i : Nat) (x : S33) (hx : L[i]? = some x) : (L.take (i + 1)).filter isZero = if isZero x = true then (L.take i).filter isZero ++ [x] else (L.take i).filter isZero := by
  obtain ⟨hi, rfl⟩ := List.getElem?_eq_some_iff.1 hx
  rw [List.take_succ_eq_append_getElem hi, List.filter_append, List.filter_cons]
  by_cases h : isZero L[i] = true
  · rw [if_pos h, if_pos h, List.filter_nil]
  · rw [if_neg h, if_neg h, List.filter_nil, List.append_nil]
set_option maxHeartbeats 8000000 in
set_option maxRecDepth 100000 in
theorem SeenTwin_ga (A : Option Addr) (c : Nat) (l : List S39) (B : Option Addr) (d : Nat) (m : List S39) (w : World) (hr : Kd.C k39 w A l.length l) (hc : l.length ≤ c) (hs : Kd.C k39 w B m.length m) (hd : m.length ≤ d) (hg : l.length > 300) :
    Calls Try.prog 7 #[.slice A l.length c, .slice B m.length d] w fun e w' => e = .returned (.bool true) ∧ Below w.heap.size w w' := by
  have HPRE := Aside0.mk (Own.nil w)
  have d1 : decide ((l.length : Int) > 300) = true := decide_eq_true (by omega)
  have d2 : decide (300 < (l.length : Int)) = true := decide_eq_true (by omega)
  clear hr hc hs hd hg
  go_enter Try.func7, Try.ntmps7
  go_wp2_with ((go_at_call 13; ((with_reducible refine (wakes_calls _).mono ?_)); rintro e w99 ⟨rfl, hb⟩; have HW := Aside0.mk (HPRE.out.below hb); clear hb))
  go_ret
  exact ⟨rfl, HW.out.bel⟩
set_option maxHeartbeats 8000000 in
set_option maxRecDepth 100000 in
theorem SeenTwin_gb (A : Option Addr) (c : Nat) (l : List S39) (B : Option Addr) (d : Nat) (m : List S39) (w : World) (hr : Kd.C k39 w A l.length l) (hc : l.length ≤ c) (hs : Kd.C k39 w B m.length m) (hd : m.length ≤ d) (hl : ¬ l.length > 300) (hg : m.length > 300) :
    Calls Try.prog 7 #[.slice A l.length c, .slice B m.length d] w fun e w' => e = .returned (.bool true) ∧ Below w.heap.size w w' := by
  have HPRE := Aside0.mk (Own.nil w)
  have d1 : decide ((l.length : Int) > 300) = false := decide_eq_false (by omega)
  have d2 : decide (300 < (l.length : Int)) = false := decide_eq_false (by omega)
  have d3 : decide ((m.length : Int) > 300) = true := decide_eq_true (by omega)
  have d4 : decide (300 < (m.length : Int)) = true := decide_eq_true (by omega)
  clear hr hc hs hd hg hl
  go_enter Try.func7, Try.ntmps7
  go_wp2_with ((go_at_call 13; ((with_reducible refine (wakes_calls _).mono ?_)); rintro e w99 ⟨rfl, hb⟩; have HW := Aside0.mk (HPRE.out.below hb); clear hb))
  go_ret
  exact ⟨rfl, HW.out.bel⟩
set_option maxHeartbeats 8000000 in
set_option maxRecDepth 100000 in
theorem SeenTwin_small (A : Option Addr) (c : Nat) (l : List S39) (B : Option Addr) (d : Nat) (m : List S39) (w : World) (hr : Kd.C k39 w A l.length l) (hc : l.length ≤ c) (hs : Kd.C k39 w B m.length m) (hd : m.length ≤ d) (hl : l.length ≤ 300) (hm : m.length ≤ 300) (hq1 : ∀ x ∈ l, Q39 x) (hq2 : ∀ x ∈ m, Q39 x) :
    Calls Try.prog 7 #[.slice A l.length c, .slice B m.length d] w fun e w' => e = .returned (.bool true) ∧ Below w.heap.size w w' := by
  have HR := Aside0.mk hr
  have HS := Aside0.mk hs
  have HQ1 := Aside0.mk hq1
  have HQ2 := Aside0.mk hq2
  have HN1 := Aside0.mk (show 0 + l.length ≤ 1000000000 by omega)
  have HN2 := Aside0.mk (show l.length + m.length ≤ 1000000000 by omega)
  have H0 := Aside0.mk (Own.nil w)
  have d1 : decide ((l.length : Int) > 300) = false := decide_eq_false (by omega)
  have d2 : decide (300 < (l.length : Int)) = false := decide_eq_false (by omega)
  have d3 : decide ((m.length : Int) > 300) = false := decide_eq_false (by omega)
  have d4 : decide (300 < (m.length : Int)) = false := decide_eq_false (by omega)
  have htok := tok_fold l ((fun _ => 1), (fun _ _ => none)) tok_new
  obtain ⟨lo, co, hlc⟩ : ∃ lo co, foldT ((fun _ => 1), (fun _ _ => none)) l = (lo, co) := ⟨_, _, rfl⟩
  rw [hlc] at htok
  have HF1 := Aside0.mk (show foldT ((fun _ => 1), (fun _ _ => none)) (l.filter (isOf (-1))) = (lo, co) by rw [filter_all, hlc])
  obtain ⟨lt, ct, hlt⟩ : ∃ lt ct, foldT (lo, co) m = (lt, ct) := ⟨_, _, rfl⟩
  obtain ⟨lv, cv, hlv⟩ : ∃ lv cv, foldT (lo, co) (m.filter (isOf 0)) = (lv, cv) := ⟨_, _, rfl⟩
  have HF2 := Aside0.mk (show foldT (lo, co) (m.filter (isOf (-1))) = (lt, ct) by rw [filter_all, hlt])
  have HF3 := Aside0.mk hlv
  have HZ := Aside0.mk (show ct 0 = cv 0 by
    have := (fold_zero m (lo, co) (lo, co) rfl rfl).2
    rw [hlt, hlv] at this
    exact this)
  have HTOK : Aside0 (TOk lo co) := ⟨htok⟩
  clear hr hc hs hd hq1 hq2 htok hlc hlt hlv
  go_enter Try.func7, Try.ntmps7
  go_wp2_with (first
    | (go_at_call 8; ((with_reducible refine (SeenNew H0.out).mono ?_)); rintro e w1 ⟨g, rfl, h⟩; have H1 := Aside0.mk h; clear h)
    | (go_at_call 21; ((with_reducible refine (plays_calls H1.out A c l (-1) HR.out HQ1.out HN1.out).mono ?_)); rintro e w2 ⟨rfl, h⟩; rw [HF1.out, Nat.zero_add] at h; have H2 := Aside0.mk h; clear h)
    | (go_at_call 15; ((with_reducible refine (SeenTwin H2.out).mono ?_)); rintro e w3 ⟨gt, rfl, h⟩; have H3 := Aside0.mk h; clear h)
    | (go_at_call 11; ((with_reducible refine (SeenLows H3.out.r1).mono ?_)); rintro e w4 ⟨Al, cl, rfl, h⟩; have H4 := Aside0.mk h; clear h))
  -- the codes of the table, and those of its twins
  obtain ⟨Ms, hMs, hms⟩ := seen_keys H4.out.r1
  have HMS := Aside0.mk hMs
  have HNG := Aside0.mk (show l.length ≤ 1000000000 by omega)
  have HOF := Aside0.mk (ofOk_all HTOK.out hMs)
  have HNA := Aside0.mk (show (allP co Ms 4).length < 1000000000 by omega)
  have HNB := Aside0.mk (show (allP co Ms 4).length + m.length ≤ 1000000000 by omega)
  have HNS := Aside0.mk (show (allP co Ms 4).length ≤ 9223372036854775806 by omega)
  clear hMs hms
  go_wp2_with (first
    | (go_at_call 14; ((with_reducible refine (SeenAll H4.out.r1 HNG.out Ms HMS.out).mono ?_)); rintro e w5 ⟨Aa, ca, rfl, h⟩; have H5 := Aside0.mk h; clear h)
    | (go_at_call 12; ((with_reducible refine (SeenOf_good H5.out Al 4 cl [lo 0, lo 1, lo 2, lo 3] Aa _ ca (allP co Ms 4) rfl rfl (row_C4 H5.out.r2) (row_c4 H5.out.r2) (own_reads H5.out).2.2 (own_reads H5.out).2.1 HNA.out HOF.out).mono ?_)); rintro e w6 ⟨gu, rfl, h⟩; have H6 := Aside0.mk (seen_congr (lo2 := lo) (co2 := co) h (fun j hj => lowsF_is lo j hj) (fun j hj k => ofCo_all HMS.out j hj k)); clear h; have H6 := Aside0.mk (H6.out.pick [0, 1, 2, 4]))
    | (go_at_call 21; ((with_reducible refine (plays_calls H6.out.r3 B d m (-1) HS.out HQ2.out HN2.out).mono ?_)); rintro e w7 ⟨rfl, h⟩; rw [HF2.out] at h; have H7 := Aside0.mk h; clear h)
    | (go_at_call 14; ((with_reducible refine (SeenAll H7.out.r3 HNG.out Ms HMS.out).mono ?_)); rintro e w8 ⟨Ab, cb, rfl, h⟩; have H8 := Aside0.mk h; clear h)
    | (go_at_call 22; ((with_reducible refine (same_calls (R := []) H8.out _ _ _ _ _ _ (allP co Ms 4) rfl rfl (own_reads H8.out).2.2 (own_reads H8.out.r4).2.2 (own_reads H8.out).2.1 (own_reads H8.out.r4).2.1 HNS.out).mono ?_)); rintro e w9 ⟨rfl, h⟩; have H9 := Aside0.mk (h.pick [1, 2, 3]); clear h)
    | (go_at_call 21; ((with_reducible refine (plays_calls H9.out.r2 B d m (-1) HS.out HQ2.out HNB.out).mono ?_)); rintro e w10 ⟨rfl, h⟩; rw [HF2.out] at h; have H10 := Aside0.mk h; clear h)
    | (go_at_call 15; ((with_reducible refine (SeenTwin H10.out.r1).mono ?_)); rintro e w11 ⟨gv, rfl, h⟩; have H11 := Aside0.mk h; clear h)
    | (go_at_call 21; ((with_reducible refine (plays_calls H11.out B d m 0 HS.out HQ2.out HN2.out).mono ?_)); rintro e w12 ⟨rfl, h⟩; rw [HF3.out] at h; have H12 := Aside0.mk h; clear h))
  obtain ⟨Mt, hMt, hmt⟩ := seen_keys H12.out.r3
  obtain ⟨Mv, hMv, hmv⟩ := seen_keys H12.out
  have HMT := Aside0.mk hMt
  have HMV := Aside0.mk hMv
  have e0 : Mt 0 = Mv 0 := KeysIs.uniq (hMt 0 (by decide)) (by rw [HZ.out]; exact hMv 0 (by decide))
  have heq : (allP ct Mt 4).filter isZero = (allP cv Mv 4).filter isZero := by rw [filter_zero, filter_zero, HZ.out, e0]
  obtain ⟨Lt, hLt⟩ : ∃ Lt, allP ct Mt 4 = Lt := ⟨_, rfl⟩
  obtain ⟨Lv, hLv⟩ : ∃ Lv, allP cv Mv 4 = Lv := ⟨_, rfl⟩
  rw [hLt, hLv] at heq
  rw [hLt] at hmt
  rw [hLv] at hmv
  have HEQ := Aside0.mk heq
  have HLT := Aside0.mk hLt
  have HLV := Aside0.mk hLv
  have HNT := Aside0.mk (show l.length + m.length ≤ 1000000000 by omega)
  have HNV := HNT
  have HNU := Aside0.mk (show (allP co Ms 4).length + m.length ≤ 1000000000 from HNB.out)
  have HLL := Aside0.mk (show Lt.length ≤ 9223372036854775806 by omega)
  have HLF := Aside0.mk (show (Lt.filter isZero).length ≤ 9223372036854775806 from Nat.le_trans (List.length_filter_le _ _) HLL.out)
  have H13 := Aside0.mk (H12.out.pick [3, 0, 2])
  clear hMt hMv e0 heq hLt hLv
  rename World => wo
  go_wp2
  go_loopw [12, 13] (fun v12 v13 wr => ∃ (i : Nat) (Af : Option Addr) (cf : Nat), i ≤ Lt.length ∧ v13 = .int .i64 i ∧ v12 = .slice Af ((Lt.take i).filter isZero).length cf ∧ Aside0 (Own w wr (Row k33 33 (.slice Af ((Lt.take i).filter isZero).length cf) ((Lt.take i).filter isZero) :: SeenA gt (l.length + m.length) lt ct :: SeenA gv (l.length + m.length) lv cv :: SeenA gu ((allP co Ms 4).length + m.length) lt ct :: []))) (fun _ v13 _ => Lt.length - (RowKit.intOf v13).toNat)
  case atStart => exact ⟨0, none, 0, Nat.zero_le _, rfl, rfl, ⟨H13.out.row_nil k33 33⟩⟩
  case round =>
    obtain ⟨i, Af, cf, hi, rfl, rfl, HO⟩ := hrel
    by_cases hlt : i < Lt.length
    · have hgx := List.getElem?_eq_getElem hlt
      obtain ⟨x, hx⟩ : ∃ x, Lt[i] = x := ⟨_, rfl⟩
      rw [hx] at hgx
      obtain ⟨f0, f1, f2⟩ := x
      have HGX := Aside0.mk hgx
      have htf := take_filter Lt i _ hgx
      have hfl : ((Lt.take i).filter isZero).length ≤ i := Nat.le_trans (List.length_filter_le _ _) (by rw [List.length_take]; omega)
      obtain ⟨zs, hzs⟩ : ∃ zs, zs = (Lt.take i).filter isZero := ⟨_, rfl⟩
      rw [← hzs] at htf HO hfl ⊢
      have HTF := Aside0.mk htf
      clear hgx hx htf hzs
      by_cases h0 : f0 = 0
      · have HE := Aside0.mk (HTF.out.trans (if_pos (show isZero ⟨f0, f1, f2⟩ = true by unfold isZero; simp [h0])))
        subst h0
        go_wp2_with (first
          | (go_at_call 14; ((with_reducible refine (SeenAll HO.out.r1 HNT.out Mt HMT.out).mono ?_)); rintro e w51 ⟨A1, c1, rfl, h⟩; rw [HLT.out] at h; have G1 := Aside0.mk h; clear h; rw [HLT.out])
          | (go_at_call 14; ((with_reducible refine (SeenAll G1.out.tail HNT.out Mt HMT.out).mono ?_)); rintro e w52 ⟨A2, c2, rfl, h⟩; rw [HLT.out] at h; have G2 := Aside0.mk h; rw [HLT.out]; obtain ⟨ad, rfl, y0, y1, y2⟩ := own_entry_at h i 0 f1 f2 HGX.out; clear h)
          | (go_at_call 14; ((with_reducible refine (SeenAll G2.out.tail HNT.out Mt HMT.out).mono ?_)); rintro e w53 ⟨A3, c3, rfl, h⟩; rw [HLT.out] at h; rw [HLT.out]; obtain ⟨ad3, rfl, z0, z1, z2⟩ := own_entry_at h i 0 f1 f2 HGX.out; have G3 := Aside0.mk h.tail.r1; clear h)
          | ((with_reducible refine gate_builtin (b := .append) (xs := #[.tmp 77, .tmp 83]) rfl ?_); at_builtin; refine Own.append k33 rfl (.tmp 77) (.tmp 83) 34 33 (.agg #[.int .i64 0, .int .i64 0, .int .i64 0]) 24 rfl Try.underlying34 info33 rfl (by decide) (by omega) (.slice Af zs.length cf) zs ⟨0, f1, f2⟩ [.int .i64 0, .int .i64 f1, .int .i64 f2] rfl rfl (fun _ => k33_mkM _ _ _ _) G3.out (by omega) ?_; intro A9 c9 w59 h9; have H9 := Aside0.mk h9; clear h9))
        go_roundw
        case rel => exact ⟨i + 1, A9, c9, by omega, by first | rfl | go_num, by rw [HE.out, List.length_append]; rfl, ⟨by rw [HE.out, List.length_append]; exact H9.out⟩⟩
        case measure => first | (simp [RowKit.intOf]; done) | (simp [RowKit.intOf]; omega)
      · have HE := Aside0.mk (HTF.out.trans (if_neg (show ¬ isZero ⟨f0, f1, f2⟩ = true by unfold isZero; simp [h0])))
        have d0 : (f0 == 0) = false := beq_eq_false_iff_ne.2 h0
        go_wp2_with (first
          | (go_at_call 14; ((with_reducible refine (SeenAll HO.out.r1 HNT.out Mt HMT.out).mono ?_)); rintro e w51 ⟨A1, c1, rfl, h⟩; rw [HLT.out] at h; have G1 := Aside0.mk h; clear h; rw [HLT.out])
          | (go_at_call 14; ((with_reducible refine (SeenAll G1.out.tail HNT.out Mt HMT.out).mono ?_)); rintro e w52 ⟨A2, c2, rfl, h⟩; rw [HLT.out] at h; have G2 := Aside0.mk h; rw [HLT.out]; obtain ⟨ad, rfl, y0, y1, y2⟩ := own_entry_at h i f0 f1 f2 HGX.out; clear h))
        go_roundw
        case rel => exact ⟨i + 1, Af, cf, by omega, by first | rfl | go_num, by rw [HE.out], ⟨by rw [HE.out]; exact (G2.out.tail).r1⟩⟩
        case measure => first | (simp [RowKit.intOf]; done) | (simp [RowKit.intOf]; omega)
    · obtain rfl : i = Lt.length := by omega
      go_wp2_with ((go_at_call 14; ((with_reducible refine (SeenAll HO.out.r1 HNT.out Mt HMT.out).mono ?_)); rintro e w51 ⟨A1, c1, rfl, h⟩; rw [HLT.out] at h; have G1 := Aside0.mk h; clear h; rw [HLT.out]))
      have HX : Aside0 (Own w w51 (Row k33 33 (.slice Af (Lt.filter isZero).length cf) (Lt.filter isZero) :: SeenA gt (l.length + m.length) lt ct :: SeenA gv (l.length + m.length) lv cv :: SeenA gu ((allP co Ms 4).length + m.length) lt ct :: [])) := ⟨by have := G1.out.tail.r1; rwa [List.take_length] at this⟩
      try rw [List.take_length]
      rename World => wo2
      go_loopw [14, 15] (fun v14 v15 wr => ∃ (i : Nat) (Ag : Option Addr) (cg : Nat), i ≤ Lv.length ∧ v15 = .int .i64 i ∧ v14 = .slice Ag ((Lv.take i).filter isZero).length cg ∧ Aside0 (Own w wr (Row k33 33 (.slice Ag ((Lv.take i).filter isZero).length cg) ((Lv.take i).filter isZero) :: SeenA gv (l.length + m.length) lv cv :: Row k33 33 (.slice Af (Lt.filter isZero).length cf) (Lt.filter isZero) :: SeenA gt (l.length + m.length) lt ct :: SeenA gu ((allP co Ms 4).length + m.length) lt ct :: []))) (fun _ v15 _ => Lv.length - (RowKit.intOf v15).toNat)
      case atStart => exact ⟨0, none, 0, Nat.zero_le _, rfl, rfl, ⟨HX.out.r2.row_nil k33 33⟩⟩
      case round =>
        obtain ⟨i, Ag, cg, hi, rfl, rfl, HO⟩ := hrel
        by_cases hlt : i < Lv.length
        · have hgx := List.getElem?_eq_getElem hlt
          obtain ⟨x, hx⟩ : ∃ x, Lv[i] = x := ⟨_, rfl⟩
          rw [hx] at hgx
          obtain ⟨f0, f1, f2⟩ := x
          have HGX := Aside0.mk hgx
          have htf := take_filter Lv i _ hgx
          have hfl : ((Lv.take i).filter isZero).length ≤ i := Nat.le_trans (List.length_filter_le _ _) (by rw [List.length_take]; omega)
          obtain ⟨zs, hzs⟩ : ∃ zs, zs = (Lv.take i).filter isZero := ⟨_, rfl⟩
          rw [← hzs] at htf HO hfl ⊢
          have HTF := Aside0.mk htf
          clear hgx hx htf hzs
          by_cases h0 : f0 = 0
          · have HE := Aside0.mk (HTF.out.trans (if_pos (show isZero ⟨f0, f1, f2⟩ = true by unfold isZero; simp [h0])))
            subst h0
            go_wp2_with (first
              | (go_at_call 14; ((with_reducible refine (SeenAll HO.out.r1 HNV.out Mv HMV.out).mono ?_)); rintro e w51 ⟨A1, c1, rfl, h⟩; rw [HLV.out] at h; have G1 := Aside0.mk h; clear h; rw [HLV.out])
              | (go_at_call 14; ((with_reducible refine (SeenAll G1.out.tail HNV.out Mv HMV.out).mono ?_)); rintro e w52 ⟨A2, c2, rfl, h⟩; rw [HLV.out] at h; have G2 := Aside0.mk h; rw [HLV.out]; obtain ⟨ad, rfl, y0, y1, y2⟩ := own_entry_at h i 0 f1 f2 HGX.out; clear h)
              | (go_at_call 14; ((with_reducible refine (SeenAll G2.out.tail HNV.out Mv HMV.out).mono ?_)); rintro e w53 ⟨A3, c3, rfl, h⟩; rw [HLV.out] at h; rw [HLV.out]; obtain ⟨ad3, rfl, z0, z1, z2⟩ := own_entry_at h i 0 f1 f2 HGX.out; have G3 := Aside0.mk h.tail.r1; clear h)
              | ((with_reducible refine gate_builtin (b := .append) (xs := #[.tmp 99, .tmp 105]) rfl ?_); at_builtin; refine Own.append k33 rfl (.tmp 99) (.tmp 105) 34 33 (.agg #[.int .i64 0, .int .i64 0, .int .i64 0]) 24 rfl Try.underlying34 info33 rfl (by decide) (by omega) (.slice Ag zs.length cg) zs ⟨0, f1, f2⟩ [.int .i64 0, .int .i64 f1, .int .i64 f2] rfl rfl (fun _ => k33_mkM _ _ _ _) G3.out (by omega) ?_; intro A9 c9 w59 h9; have H9 := Aside0.mk h9; clear h9))
            go_roundw
            case rel => exact ⟨i + 1, A9, c9, by omega, by first | rfl | go_num, by rw [HE.out, List.length_append]; rfl, ⟨by rw [HE.out, List.length_append]; exact H9.out⟩⟩
            case measure => first | (simp [RowKit.intOf]; done) | (simp [RowKit.intOf]; omega)
          · have HE := Aside0.mk (HTF.out.trans (if_neg (show ¬ isZero ⟨f0, f1, f2⟩ = true by unfold isZero; simp [h0])))
            have d0 : (f0 == 0) = false := beq_eq_false_iff_ne.2 h0
            go_wp2_with (first
              | (go_at_call 14; ((with_reducible refine (SeenAll HO.out.r1 HNV.out Mv HMV.out).mono ?_)); rintro e w51 ⟨A1, c1, rfl, h⟩; rw [HLV.out] at h; have G1 := Aside0.mk h; clear h; rw [HLV.out])
              | (go_at_call 14; ((with_reducible refine (SeenAll G1.out.tail HNV.out Mv HMV.out).mono ?_)); rintro e w52 ⟨A2, c2, rfl, h⟩; rw [HLV.out] at h; have G2 := Aside0.mk h; rw [HLV.out]; obtain ⟨ad, rfl, y0, y1, y2⟩ := own_entry_at h i f0 f1 f2 HGX.out; clear h))
            go_roundw
            case rel => exact ⟨i + 1, Ag, cg, by omega, by first | rfl | go_num, by rw [HE.out], ⟨by rw [HE.out]; exact (G2.out.tail).r1⟩⟩
            case measure => first | (simp [RowKit.intOf]; done) | (simp [RowKit.intOf]; omega)
        · obtain rfl : i = Lv.length := by omega
          go_wp2_with ((go_at_call 14; ((with_reducible refine (SeenAll HO.out.r1 HNV.out Mv HMV.out).mono ?_)); rintro e w51 ⟨A1, c1, rfl, h⟩; rw [HLV.out] at h; have G1 := Aside0.mk h; clear h; rw [HLV.out]))
          have HX : Aside0 (Own w w51 (Row k33 33 (.slice Ag (Lv.filter isZero).length cg) (Lv.filter isZero) :: SeenA gv (l.length + m.length) lv cv :: Row k33 33 (.slice Af (Lt.filter isZero).length cf) (Lt.filter isZero) :: SeenA gt (l.length + m.length) lt ct :: SeenA gu ((allP co Ms 4).length + m.length) lt ct :: [])) := ⟨by have := G1.out.tail.r1; rwa [List.take_length] at this⟩
          try rw [List.take_length]
          go_wp2_with (first
            | (go_at_call 14; ((with_reducible refine (SeenAll HX.out.r3 HNT.out Mt HMT.out).mono ?_)); rintro e w61 ⟨A1, c1, rfl, h⟩; rw [HLT.out] at h; rw [HLT.out]; have X1 := Aside0.mk h; clear h)
            | (go_at_call 14; ((with_reducible refine (SeenAll X1.out.r5 HNU.out Mt HMT.out).mono ?_)); rintro e w62 ⟨A2, c2, rfl, h⟩; rw [HLT.out] at h; rw [HLT.out]; have X2 := Aside0.mk h; clear h)
            | (go_at_call 22; ((with_reducible refine (same_calls (R := []) X2.out _ _ _ _ _ _ Lt rfl rfl (own_reads X2.out.r2).2.2 (own_reads X2.out).2.2 (own_reads X2.out.r2).2.1 (own_reads X2.out).2.1 HLL.out).mono ?_)); rintro e w63 ⟨rfl, h⟩; have X3 := Aside0.mk h; clear h)
            | (go_at_call 22; ((with_reducible refine (same_calls (R := []) X3.out _ _ _ _ _ _ (Lt.filter isZero) rfl (congrArg List.length HEQ.out.symm) (own_reads X3.out.r6).2.2 (by have h9 := (own_reads X3.out.r4); rw [← HEQ.out] at h9; exact h9.2.2) (own_reads X3.out.r6).2.1 (by have h9 := (own_reads X3.out.r4); rw [← HEQ.out] at h9; exact h9.2.1) HLF.out).mono ?_)); rintro e w64 ⟨rfl, h⟩; have HPRE := Aside0.mk h; clear h)
            | (go_at_call 13; ((with_reducible refine (wakes_calls _).mono ?_)); rintro e w99 ⟨rfl, hb⟩; have HW := Aside0.mk (HPRE.out.below hb); clear hb))
          go_ret
          exact ⟨rfl, HW.out.bel⟩
theorem SeenTwin_law (A : Option Addr) (c : Nat) (l : List S39) (B : Option Addr) (d : Nat) (m : List S39) (w : World) (hr : Kd.C k39 w A l.length l) (hc : l.length ≤ c) (hq1 : l.length ≤ 9223372036854775807 ∧ ∀ x ∈ l, Q39 x) (hs : Kd.C k39 w B m.length m) (hd : m.length ≤ d) (hq2 : m.length ≤ 9223372036854775807 ∧ ∀ x ∈ m, Q39 x) :
    Calls Try.prog 7 #[.slice A l.length c, .slice B m.length d] w fun e w' => e = .returned (.bool true) ∧ Below w.heap.size w w' := by
  by_cases h1 : l.length > 300
  · exact SeenTwin_ga A c l B d m w hr hc hs hd h1
  · by_cases h2 : m.length > 300
    · exact SeenTwin_gb A c l B d m w hr hc hs hd h1 h2
    · exact SeenTwin_small A c l B d m w hr hc hs hd (by omega) (by omega) hq1.2 hq2.2
end Go.Proofs.Ytboomdjkgheonaa.PSeenPlays
