-- Written by a program of this session's (wip/gprint.py): the kit's print, with functions given by hand.
import Derived.Test.YtojedfmmijglnaaPSpreadTellsx0
import Derived.Test.YtojedfmmijglnaaPSpreadTellsx1
namespace Go.Proofs.Ytojedfmmijglnaa.PSpreadTells
open Go.RowKit Go.Proofs.YtojedfmmijglnaaW.PrintWords Go.Proofs.YtojedfmmijglnaaW.PrintLast Go.Proofs.YtojedfmmijglnaaW.PrintMore
attribute [local go_sem] max2_int min2_int max_two min_two max_three min_three max_four min_four   -- for this text's walks alone
set_option linter.unusedVariables false
set_option linter.unusedSimpArgs false

/-! ### spread_Patch: function 16 -/
/-- What changes lead to: those that were asked so far, the owners so far. -/
def patchL (n : Int) : List S39 → List Int → List Int → List Int × Int
  | [], _, o => (o, 0)
  | c :: r, seen, o => if c.f0 < 0 ∨ c.f0 ≥ (o.length : Int) then ([], 21) else if c.f1 < 0 ∨ c.f1 ≥ n then ([], 22) else if seen.contains c.f0 = true then ([], 5) else patchL n r (seen ++ [c.f0]) (o.set c.f0.toNat c.f1)
def patchC (e n : Int) (l : List Int) (e2 : Int) (cs : List S39) : Int × Int × List Int × Int :=
  if rightB e n l = false ∨ e2 ≤ e ∨ e2 > 2147483647 then (0, 0, [], 1) else if (patchL n cs [] l).2 = 0 then (e2, n, (patchL n cs [] l).1, 0) else (0, 0, [], (patchL n cs [] l).2)
theorem plaw3 : Maps.Keyed Try.prog 3 := Maps.int_keyed Try.underlying3
theorem pzero61 (w : World) : (zeroValue 61).run Try.prog w = .ok (.agg #[]) w := by kernel_rfl
def setD (xs : List Int) : DataW Unit := Maps.setOf (.agg []) (xs.map (Lit.int .i64))
theorem setD_snoc (xs : List Int) (x : Int) : setD (xs ++ [x]) = (setD xs).put (.int .i64 x) (.agg []) := by unfold setD; rw [List.map_append, List.map_cons, List.map_nil, Maps.setOf_snoc]
theorem setD_has (xs : List Int) (x : Int) : Maps.has (setD xs) (.int .i64 x) = xs.contains x := by
 unfold setD
 rw [Maps.has_setOf _ _ _ (fun y hy => by
  obtain ⟨z, _, rfl⟩ := List.mem_map.1 hy
  trivial)]
 induction xs with
 | nil => rfl
 | cons y xs ih =>
  rw [List.map_cons, List.any_cons, ih, List.contains_cons]
  congr 1
  show decide (IntKind.i64 = IntKind.i64 ∧ y = x) = (x == y)
  by_cases h : y = x
  · simp [h]
  have : ¬ x = y := fun e => h e.symm
  simp [h, this]
structure PInv (w wr : World) (gT gR go gm : Nat) (e2 n : Int) (L co k : Nat) (seen O : List Int) : Prop where
  bt : wr.heap[gT]? = some (.cells #[.int .i64 e2, .int .i64 n, .slice (some ⟨go, 0, none⟩) L co] 24 (0, 0))
  br : wr.heap[gR]? = some (.cells #[.int .i64 0, .int .i64 0, .slice none 0 0] 24 (0, 0))
  row : ∃ cur, wr.heap[go]? = some (.cells cur 3 (0, 0)) ∧ cur.toList.take L = O.map (.int .i64) ∧ L ≤ co ∧ co ≤ maxLen ∧ cur.size = co
  mp : wr.ownsMap Try.prog 3 (unitElem (H := Unit)) gm k (setD seen)
  bel : Below w.heap.size w wr
  len : O.length = L
theorem copy_eq (e n : Int) (l : List Int) (h : l.length ≤ 1000000) : table_Copy.f e n l = some (e, n, l) := by
 unfold table_Copy.f slices_Clone_int_int.f
 rw [if_pos (show l.length * 8 ≤ 140737488355328 by omega)]
 rfl
theorem rowI_open {w : World} {base : Nat} {ok : Nat → Prop} {v : Value} {xs : List Int} (h : Kd.R (Kd.int .i64) 3 w base ok v xs) (hx : 0 < xs.length) :
    ∃ go co cur, v = .slice (some ⟨go, 0, none⟩) xs.length co ∧ base ≤ go ∧ w.heap[go]? = some (.cells cur 3 (0, 0)) ∧ cur.toList.take xs.length = xs.map (.int .i64) ∧ xs.length ≤ co ∧ co ≤ maxLen ∧ cur.size = co := by
 obtain ⟨_, inner, ho, hr⟩ := h
 have hi : inner = xs.map (.int .i64) := by
  obtain ⟨hl, hr⟩ := hr
  have hl' : inner.length = xs.length * 1 := hl
  apply List.ext_getElem?
  intro j
  by_cases hj : j < xs.length
  · have e1 := hr j _ (List.getElem?_eq_getElem hj)
    have e2 : (inner.drop (j * 1)).take 1 = [.int .i64 xs[j]] := e1
    rw [Nat.mul_one, List.drop_eq_getElem_cons (by omega), List.take_succ_cons, List.take_zero] at e2
    rw [List.getElem?_map, List.getElem?_eq_getElem hj, List.getElem?_eq_getElem (by omega), (List.cons.inj e2).1]
    rfl
  rw [List.getElem?_eq_none (by omega), List.getElem?_eq_none (by rw [List.length_map]; omega)]
 obtain ⟨_, h2⟩ := ho
 rcases h2 with ⟨_, h0⟩ | ⟨g, cap, cur, rfl, h3, h4, h5, h6, h7, h8⟩
 · omega
 have e1 : (Kd.int .i64).sz = 1 := rfl
 rw [e1, Nat.mul_one] at h7 h8
 exact ⟨g, cap, cur, rfl, h3, h4, h8.trans hi, h5, h6, h7⟩
theorem rowI_close {w : World} {base : Nat} {xs : List Int} {go co : Nat} {cur : Array Value} (hb : base ≤ go) (hh : w.heap[go]? = some (.cells cur 3 (0, 0))) (ht : cur.toList.take xs.length = xs.map (.int .i64)) (h1 : xs.length ≤ co) (h2 : co ≤ maxLen) (h3 : cur.size = co) :
    Kd.R (Kd.int .i64) 3 w base (fun _ => True) (.slice (some ⟨go, 0, none⟩) xs.length co) xs := by
 refine ⟨fun _ _ => trivial, xs.map (.int .i64), ⟨by show _ = xs.length * 1; simp, .inr ⟨go, co, cur, rfl, hb, hh, h1, h2, ?_, ?_⟩⟩, Kd.reps_scalar xs⟩
 · show cur.size = co * 1
   omega
 show cur.toList.take (xs.length * 1) = _
 rw [Nat.mul_one, ht]
theorem own_below {w w' : World} {b k : Nat} {D : DataW Unit} {R : Value → Option (DataW Unit × List MemPlace)} (h : w.ownsMap Try.prog 3 R b k D) (hb : Below w.heap.size w w') : w'.ownsMap Try.prog 3 R b k D := by
 have hl := h.lt
 obtain ⟨es, clock, hb2, r⟩ := h
 exact ⟨es, clock, (hb.block b hl).trans hb2, r⟩
set_option maxHeartbeats 4000000 in
set_option maxRecDepth 100000 in
theorem patch_right (e n : Int) (A : Option Addr) (c : Nat) (l : List Int) (e2 : Int) (A2 : Option Addr) (c2 : Nat) (cs : List S39) (w : World) (hr : Kd.C (Kd.int .i64) w A l.length l) (hc : l.length ≤ c) (hr2 : Kd.C k39 w A2 cs.length cs) (hc2 : cs.length ≤ c2)
    (hwf : ∀ x ∈ cs, (Lit.int .i64 x.f0).wf = true) (hb : cs.length ≤ 100000) (hl : l.length ≤ 100000) (h1 : rightB e n l = true) (h2 : e < e2) (h3 : e2 ≤ 2147483647) (r1 r2 : Int) (r3 : List Int) (r4 : Int) (hres : (if (patchL n cs [] l).2 = 0 then (e2, n, (patchL n cs [] l).1, 0) else (0, 0, [], (patchL n cs [] l).2)) = (r1, r2, r3, r4)) :
    Calls Try.prog 16 #[.agg #[.int .i64 e, .int .i64 n, .slice A l.length c], .int .i64 e2, .slice A2 cs.length c2] w fun e' w' => ∃ v2_ : Value, e' = .returned (.tuple #[.agg #[.int .i64 r1, .int .i64 r2, v2_], .int .i64 r4]) ∧ Kd.R (Kd.int .i64) 3 w' w.heap.size (fun _ => True) v2_ r3 ∧ Below w.heap.size w w' := by
 have HR := qM hr
 have HC := qM hc
 have HR2 := qM hr2
 have HC2 := qM hc2
 have HF := Lib.hid hwf
 have H1 := Lib.hid h1
 have HRES := Lib.hid hres
 clear hres
 have hl1 : 0 < l.length := by
  unfold rightB at h1
  simp only [Bool.and_eq_true, decide_eq_true_eq] at h1
  omega
 clear hr hc hr2 hc2 hwf h1
 have hmm := @run_makeMap Try.prog
 have g1 : decide (e2 ≤ e) = false := decide_eq_false (by omega)
 have g2 : decide (e2 > 2147483647) = false := decide_eq_false (by omega)
 go_enter Try.func16, Try.ntmps16
 go_wp2_with (first
  | (go_at_call 12; refine (table_Right.calls e n A c l true _ (Kd.C_below HR.out (by repeat (first | apply below_alloc | exact Below.refl _ _))) HC.out (by rw [← H1.out]; rfl)).mono ?_; rintro e1 w1 ⟨rfl, hb1⟩; have bT1 : w1.heap[w.heap.size]? = some (.cells #[.int .i64 e, .int .i64 n, .slice A l.length c] 24 (0, 0)) := blk_below (blk_alloc (blk_new w _) _) hb1; have bR1 : w1.heap[w.heap.size + 1]? = some (.cells #[.int .i64 0, .int .i64 0, .slice none 0 0] 24 (0, 0)) := blk_below (by simpa using blk_new (w.alloc _) (.cells #[.int .i64 0, .int .i64 0, .slice none 0 0] 24)) hb1; have BT1 := qM bT1; have BR1 := qM bR1; clear bT1 bR1; have z0 := (blk_cell BT1.out 0).trans rfl; have z1 := (blk_cell BT1.out 1).trans rfl; have z2 := (blk_cell BT1.out 2).trans rfl)
  | (go_at_call 26; refine (table_Copy.calls e n A c l e n l _ (Kd.C_below HR.out (below_step (by repeat (first | apply below_alloc | exact Below.refl _ _)) hb1)) HC.out (copy_eq e n l (by omega))).mono ?_; rintro e3 w2 ⟨v2, rfl, hv2, hb2⟩; obtain ⟨go, co, cur, rfl, hgo, hrow, htk, hlc, hcm, hcs⟩ := rowI_open hv2 hl1; clear hv2; have BT2 := qM (blk_below BT1.out hb2); have BR2 := qM (blk_below BR1.out hb2); have HROW := qM hrow; have HTK := qM htk; have HB2 := qM (below_step (below_step (by repeat (first | apply below_alloc | exact Below.refl _ _)) hb1) hb2); clear hrow htk z0 z1 z2; have z0 := (blk_cell BT2.out 0).trans rfl; have z1 := (blk_cell BT2.out 1).trans rfl; have z2 := (blk_cell BT2.out 2).trans rfl; have f0 := blk_frozen BT2.out 0; have f1 := blk_frozen BT2.out 1; have f2 := blk_frozen BT2.out 2))
 have hsz1 : w.heap.size + 2 ≤ w1.heap.size := by have := hb1.size; simp at this; omega
 have hsz2 := hb2.size
 go_loopw [34] (fun v34 wr => ∃ (k : Nat) (O : List Int), k ≤ cs.length ∧ v34 = .int .i64 k ∧ PInv w wr w.heap.size (w.heap.size + 1) go w2.heap.size e2 n l.length co k ((cs.take k).map (·.f0)) O ∧ patchL n cs [] l = patchL n (cs.drop k) ((cs.take k).map (·.f0)) O)
  (fun v34 _ => cs.length - (intOf v34).toNat)
 case atStart =>
  refine ⟨0, l, Nat.zero_le _, rfl, ?_, rfl⟩
  refine ⟨?_, ?_, ⟨cur, ?_, HTK.out, hlc, hcm, hcs⟩, ?_, ?_, rfl⟩
  · exact blk_alloc (blk_put (blk_put (blk_put (blk_put BT2.out 0 _ rfl) 1 _ rfl) 2 _ rfl) 0 _ rfl) _
  · exact blk_alloc (blk_far (blk_far (blk_far (blk_far BR2.out (by simp) _) (by simp) _) (by simp) _) (by simp) _) _
  · exact blk_alloc (blk_far (blk_far (blk_far (blk_far HROW.out (by first | omega | (simp; omega)) _) (by first | omega | (simp; omega)) _) (by first | omega | (simp; omega)) _) (by first | omega | (simp; omega)) _) _
  · rw [show setD ((cs.take 0).map (·.f0)) = .map [] from rfl]
    have := World.ownsMap_made (H := Unit) ((((w2.setCell ⟨w.heap.size, 0, none⟩ (.int .i64 e)).setCell ⟨w.heap.size, 1, none⟩ (.int .i64 n)).setCell ⟨w.heap.size, 2, none⟩ (.slice (some ⟨go, 0, none⟩) l.length co)).setCell ⟨w.heap.size, 0, none⟩ (.int .i64 e2)) Try.prog 3 unitElem
    rw [show ((((w2.setCell ⟨w.heap.size, 0, none⟩ (.int .i64 e)).setCell ⟨w.heap.size, 1, none⟩ (.int .i64 n)).setCell ⟨w.heap.size, 2, none⟩ (.slice (some ⟨go, 0, none⟩) l.length co)).setCell ⟨w.heap.size, 0, none⟩ (.int .i64 e2)).heap.size = w2.heap.size by simp] at this
    exact this
  exact below_alloc (below_set (below_set (below_set (below_set HB2.out (Nat.le_refl _)) (Nat.le_refl _)) (Nat.le_refl _)) (Nat.le_refl _)) _
 case round =>
  obtain ⟨k, O, hk, rfl, hI, hP⟩ := hrel
  have HI := qM hI
  have HP := Lib.hid hP
  clear hI hP
  by_cases hlt : k < cs.length
  · obtain ⟨ad, hA, hx0, hx1⟩ := at_T39 (Kd.C_below HR2.out HI.out.bel) (k : Int) (by omega) (by omega)
    subst hA
    rw [Int.toNat_natCast] at hx0 hx1
    obtain ⟨x, hx⟩ : ∃ x, x = rd_T39 cs k := ⟨_, rfl⟩
    rw [← hx] at hx0 hx1
    have hxm : x ∈ cs := by
     rw [hx]
     unfold rd_T39
     rw [Int.toNat_natCast, List.getD_eq_getElem?_getD, List.getElem?_eq_getElem hlt]
     exact List.getElem_mem hlt
    have hkey : keyOf Try.prog 3 (.int .i64 x.f0) = some (.int .i64 x.f0) := Maps.keyOf_int_mk Try.underlying3 (HF.out x hxm)
    have HX := Lib.hid hx
    clear hx
    have hg0 : w.heap.size < wr.heap.size := blk_lt HI.out.bt
    have hg1 : w.heap.size + 1 < wr.heap.size := blk_lt HI.out.br
    have hdr : cs.drop k = x :: cs.drop (k + 1) := by
     rw [List.drop_eq_getElem_cons hlt, HX.out]
     unfold rd_T39
     rw [Int.toNat_natCast, List.getD_eq_getElem?_getD, List.getElem?_eq_getElem hlt]
     rfl
    have hOl := HI.out.len
    have HDR := Lib.hid hdr
    have HOL := Lib.hid hOl
    clear hdr hOl
    cases hcon : ((cs.take k).map (·.f0)).contains x.f0 with
    | true =>
     have HCON := Lib.hid hcon
     clear hcon
     by_cases q1 : x.f0 < 0
     · have d1 : decide (x.f0 < 0) = true := decide_eq_true q1
       have hv0 : patchL n cs [] l = ([], 21) := by
        rw [HP.out, HDR.out, patchL]
        rw [if_pos (.inl q1)]
       have hv := Lib.hid hv0
       clear hv0
       go_wp2_with (first | (at_lookup; refine wpList_lookup_own_unit _ rfl _ _ 60 rfl 3 61 plaw3 Try.underlying60 (pzero61 _) w2.heap.size k _ rfl (own_below HI.out.mp (by repeat (first | apply below_alloc | exact Below.refl _ _))) _ _ rfl hkey ?_; rw [setD_has, HCON.out]) | ((with_reducible refine gate_dst (N := 11) rfl ?_); refine box_event ?hg (N := 11) ?hd (cs := #[]) (t := 61) ?hr ?_; (case hd => rfl); (case hg => rfl); (case hr => first | (go_simp; done) | (go_simp; rfl)); intro gb hgb w11 hbox hb11; have B11 := qM (below_step (below_alloc (Below.refl _ _) _) hb11); have C11 := qM (blk_below (blk_new wr _) hb11); clear hbox hb11; have rc0 := (blk_cell (blk_below HI.out.br B11.out) 0).trans rfl; have rc1 := (blk_cell (blk_below HI.out.br B11.out) 1).trans rfl; have rc2 := (blk_cell (blk_below HI.out.br B11.out) 2).trans rfl; have s0 := blk_frozen (blk_below HI.out.br B11.out) 0; have s1 := blk_frozen (blk_below HI.out.br B11.out) 1; have s2 := blk_frozen (blk_below HI.out.br B11.out) 2; have y0 := (blk_cell (blk_below HI.out.bt B11.out) 0).trans rfl; have y1 := (blk_cell (blk_below HI.out.bt B11.out) 1).trans rfl; have y2 := (blk_cell (blk_below HI.out.bt B11.out) 2).trans rfl; have v0 := (blk_cell C11.out 0).trans rfl; have v1 := (blk_cell C11.out 1).trans rfl) | go_in)
       refine bodyPost_ret (results_ct rfl _ _ (w.heap.size + 1) 24 #[.int .i64 0, .int .i64 0, .slice none 0 0] (0, 0) _ rfl (blk_put (blk_put (blk_put (blk_below HI.out.br B11.out) 0 _ rfl) 1 _ rfl) 2 _ rfl) Try.underlying24 rfl (by kernel_rfl)) rfl ?_
       have hz : ((0 : Int), (0 : Int), ([] : List Int), (21 : Int)) = (r1, r2, r3, r4) := by
        have h := HRES.out
        rw [hv.out] at h
        simpa using h
       simp only [Prod.mk.injEq] at hz
       obtain ⟨rfl, rfl, rfl, rfl⟩ := hz
       exact ⟨.slice none 0 0, (show _ = Ending.returned (.tuple #[.agg #[.int .i64 0, .int .i64 0, .slice none 0 0], .int .i64 21]) from rfl), Kd.R_nil _ _ _ _ _, below_set (below_set (below_set (below_step HI.out.bel B11.out) (Nat.le_succ _)) (Nat.le_succ _)) (Nat.le_succ _)⟩
     by_cases q2 : x.f0 ≥ (l.length : Int)
     · have d1 : decide (x.f0 < 0) = false := decide_eq_false q1
       have d2 : decide (x.f0 ≥ (l.length : Int)) = true := decide_eq_true q2
       have hv0 : patchL n cs [] l = ([], 21) := by
        rw [HP.out, HDR.out, patchL]
        rw [if_pos (.inr (by rw [HOL.out]; exact q2))]
       have hv := Lib.hid hv0
       clear hv0
       go_wp2_with (first | (at_lookup; refine wpList_lookup_own_unit _ rfl _ _ 60 rfl 3 61 plaw3 Try.underlying60 (pzero61 _) w2.heap.size k _ rfl (own_below HI.out.mp (by repeat (first | apply below_alloc | exact Below.refl _ _))) _ _ rfl hkey ?_; rw [setD_has, HCON.out]) | ((with_reducible refine gate_dst (N := 11) rfl ?_); refine box_event ?hg (N := 11) ?hd (cs := #[]) (t := 61) ?hr ?_; (case hd => rfl); (case hg => rfl); (case hr => first | (go_simp; done) | (go_simp; rfl)); intro gb hgb w11 hbox hb11; have B11 := qM (below_step (below_alloc (Below.refl _ _) _) hb11); have C11 := qM (blk_below (blk_new wr _) hb11); clear hbox hb11; have rc0 := (blk_cell (blk_below HI.out.br B11.out) 0).trans rfl; have rc1 := (blk_cell (blk_below HI.out.br B11.out) 1).trans rfl; have rc2 := (blk_cell (blk_below HI.out.br B11.out) 2).trans rfl; have s0 := blk_frozen (blk_below HI.out.br B11.out) 0; have s1 := blk_frozen (blk_below HI.out.br B11.out) 1; have s2 := blk_frozen (blk_below HI.out.br B11.out) 2; have y0 := (blk_cell (blk_below HI.out.bt B11.out) 0).trans rfl; have y1 := (blk_cell (blk_below HI.out.bt B11.out) 1).trans rfl; have y2 := (blk_cell (blk_below HI.out.bt B11.out) 2).trans rfl; have v0 := (blk_cell C11.out 0).trans rfl; have v1 := (blk_cell C11.out 1).trans rfl) | go_in)
       refine bodyPost_ret (results_ct rfl _ _ (w.heap.size + 1) 24 #[.int .i64 0, .int .i64 0, .slice none 0 0] (0, 0) _ rfl (blk_put (blk_put (blk_put (blk_below HI.out.br B11.out) 0 _ rfl) 1 _ rfl) 2 _ rfl) Try.underlying24 rfl (by kernel_rfl)) rfl ?_
       have hz : ((0 : Int), (0 : Int), ([] : List Int), (21 : Int)) = (r1, r2, r3, r4) := by
        have h := HRES.out
        rw [hv.out] at h
        simpa using h
       simp only [Prod.mk.injEq] at hz
       obtain ⟨rfl, rfl, rfl, rfl⟩ := hz
       exact ⟨.slice none 0 0, (show _ = Ending.returned (.tuple #[.agg #[.int .i64 0, .int .i64 0, .slice none 0 0], .int .i64 21]) from rfl), Kd.R_nil _ _ _ _ _, below_set (below_set (below_set (below_step HI.out.bel B11.out) (Nat.le_succ _)) (Nat.le_succ _)) (Nat.le_succ _)⟩
     have d1 : decide (x.f0 < 0) = false := decide_eq_false q1
     have d2 : decide (x.f0 ≥ (l.length : Int)) = false := decide_eq_false q2
     have q12 : ¬ (x.f0 < 0 ∨ x.f0 ≥ (O.length : Int)) := by rw [HOL.out]; omega
     by_cases q3 : x.f1 < 0
     · have d3 : decide (x.f1 < 0) = true := decide_eq_true q3
       have hv0 : patchL n cs [] l = ([], 22) := by
        rw [HP.out, HDR.out, patchL]
        rw [if_neg q12, if_pos (.inl q3)]
       have hv := Lib.hid hv0
       clear hv0
       go_wp2_with (first | (at_lookup; refine wpList_lookup_own_unit _ rfl _ _ 60 rfl 3 61 plaw3 Try.underlying60 (pzero61 _) w2.heap.size k _ rfl (own_below HI.out.mp (by repeat (first | apply below_alloc | exact Below.refl _ _))) _ _ rfl hkey ?_; rw [setD_has, HCON.out]) | ((with_reducible refine gate_dst (N := 11) rfl ?_); refine box_event ?hg (N := 11) ?hd (cs := #[]) (t := 61) ?hr ?_; (case hd => rfl); (case hg => rfl); (case hr => first | (go_simp; done) | (go_simp; rfl)); intro gb hgb w11 hbox hb11; have B11 := qM (below_step (below_alloc (Below.refl _ _) _) hb11); have C11 := qM (blk_below (blk_new wr _) hb11); clear hbox hb11; have rc0 := (blk_cell (blk_below HI.out.br B11.out) 0).trans rfl; have rc1 := (blk_cell (blk_below HI.out.br B11.out) 1).trans rfl; have rc2 := (blk_cell (blk_below HI.out.br B11.out) 2).trans rfl; have s0 := blk_frozen (blk_below HI.out.br B11.out) 0; have s1 := blk_frozen (blk_below HI.out.br B11.out) 1; have s2 := blk_frozen (blk_below HI.out.br B11.out) 2; have y0 := (blk_cell (blk_below HI.out.bt B11.out) 0).trans rfl; have y1 := (blk_cell (blk_below HI.out.bt B11.out) 1).trans rfl; have y2 := (blk_cell (blk_below HI.out.bt B11.out) 2).trans rfl; have v0 := (blk_cell C11.out 0).trans rfl; have v1 := (blk_cell C11.out 1).trans rfl) | go_in)
       refine bodyPost_ret (results_ct rfl _ _ (w.heap.size + 1) 24 #[.int .i64 0, .int .i64 0, .slice none 0 0] (0, 0) _ rfl (blk_put (blk_put (blk_put (blk_below HI.out.br B11.out) 0 _ rfl) 1 _ rfl) 2 _ rfl) Try.underlying24 rfl (by kernel_rfl)) rfl ?_
       have hz : ((0 : Int), (0 : Int), ([] : List Int), (22 : Int)) = (r1, r2, r3, r4) := by
        have h := HRES.out
        rw [hv.out] at h
        simpa using h
       simp only [Prod.mk.injEq] at hz
       obtain ⟨rfl, rfl, rfl, rfl⟩ := hz
       exact ⟨.slice none 0 0, (show _ = Ending.returned (.tuple #[.agg #[.int .i64 0, .int .i64 0, .slice none 0 0], .int .i64 22]) from rfl), Kd.R_nil _ _ _ _ _, below_set (below_set (below_set (below_step HI.out.bel B11.out) (Nat.le_succ _)) (Nat.le_succ _)) (Nat.le_succ _)⟩
     by_cases q4 : x.f1 ≥ n
     · have d3 : decide (x.f1 < 0) = false := decide_eq_false q3
       have d4 : decide (x.f1 ≥ n) = true := decide_eq_true q4
       have hv0 : patchL n cs [] l = ([], 22) := by
        rw [HP.out, HDR.out, patchL]
        rw [if_neg q12, if_pos (.inr q4)]
       have hv := Lib.hid hv0
       clear hv0
       go_wp2_with (first | (at_lookup; refine wpList_lookup_own_unit _ rfl _ _ 60 rfl 3 61 plaw3 Try.underlying60 (pzero61 _) w2.heap.size k _ rfl (own_below HI.out.mp (by repeat (first | apply below_alloc | exact Below.refl _ _))) _ _ rfl hkey ?_; rw [setD_has, HCON.out]) | ((with_reducible refine gate_dst (N := 11) rfl ?_); refine box_event ?hg (N := 11) ?hd (cs := #[]) (t := 61) ?hr ?_; (case hd => rfl); (case hg => rfl); (case hr => first | (go_simp; done) | (go_simp; rfl)); intro gb hgb w11 hbox hb11; have B11 := qM (below_step (below_alloc (Below.refl _ _) _) hb11); have C11 := qM (blk_below (blk_new wr _) hb11); clear hbox hb11; have rc0 := (blk_cell (blk_below HI.out.br B11.out) 0).trans rfl; have rc1 := (blk_cell (blk_below HI.out.br B11.out) 1).trans rfl; have rc2 := (blk_cell (blk_below HI.out.br B11.out) 2).trans rfl; have s0 := blk_frozen (blk_below HI.out.br B11.out) 0; have s1 := blk_frozen (blk_below HI.out.br B11.out) 1; have s2 := blk_frozen (blk_below HI.out.br B11.out) 2; have y0 := (blk_cell (blk_below HI.out.bt B11.out) 0).trans rfl; have y1 := (blk_cell (blk_below HI.out.bt B11.out) 1).trans rfl; have y2 := (blk_cell (blk_below HI.out.bt B11.out) 2).trans rfl; have v0 := (blk_cell C11.out 0).trans rfl; have v1 := (blk_cell C11.out 1).trans rfl) | go_in)
       refine bodyPost_ret (results_ct rfl _ _ (w.heap.size + 1) 24 #[.int .i64 0, .int .i64 0, .slice none 0 0] (0, 0) _ rfl (blk_put (blk_put (blk_put (blk_below HI.out.br B11.out) 0 _ rfl) 1 _ rfl) 2 _ rfl) Try.underlying24 rfl (by kernel_rfl)) rfl ?_
       have hz : ((0 : Int), (0 : Int), ([] : List Int), (22 : Int)) = (r1, r2, r3, r4) := by
        have h := HRES.out
        rw [hv.out] at h
        simpa using h
       simp only [Prod.mk.injEq] at hz
       obtain ⟨rfl, rfl, rfl, rfl⟩ := hz
       exact ⟨.slice none 0 0, (show _ = Ending.returned (.tuple #[.agg #[.int .i64 0, .int .i64 0, .slice none 0 0], .int .i64 22]) from rfl), Kd.R_nil _ _ _ _ _, below_set (below_set (below_set (below_step HI.out.bel B11.out) (Nat.le_succ _)) (Nat.le_succ _)) (Nat.le_succ _)⟩
     have d3 : decide (x.f1 < 0) = false := decide_eq_false q3
     have d4 : decide (x.f1 ≥ n) = false := decide_eq_false q4
     have q34 : ¬ (x.f1 < 0 ∨ x.f1 ≥ n) := by omega
     have hv0 : patchL n cs [] l = ([], 5) := by
      rw [HP.out, HDR.out, patchL]
      rw [if_neg q12, if_neg q34, if_pos HCON.out]
     have hv := Lib.hid hv0
     clear hv0
     go_wp2_with (first | (at_lookup; refine wpList_lookup_own_unit _ rfl _ _ 60 rfl 3 61 plaw3 Try.underlying60 (pzero61 _) w2.heap.size k _ rfl (own_below HI.out.mp (by repeat (first | apply below_alloc | exact Below.refl _ _))) _ _ rfl hkey ?_; rw [setD_has, HCON.out]) | ((with_reducible refine gate_dst (N := 11) rfl ?_); refine box_event ?hg (N := 11) ?hd (cs := #[]) (t := 61) ?hr ?_; (case hd => rfl); (case hg => rfl); (case hr => first | (go_simp; done) | (go_simp; rfl)); intro gb hgb w11 hbox hb11; have B11 := qM (below_step (below_alloc (Below.refl _ _) _) hb11); have C11 := qM (blk_below (blk_new wr _) hb11); clear hbox hb11; have rc0 := (blk_cell (blk_below HI.out.br B11.out) 0).trans rfl; have rc1 := (blk_cell (blk_below HI.out.br B11.out) 1).trans rfl; have rc2 := (blk_cell (blk_below HI.out.br B11.out) 2).trans rfl; have s0 := blk_frozen (blk_below HI.out.br B11.out) 0; have s1 := blk_frozen (blk_below HI.out.br B11.out) 1; have s2 := blk_frozen (blk_below HI.out.br B11.out) 2; have y0 := (blk_cell (blk_below HI.out.bt B11.out) 0).trans rfl; have y1 := (blk_cell (blk_below HI.out.bt B11.out) 1).trans rfl; have y2 := (blk_cell (blk_below HI.out.bt B11.out) 2).trans rfl; have v0 := (blk_cell C11.out 0).trans rfl; have v1 := (blk_cell C11.out 1).trans rfl) | go_in)
     refine bodyPost_ret (results_ct rfl _ _ (w.heap.size + 1) 24 #[.int .i64 0, .int .i64 0, .slice none 0 0] (0, 0) _ rfl (blk_put (blk_put (blk_put (blk_below HI.out.br B11.out) 0 _ rfl) 1 _ rfl) 2 _ rfl) Try.underlying24 rfl (by kernel_rfl)) rfl ?_
     have hz : ((0 : Int), (0 : Int), ([] : List Int), (5 : Int)) = (r1, r2, r3, r4) := by
      have h := HRES.out
      rw [hv.out] at h
      simpa using h
     simp only [Prod.mk.injEq] at hz
     obtain ⟨rfl, rfl, rfl, rfl⟩ := hz
     exact ⟨.slice none 0 0, (show _ = Ending.returned (.tuple #[.agg #[.int .i64 0, .int .i64 0, .slice none 0 0], .int .i64 5]) from rfl), Kd.R_nil _ _ _ _ _, below_set (below_set (below_set (below_step HI.out.bel B11.out) (Nat.le_succ _)) (Nat.le_succ _)) (Nat.le_succ _)⟩
    | false =>
     have HCON := Lib.hid hcon
     clear hcon
     by_cases q1 : x.f0 < 0
     · have d1 : decide (x.f0 < 0) = true := decide_eq_true q1
       have hv0 : patchL n cs [] l = ([], 21) := by
        rw [HP.out, HDR.out, patchL]
        rw [if_pos (.inl q1)]
       have hv := Lib.hid hv0
       clear hv0
       go_wp2_with (first | (at_lookup; refine wpList_lookup_own_unit _ rfl _ _ 60 rfl 3 61 plaw3 Try.underlying60 (pzero61 _) w2.heap.size k _ rfl (own_below HI.out.mp (by repeat (first | apply below_alloc | exact Below.refl _ _))) _ _ rfl hkey ?_; rw [setD_has, HCON.out]) | ((with_reducible refine gate_dst (N := 11) rfl ?_); refine box_event ?hg (N := 11) ?hd (cs := #[]) (t := 61) ?hr ?_; (case hd => rfl); (case hg => rfl); (case hr => first | (go_simp; done) | (go_simp; rfl)); intro gb hgb w11 hbox hb11; have B11 := qM (below_step (below_alloc (Below.refl _ _) _) hb11); have C11 := qM (blk_below (blk_new wr _) hb11); clear hbox hb11; have rc0 := (blk_cell (blk_below HI.out.br B11.out) 0).trans rfl; have rc1 := (blk_cell (blk_below HI.out.br B11.out) 1).trans rfl; have rc2 := (blk_cell (blk_below HI.out.br B11.out) 2).trans rfl; have s0 := blk_frozen (blk_below HI.out.br B11.out) 0; have s1 := blk_frozen (blk_below HI.out.br B11.out) 1; have s2 := blk_frozen (blk_below HI.out.br B11.out) 2; have y0 := (blk_cell (blk_below HI.out.bt B11.out) 0).trans rfl; have y1 := (blk_cell (blk_below HI.out.bt B11.out) 1).trans rfl; have y2 := (blk_cell (blk_below HI.out.bt B11.out) 2).trans rfl; have v0 := (blk_cell C11.out 0).trans rfl; have v1 := (blk_cell C11.out 1).trans rfl) | go_in)
       refine bodyPost_ret (results_ct rfl _ _ (w.heap.size + 1) 24 #[.int .i64 0, .int .i64 0, .slice none 0 0] (0, 0) _ rfl (blk_put (blk_put (blk_put (blk_below HI.out.br B11.out) 0 _ rfl) 1 _ rfl) 2 _ rfl) Try.underlying24 rfl (by kernel_rfl)) rfl ?_
       have hz : ((0 : Int), (0 : Int), ([] : List Int), (21 : Int)) = (r1, r2, r3, r4) := by
        have h := HRES.out
        rw [hv.out] at h
        simpa using h
       simp only [Prod.mk.injEq] at hz
       obtain ⟨rfl, rfl, rfl, rfl⟩ := hz
       exact ⟨.slice none 0 0, (show _ = Ending.returned (.tuple #[.agg #[.int .i64 0, .int .i64 0, .slice none 0 0], .int .i64 21]) from rfl), Kd.R_nil _ _ _ _ _, below_set (below_set (below_set (below_step HI.out.bel B11.out) (Nat.le_succ _)) (Nat.le_succ _)) (Nat.le_succ _)⟩
     by_cases q2 : x.f0 ≥ (l.length : Int)
     · have d1 : decide (x.f0 < 0) = false := decide_eq_false q1
       have d2 : decide (x.f0 ≥ (l.length : Int)) = true := decide_eq_true q2
       have hv0 : patchL n cs [] l = ([], 21) := by
        rw [HP.out, HDR.out, patchL]
        rw [if_pos (.inr (by rw [HOL.out]; exact q2))]
       have hv := Lib.hid hv0
       clear hv0
       go_wp2_with (first | (at_lookup; refine wpList_lookup_own_unit _ rfl _ _ 60 rfl 3 61 plaw3 Try.underlying60 (pzero61 _) w2.heap.size k _ rfl (own_below HI.out.mp (by repeat (first | apply below_alloc | exact Below.refl _ _))) _ _ rfl hkey ?_; rw [setD_has, HCON.out]) | ((with_reducible refine gate_dst (N := 11) rfl ?_); refine box_event ?hg (N := 11) ?hd (cs := #[]) (t := 61) ?hr ?_; (case hd => rfl); (case hg => rfl); (case hr => first | (go_simp; done) | (go_simp; rfl)); intro gb hgb w11 hbox hb11; have B11 := qM (below_step (below_alloc (Below.refl _ _) _) hb11); have C11 := qM (blk_below (blk_new wr _) hb11); clear hbox hb11; have rc0 := (blk_cell (blk_below HI.out.br B11.out) 0).trans rfl; have rc1 := (blk_cell (blk_below HI.out.br B11.out) 1).trans rfl; have rc2 := (blk_cell (blk_below HI.out.br B11.out) 2).trans rfl; have s0 := blk_frozen (blk_below HI.out.br B11.out) 0; have s1 := blk_frozen (blk_below HI.out.br B11.out) 1; have s2 := blk_frozen (blk_below HI.out.br B11.out) 2; have y0 := (blk_cell (blk_below HI.out.bt B11.out) 0).trans rfl; have y1 := (blk_cell (blk_below HI.out.bt B11.out) 1).trans rfl; have y2 := (blk_cell (blk_below HI.out.bt B11.out) 2).trans rfl; have v0 := (blk_cell C11.out 0).trans rfl; have v1 := (blk_cell C11.out 1).trans rfl) | go_in)
       refine bodyPost_ret (results_ct rfl _ _ (w.heap.size + 1) 24 #[.int .i64 0, .int .i64 0, .slice none 0 0] (0, 0) _ rfl (blk_put (blk_put (blk_put (blk_below HI.out.br B11.out) 0 _ rfl) 1 _ rfl) 2 _ rfl) Try.underlying24 rfl (by kernel_rfl)) rfl ?_
       have hz : ((0 : Int), (0 : Int), ([] : List Int), (21 : Int)) = (r1, r2, r3, r4) := by
        have h := HRES.out
        rw [hv.out] at h
        simpa using h
       simp only [Prod.mk.injEq] at hz
       obtain ⟨rfl, rfl, rfl, rfl⟩ := hz
       exact ⟨.slice none 0 0, (show _ = Ending.returned (.tuple #[.agg #[.int .i64 0, .int .i64 0, .slice none 0 0], .int .i64 21]) from rfl), Kd.R_nil _ _ _ _ _, below_set (below_set (below_set (below_step HI.out.bel B11.out) (Nat.le_succ _)) (Nat.le_succ _)) (Nat.le_succ _)⟩
     have d1 : decide (x.f0 < 0) = false := decide_eq_false q1
     have d2 : decide (x.f0 ≥ (l.length : Int)) = false := decide_eq_false q2
     have q12 : ¬ (x.f0 < 0 ∨ x.f0 ≥ (O.length : Int)) := by rw [HOL.out]; omega
     by_cases q3 : x.f1 < 0
     · have d3 : decide (x.f1 < 0) = true := decide_eq_true q3
       have hv0 : patchL n cs [] l = ([], 22) := by
        rw [HP.out, HDR.out, patchL]
        rw [if_neg q12, if_pos (.inl q3)]
       have hv := Lib.hid hv0
       clear hv0
       go_wp2_with (first | (at_lookup; refine wpList_lookup_own_unit _ rfl _ _ 60 rfl 3 61 plaw3 Try.underlying60 (pzero61 _) w2.heap.size k _ rfl (own_below HI.out.mp (by repeat (first | apply below_alloc | exact Below.refl _ _))) _ _ rfl hkey ?_; rw [setD_has, HCON.out]) | ((with_reducible refine gate_dst (N := 11) rfl ?_); refine box_event ?hg (N := 11) ?hd (cs := #[]) (t := 61) ?hr ?_; (case hd => rfl); (case hg => rfl); (case hr => first | (go_simp; done) | (go_simp; rfl)); intro gb hgb w11 hbox hb11; have B11 := qM (below_step (below_alloc (Below.refl _ _) _) hb11); have C11 := qM (blk_below (blk_new wr _) hb11); clear hbox hb11; have rc0 := (blk_cell (blk_below HI.out.br B11.out) 0).trans rfl; have rc1 := (blk_cell (blk_below HI.out.br B11.out) 1).trans rfl; have rc2 := (blk_cell (blk_below HI.out.br B11.out) 2).trans rfl; have s0 := blk_frozen (blk_below HI.out.br B11.out) 0; have s1 := blk_frozen (blk_below HI.out.br B11.out) 1; have s2 := blk_frozen (blk_below HI.out.br B11.out) 2; have y0 := (blk_cell (blk_below HI.out.bt B11.out) 0).trans rfl; have y1 := (blk_cell (blk_below HI.out.bt B11.out) 1).trans rfl; have y2 := (blk_cell (blk_below HI.out.bt B11.out) 2).trans rfl; have v0 := (blk_cell C11.out 0).trans rfl; have v1 := (blk_cell C11.out 1).trans rfl) | go_in)
       refine bodyPost_ret (results_ct rfl _ _ (w.heap.size + 1) 24 #[.int .i64 0, .int .i64 0, .slice none 0 0] (0, 0) _ rfl (blk_put (blk_put (blk_put (blk_below HI.out.br B11.out) 0 _ rfl) 1 _ rfl) 2 _ rfl) Try.underlying24 rfl (by kernel_rfl)) rfl ?_
       have hz : ((0 : Int), (0 : Int), ([] : List Int), (22 : Int)) = (r1, r2, r3, r4) := by
        have h := HRES.out
        rw [hv.out] at h
        simpa using h
       simp only [Prod.mk.injEq] at hz
       obtain ⟨rfl, rfl, rfl, rfl⟩ := hz
       exact ⟨.slice none 0 0, (show _ = Ending.returned (.tuple #[.agg #[.int .i64 0, .int .i64 0, .slice none 0 0], .int .i64 22]) from rfl), Kd.R_nil _ _ _ _ _, below_set (below_set (below_set (below_step HI.out.bel B11.out) (Nat.le_succ _)) (Nat.le_succ _)) (Nat.le_succ _)⟩
     by_cases q4 : x.f1 ≥ n
     · have d3 : decide (x.f1 < 0) = false := decide_eq_false q3
       have d4 : decide (x.f1 ≥ n) = true := decide_eq_true q4
       have hv0 : patchL n cs [] l = ([], 22) := by
        rw [HP.out, HDR.out, patchL]
        rw [if_neg q12, if_pos (.inr q4)]
       have hv := Lib.hid hv0
       clear hv0
       go_wp2_with (first | (at_lookup; refine wpList_lookup_own_unit _ rfl _ _ 60 rfl 3 61 plaw3 Try.underlying60 (pzero61 _) w2.heap.size k _ rfl (own_below HI.out.mp (by repeat (first | apply below_alloc | exact Below.refl _ _))) _ _ rfl hkey ?_; rw [setD_has, HCON.out]) | ((with_reducible refine gate_dst (N := 11) rfl ?_); refine box_event ?hg (N := 11) ?hd (cs := #[]) (t := 61) ?hr ?_; (case hd => rfl); (case hg => rfl); (case hr => first | (go_simp; done) | (go_simp; rfl)); intro gb hgb w11 hbox hb11; have B11 := qM (below_step (below_alloc (Below.refl _ _) _) hb11); have C11 := qM (blk_below (blk_new wr _) hb11); clear hbox hb11; have rc0 := (blk_cell (blk_below HI.out.br B11.out) 0).trans rfl; have rc1 := (blk_cell (blk_below HI.out.br B11.out) 1).trans rfl; have rc2 := (blk_cell (blk_below HI.out.br B11.out) 2).trans rfl; have s0 := blk_frozen (blk_below HI.out.br B11.out) 0; have s1 := blk_frozen (blk_below HI.out.br B11.out) 1; have s2 := blk_frozen (blk_below HI.out.br B11.out) 2; have y0 := (blk_cell (blk_below HI.out.bt B11.out) 0).trans rfl; have y1 := (blk_cell (blk_below HI.out.bt B11.out) 1).trans rfl; have y2 := (blk_cell (blk_below HI.out.bt B11.out) 2).trans rfl; have v0 := (blk_cell C11.out 0).trans rfl; have v1 := (blk_cell C11.out 1).trans rfl) | go_in)
       refine bodyPost_ret (results_ct rfl _ _ (w.heap.size + 1) 24 #[.int .i64 0, .int .i64 0, .slice none 0 0] (0, 0) _ rfl (blk_put (blk_put (blk_put (blk_below HI.out.br B11.out) 0 _ rfl) 1 _ rfl) 2 _ rfl) Try.underlying24 rfl (by kernel_rfl)) rfl ?_
       have hz : ((0 : Int), (0 : Int), ([] : List Int), (22 : Int)) = (r1, r2, r3, r4) := by
        have h := HRES.out
        rw [hv.out] at h
        simpa using h
       simp only [Prod.mk.injEq] at hz
       obtain ⟨rfl, rfl, rfl, rfl⟩ := hz
       exact ⟨.slice none 0 0, (show _ = Ending.returned (.tuple #[.agg #[.int .i64 0, .int .i64 0, .slice none 0 0], .int .i64 22]) from rfl), Kd.R_nil _ _ _ _ _, below_set (below_set (below_set (below_step HI.out.bel B11.out) (Nat.le_succ _)) (Nat.le_succ _)) (Nat.le_succ _)⟩
     have d3 : decide (x.f1 < 0) = false := decide_eq_false q3
     have d4 : decide (x.f1 ≥ n) = false := decide_eq_false q4
     have q34 : ¬ (x.f1 < 0 ∨ x.f1 ≥ n) := by omega
     have hgm : w2.heap.size < wr.heap.size := HI.out.mp.lt
     have hgo2 : go < w2.heap.size := blk_lt HROW.out
     have hnn : (if (go : Nat) = w.heap.size then (1 : Nat) else 0) = 0 := if_neg (by omega)
     clear hnn
     obtain ⟨cur2, hr2, ht2, hl2, hm2, hs2⟩ := HI.out.row
     have HR2' := qM hr2
     have HT2 := qM ht2
     clear hr2 ht2
     obtain ⟨u, hu⟩ : ∃ u, cur2[x.f0.toNat]? = some u := ⟨_, Array.getElem?_eq_getElem (show x.f0.toNat < cur2.size by omega)⟩
     have HU := Lib.hid hu
     clear hu
     go_wp2_with (first
      | (at_lookup; refine wpList_lookup_own_unit _ rfl _ _ 60 rfl 3 61 plaw3 Try.underlying60 (pzero61 _) w2.heap.size k _ rfl (own_below HI.out.mp (by repeat (first | apply below_alloc | exact Below.refl _ _))) _ _ rfl hkey ?_; rw [setD_has, HCON.out]) | ((with_reducible refine gate_dst (N := 11) rfl ?_); refine box_event ?hg (N := 11) ?hd (cs := #[]) (t := 61) ?hr ?_; (case hd => rfl); (case hg => rfl); (case hr => first | (go_simp; done) | (go_simp; rfl)); intro gb hgb w11 hbox hb11; have B11 := qM (below_step (below_alloc (Below.refl _ _) _) hb11); have C11 := qM (blk_below (blk_new wr _) hb11); clear hbox hb11; have rc0 := (blk_cell (blk_below HI.out.br B11.out) 0).trans rfl; have rc1 := (blk_cell (blk_below HI.out.br B11.out) 1).trans rfl; have rc2 := (blk_cell (blk_below HI.out.br B11.out) 2).trans rfl; have s0 := blk_frozen (blk_below HI.out.br B11.out) 0; have s1 := blk_frozen (blk_below HI.out.br B11.out) 1; have s2 := blk_frozen (blk_below HI.out.br B11.out) 2; have y0 := (blk_cell (blk_below HI.out.bt B11.out) 0).trans rfl; have y1 := (blk_cell (blk_below HI.out.bt B11.out) 1).trans rfl; have y2 := (blk_cell (blk_below HI.out.bt B11.out) 2).trans rfl; have v0 := (blk_cell C11.out 0).trans rfl; have v1 := (blk_cell C11.out 1).trans rfl)
      | (at_mapUpdate; refine wpList_mapUpdate_own _ rfl _ _ _ 60 rfl 3 61 plaw3 Try.underlying60 (unitElem (H := Unit)) w2.heap.size k _ rfl (own_below HI.out.mp B11.out) (by unfold maxLen; omega) _ _ _ rfl rfl hkey _ [] unitElem_mk ?_; intro w12 hown12 hgrow12; have OWN12 := qM hown12; have GR12 := qM hgrow12; have BT12 := qM (blk_grown (blk_below HI.out.bt B11.out) hgrow12 (by first | omega | (simp; omega))); have BR12 := qM (blk_grown (blk_below HI.out.br B11.out) hgrow12 (by first | omega | (simp; omega))); have BO12 := qM (blk_grown (blk_below HR2'.out B11.out) hgrow12 (by first | omega | (simp; omega))); have C12 := qM (blk_grown C11.out hgrow12 (by first | omega | (simp; omega))); clear hown12 hgrow12 y0 y1 y2 v0 v1 rc0 rc1 rc2 s0 s1 s2; have y2 := (blk_cell BT12.out 2).trans rfl; have v0 := (blk_cell C12.out 0).trans rfl; have v1 := (blk_cell C12.out 1).trans rfl; have o0 := (blk_cell BO12.out x.f0.toNat).trans HU.out; have o1 := blk_frozen BO12.out x.f0.toNat)
      | go_in)
     go_roundw
     case rel =>
      have hseen : (cs.take (k + 1)).map (·.f0) = (cs.take k).map (·.f0) ++ [x.f0] := by
       rw [List.take_succ_eq_append_getElem hlt, List.map_append, HX.out]
       unfold rd_T39
       rw [Int.toNat_natCast, List.getD_eq_getElem?_getD, List.getElem?_eq_getElem hlt]
       rfl
      refine ⟨k + 1, O.set x.f0.toNat x.f1, by omega, by go_num, ⟨?_, ?_, ⟨cur2.setIfInBounds x.f0.toNat (.int .i64 x.f1), ?_, ?_, hl2, hm2, by rw [Array.size_setIfInBounds]; exact hs2⟩, ?_, ?_, by rw [List.length_set]; exact HI.out.len⟩, ?_⟩
      · exact blk_far BT12.out (by first | omega | (simp; omega)) _
      · exact blk_far BR12.out (by first | omega | (simp; omega)) _
      · exact blk_set BO12.out _ _
      · rw [Array.toList_setIfInBounds, List.take_set, HT2.out, List.map_set]
      · rw [hseen, setD_snoc]
        exact OWN12.out.setCell (by first | omega | (simp; omega)) _
      · exact below_set ((below_step HI.out.bel B11.out).grown GR12.out (by have := B11.out.size; omega) (fun j hj => by cases hj; omega)) (by first | omega | (simp; omega))
      rw [HP.out, HDR.out, patchL, if_neg q12, if_neg q34, if_neg (by rw [HCON.out]; simp), hseen]
     case measure => simp [intOf]; omega
  have hk' : k = cs.length := by omega
  subst hk'
  have hv0 : patchL n cs [] l = (O, 0) := by
   rw [HP.out, List.drop_of_length_le (Nat.le_refl _), patchL]
  have hz : (e2, n, O, (0 : Int)) = (r1, r2, r3, r4) := by
   have h := HRES.out
   rw [hv0] at h
   simpa using h
  simp only [Prod.mk.injEq] at hz
  obtain ⟨rfl, rfl, rfl, rfl⟩ := hz
  clear hv0
  have rc0 := (blk_cell HI.out.br 0).trans rfl
  have rc1 := (blk_cell HI.out.br 1).trans rfl
  have rc2 := (blk_cell HI.out.br 2).trans rfl
  have s0 := blk_frozen HI.out.br 0
  have s1 := blk_frozen HI.out.br 1
  have s2 := blk_frozen HI.out.br 2
  have y0 := (blk_cell HI.out.bt 0).trans rfl
  have y1 := (blk_cell HI.out.bt 1).trans rfl
  have y2 := (blk_cell HI.out.bt 2).trans rfl
  go_wp2
  obtain ⟨cur2, hr2, ht2, hl2, hm2, hs2⟩ := HI.out.row
  have hgo2 : go < w2.heap.size := blk_lt HROW.out
  have hOl := HI.out.len
  refine bodyPost_ret (results_ct rfl _ _ (w.heap.size + 1) 24 #[.int .i64 e2, .int .i64 n, .slice (some ⟨go, 0, none⟩) l.length co] (0, 0) _ rfl (blk_put (blk_put (blk_put HI.out.br 0 _ rfl) 1 _ rfl) 2 _ rfl) Try.underlying24 rfl (by kernel_rfl)) rfl ?_
  refine ⟨.slice (some ⟨go, 0, none⟩) l.length co, rfl, ?_, below_set (below_set (below_set HI.out.bel (Nat.le_succ _)) (Nat.le_succ _)) (Nat.le_succ _)⟩
  rw [← hOl]
  exact rowI_close (by omega) (blk_far (blk_far (blk_far hr2 (by first | omega | (simp; omega)) _) (by first | omega | (simp; omega)) _) (by first | omega | (simp; omega)) _) (by rw [hOl]; exact ht2) (by omega) hm2 hs2
set_option maxHeartbeats 4000000 in
set_option maxRecDepth 100000 in
theorem patch_wrong (e n : Int) (A : Option Addr) (c : Nat) (l : List Int) (e2 : Int) (A2 : Option Addr) (c2 m2 : Nat) (w : World) (hr : Kd.C (Kd.int .i64) w A l.length l) (hc : l.length ≤ c)
    (h1 : rightB e n l = false ∨ e2 ≤ e ∨ e2 > 2147483647) :
    Calls Try.prog 16 #[.agg #[.int .i64 e, .int .i64 n, .slice A l.length c], .int .i64 e2, .slice A2 m2 c2] w fun e' w' => ∃ v2_ : Value, e' = .returned (.tuple #[.agg #[.int .i64 0, .int .i64 0, v2_], .int .i64 1]) ∧ Kd.R (Kd.int .i64) 3 w' w.heap.size (fun _ => True) v2_ [] ∧ Below w.heap.size w w' := by
 have HR := qM hr
 have HC := qM hc
 clear hr hc
 cases hrb : rightB e n l with
 | false =>
  have H1 := Lib.hid hrb
  clear h1 hrb
  go_enter Try.func16, Try.ntmps16
  go_wp2_with (first
   | (go_at_call 12; refine (table_Right.calls e n A c l false _ (Kd.C_below HR.out (by repeat (first | apply below_alloc | exact Below.refl _ _))) HC.out (by rw [← H1.out]; rfl)).mono ?_; rintro e1 w1 ⟨rfl, hb1⟩; have bR1 : w1.heap[w.heap.size + 1]? = some (.cells #[.int .i64 0, .int .i64 0, .slice none 0 0] 24 (0, 0)) := blk_below (by simpa using blk_new (w.alloc _) (.cells #[.int .i64 0, .int .i64 0, .slice none 0 0] 24)) hb1; have BR1 := qM bR1; have HB1 := qM (below_step (by repeat (first | apply below_alloc | exact Below.refl _ _)) hb1); clear bR1 hb1; have z0 := (blk_cell BR1.out 0).trans rfl; have z1 := (blk_cell BR1.out 1).trans rfl; have z2 := (blk_cell BR1.out 2).trans rfl; have s0 := blk_frozen BR1.out 0; have s1 := blk_frozen BR1.out 1; have s2 := blk_frozen BR1.out 2))
  refine bodyPost_ret (results_ct rfl _ _ (w.heap.size + 1) 24 #[.int .i64 0, .int .i64 0, .slice none 0 0] (0, 0) _ rfl (blk_put (blk_put (blk_put BR1.out 0 _ rfl) 1 _ rfl) 2 _ rfl) Try.underlying24 rfl (by kernel_rfl)) rfl ?_
  exact ⟨.slice none 0 0, rfl, Kd.R_nil _ _ _ _ _, below_set (below_set (below_set HB1.out (Nat.le_succ _)) (Nat.le_succ _)) (Nat.le_succ _)⟩
 | true =>
  have H1 := Lib.hid hrb
  have h2 : e2 ≤ e ∨ e2 > 2147483647 := by
   rcases h1 with h | h
   · rw [hrb] at h; cases h
   exact h
  clear h1 hrb
  by_cases q1 : e2 ≤ e
  · have d1 : decide (e2 ≤ e) = true := decide_eq_true q1
    clear h2
    go_enter Try.func16, Try.ntmps16
    go_wp2_with (first
     | (go_at_call 12; refine (table_Right.calls e n A c l true _ (Kd.C_below HR.out (by repeat (first | apply below_alloc | exact Below.refl _ _))) HC.out (by rw [← H1.out]; rfl)).mono ?_; rintro e1 w1 ⟨rfl, hb1⟩; have bT1 : w1.heap[w.heap.size]? = some (.cells #[.int .i64 e, .int .i64 n, .slice A l.length c] 24 (0, 0)) := blk_below (blk_alloc (blk_new w _) _) hb1; have BT1 := qM bT1; clear bT1; have y0 := (blk_cell BT1.out 0).trans rfl; have bR1 : w1.heap[w.heap.size + 1]? = some (.cells #[.int .i64 0, .int .i64 0, .slice none 0 0] 24 (0, 0)) := blk_below (by simpa using blk_new (w.alloc _) (.cells #[.int .i64 0, .int .i64 0, .slice none 0 0] 24)) hb1; have BR1 := qM bR1; have HB1 := qM (below_step (by repeat (first | apply below_alloc | exact Below.refl _ _)) hb1); clear bR1 hb1; have z0 := (blk_cell BR1.out 0).trans rfl; have z1 := (blk_cell BR1.out 1).trans rfl; have z2 := (blk_cell BR1.out 2).trans rfl; have s0 := blk_frozen BR1.out 0; have s1 := blk_frozen BR1.out 1; have s2 := blk_frozen BR1.out 2))
    refine bodyPost_ret (results_ct rfl _ _ (w.heap.size + 1) 24 #[.int .i64 0, .int .i64 0, .slice none 0 0] (0, 0) _ rfl (blk_put (blk_put (blk_put BR1.out 0 _ rfl) 1 _ rfl) 2 _ rfl) Try.underlying24 rfl (by kernel_rfl)) rfl ?_
    exact ⟨.slice none 0 0, rfl, Kd.R_nil _ _ _ _ _, below_set (below_set (below_set HB1.out (Nat.le_succ _)) (Nat.le_succ _)) (Nat.le_succ _)⟩
  have d1 : decide (e2 ≤ e) = false := decide_eq_false q1
  have d2 : decide (e2 > 2147483647) = true := decide_eq_true (by omega)
  clear h2
  go_enter Try.func16, Try.ntmps16
  go_wp2_with (first
   | (go_at_call 12; refine (table_Right.calls e n A c l true _ (Kd.C_below HR.out (by repeat (first | apply below_alloc | exact Below.refl _ _))) HC.out (by rw [← H1.out]; rfl)).mono ?_; rintro e1 w1 ⟨rfl, hb1⟩; have bT1 : w1.heap[w.heap.size]? = some (.cells #[.int .i64 e, .int .i64 n, .slice A l.length c] 24 (0, 0)) := blk_below (blk_alloc (blk_new w _) _) hb1; have BT1 := qM bT1; clear bT1; have y0 := (blk_cell BT1.out 0).trans rfl; have bR1 : w1.heap[w.heap.size + 1]? = some (.cells #[.int .i64 0, .int .i64 0, .slice none 0 0] 24 (0, 0)) := blk_below (by simpa using blk_new (w.alloc _) (.cells #[.int .i64 0, .int .i64 0, .slice none 0 0] 24)) hb1; have BR1 := qM bR1; have HB1 := qM (below_step (by repeat (first | apply below_alloc | exact Below.refl _ _)) hb1); clear bR1 hb1; have z0 := (blk_cell BR1.out 0).trans rfl; have z1 := (blk_cell BR1.out 1).trans rfl; have z2 := (blk_cell BR1.out 2).trans rfl; have s0 := blk_frozen BR1.out 0; have s1 := blk_frozen BR1.out 1; have s2 := blk_frozen BR1.out 2))
  refine bodyPost_ret (results_ct rfl _ _ (w.heap.size + 1) 24 #[.int .i64 0, .int .i64 0, .slice none 0 0] (0, 0) _ rfl (blk_put (blk_put (blk_put BR1.out 0 _ rfl) 1 _ rfl) 2 _ rfl) Try.underlying24 rfl (by kernel_rfl)) rfl ?_
  exact ⟨.slice none 0 0, rfl, Kd.R_nil _ _ _ _ _, below_set (below_set (below_set HB1.out (Nat.le_succ _)) (Nat.le_succ _)) (Nat.le_succ _)⟩
def wfC (cs : List S39) : Bool := cs.all fun x => (Lit.int .i64 x.f0).wf
def spread_Patch.f (a0_0 : Int) (a0_1 : Int) (l0_2 : List Int) (a1 : Int) (l2 : List S39) : Option (Int × Int × List Int × Int) := if wfC l2 = true ∧ l2.length ≤ 100000 then some (patchC a0_0 a0_1 l0_2 a1 l2) else none
theorem spread_Patch.calls (a0_0 : Int) (a0_1 : Int) (A0_2 : Option Addr) (c0_2 : Nat) (l0_2 : List Int) (a1 : Int) (A2 : Option Addr) (c2 : Nat) (l2 : List S39) (r1 : Int) (r2 : Int) (r3 : List Int) (r4 : Int) (w : World) (hr0_2 : Kd.C (Kd.int .i64) w A0_2 l0_2.length l0_2) (hc0_2 : l0_2.length ≤ c0_2) (hr2 : Kd.C k39 w A2 l2.length l2) (hc2 : l2.length ≤ c2) (h : spread_Patch.f a0_0 a0_1 l0_2 a1 l2 = some (r1, r2, r3, r4)) :
    Calls Try.prog 16 #[.agg #[.int .i64 a0_0, .int .i64 a0_1, .slice A0_2 l0_2.length c0_2], .int .i64 a1, .slice A2 l2.length c2] w fun e w' => ∃ v2_ : Value, e = .returned (.tuple #[.agg #[.int .i64 r1, .int .i64 r2, v2_], .int .i64 r4]) ∧ Kd.R (Kd.int .i64) 3 w' w.heap.size (fun _ => True) v2_ r3 ∧ Below w.heap.size w w' := by
 unfold spread_Patch.f at h
 by_cases hw : wfC l2 = true ∧ l2.length ≤ 100000
 · rw [if_pos hw] at h
   have hp := Option.some.inj h
   unfold patchC at hp
   by_cases h1 : rightB a0_0 a0_1 l0_2 = false ∨ a1 ≤ a0_0 ∨ a1 > 2147483647
   · rw [if_pos h1] at hp
     simp only [Prod.mk.injEq] at hp
     obtain ⟨rfl, rfl, rfl, rfl⟩ := hp
     exact patch_wrong a0_0 a0_1 A0_2 c0_2 l0_2 a1 A2 c2 l2.length w hr0_2 hc0_2 h1
   rw [if_neg h1] at hp
   have hR : rightB a0_0 a0_1 l0_2 = true := by
    cases hq : rightB a0_0 a0_1 l0_2
    · exact absurd (.inl hq) h1
    rfl
   have hl : l0_2.length ≤ 100000 := by
    have := hR
    unfold rightB at this
    simp only [Bool.and_eq_true, decide_eq_true_eq] at this
    omega
   refine patch_right a0_0 a0_1 A0_2 c0_2 l0_2 a1 A2 c2 l2 w hr0_2 hc0_2 hr2 hc2 (fun x hx => ?_) hw.2 hl hR (by omega) (by omega) r1 r2 r3 r4 hp
   have := hw.1
   unfold wfC at this
   exact List.all_eq_true.1 this x hx
 rw [if_neg hw] at h
 exact absurd h (by simp)
/-! ### meterref17_Same: function 17 -/
mutual
def meterref17_Same.j0 : Nat → Bool → Int → Int → List Int → Int → Int → List Int → Option (Bool)
  | 0, _, _, _, _, _, _, _ => none
  | k + 1, x26, x160000, x160001, x160002, x161000, x161001, x161002 => if x26 = true then (some false) else (meterref17_Same.l0 k 0 x160000 x160001 x160002 x161000 x161001 x161002)
def meterref17_Same.l0 : Nat → Int → Int → Int → List Int → Int → Int → List Int → Option (Bool)
  | 0, _, _, _, _, _, _, _ => none
  | k + 1, x5, x160000, x160001, x160002, x161000, x161001, x161002 => if x5 < (x160002.length : Int) then (if 0 ≤ x5 then (if x5 < (x161002.length : Int) then (if (rd x160002 x5) = (rd x161002 x5) then (meterref17_Same.l0 k (wrap64 (x5 + 1)) x160000 x160001 x160002 x161000 x161001 x161002) else (some false)) else (none)) else (none)) else (some true)
end
def meterref17_Same.f (k : Nat) (a0_0 : Int) (a0_1 : Int) (l0_2 : List Int) (a1_0 : Int) (a1_1 : Int) (l1_2 : List Int) : Option (Bool) := if a0_0 = a1_0 then (if a0_1 = a1_1 then (meterref17_Same.j0 k ((l0_2.length : Int) != (l1_2.length : Int)) a0_0 a0_1 l0_2 a1_0 a1_1 l1_2) else (meterref17_Same.j0 k true a0_0 a0_1 l0_2 a1_0 a1_1 l1_2)) else (meterref17_Same.j0 k true a0_0 a0_1 l0_2 a1_0 a1_1 l1_2)
theorem meterref17_Same.mono_l : ∀ k, (∀ y0 y1 y2 y3 y4 y5 y6, LeO (meterref17_Same.j0 k y0 y1 y2 y3 y4 y5 y6) (meterref17_Same.j0 (k + 1) y0 y1 y2 y3 y4 y5 y6)) ∧ (∀ y0 y1 y2 y3 y4 y5 y6, LeO (meterref17_Same.l0 k y0 y1 y2 y3 y4 y5 y6) (meterref17_Same.l0 (k + 1) y0 y1 y2 y3 y4 y5 y6))
  | 0 => ⟨fun _ _ _ _ _ _ _ r h => by simp [meterref17_Same.j0] at h, fun _ _ _ _ _ _ _ r h => by simp [meterref17_Same.l0] at h⟩
  | k + 1 => by
    obtain ⟨ih0, ih1⟩ := meterref17_Same.mono_l k
    refine ⟨?_, ?_⟩
    · intro y0 y1 y2 y3 y4 y5 y6
      unfold meterref17_Same.j0
      repeat' first
      | (with_reducible exact ih0 _ _ _ _ _ _ _)
      | (with_reducible exact ih1 _ _ _ _ _ _ _)
      | (with_reducible exact LeO.refl _)
      | (with_reducible exact LeO.none _)
      | (with_reducible refine LeO.ite ?_ ?_)
      | (with_reducible refine LeO.bind ?_ (fun _ => ?_))
      | exact ih0 _ _ _ _ _ _ _
      | exact ih1 _ _ _ _ _ _ _
      | exact LeO.none _
      | refine LeO.ite ?_ ?_
      | refine LeO.bind ?_ (fun _ => ?_)
    · intro y0 y1 y2 y3 y4 y5 y6
      unfold meterref17_Same.l0
      repeat' first
      | (with_reducible exact ih0 _ _ _ _ _ _ _)
      | (with_reducible exact ih1 _ _ _ _ _ _ _)
      | (with_reducible exact LeO.refl _)
      | (with_reducible exact LeO.none _)
      | (with_reducible refine LeO.ite ?_ ?_)
      | (with_reducible refine LeO.bind ?_ (fun _ => ?_))
      | exact ih0 _ _ _ _ _ _ _
      | exact ih1 _ _ _ _ _ _ _
      | exact LeO.none _
      | refine LeO.ite ?_ ?_
      | refine LeO.bind ?_ (fun _ => ?_)
theorem meterref17_Same.mono : ∀ a0 a1 a2 a3 a4 a5 k, LeO (meterref17_Same.f k a0 a1 a2 a3 a4 a5) (meterref17_Same.f (k + 1) a0 a1 a2 a3 a4 a5) := by
 intro a0 a1 a2 a3 a4 a5 k
 obtain ⟨ih0, ih1⟩ := meterref17_Same.mono_l k
 unfold meterref17_Same.f
 repeat' first
  | (with_reducible exact ih0 _ _ _ _ _ _ _)
  | (with_reducible exact ih1 _ _ _ _ _ _ _)
  | (with_reducible exact LeO.refl _)
  | (with_reducible exact LeO.none _)
  | (with_reducible refine LeO.ite ?_ ?_)
  | (with_reducible refine LeO.bind ?_ (fun _ => ?_))
  | exact ih0 _ _ _ _ _ _ _
  | exact ih1 _ _ _ _ _ _ _
  | exact LeO.none _
  | refine LeO.ite ?_ ?_
  | refine LeO.bind ?_ (fun _ => ?_)
set_option maxHeartbeats 8000000 in
set_option maxRecDepth 100000 in
theorem meterref17_Same.calls (k : Nat) (a0_0 : Int) (a0_1 : Int) (A0_2 : Option Addr) (c0_2 : Nat) (l0_2 : List Int) (a1_0 : Int) (a1_1 : Int) (A1_2 : Option Addr) (c1_2 : Nat) (l1_2 : List Int) (r : Bool) (w : World) (hr0_2 : Kd.C (Kd.int .i64) w A0_2 l0_2.length l0_2) (hc0_2 : l0_2.length ≤ c0_2) (hr1_2 : Kd.C (Kd.int .i64) w A1_2 l1_2.length l1_2) (hc1_2 : l1_2.length ≤ c1_2) (h : meterref17_Same.f k a0_0 a0_1 l0_2 a1_0 a1_1 l1_2 = some r) :
    Calls Try.prog 17 #[.agg #[.int .i64 a0_0, .int .i64 a0_1, .slice A0_2 l0_2.length c0_2], .agg #[.int .i64 a1_0, .int .i64 a1_1, .slice A1_2 l1_2.length c1_2]] w fun e w' => e = .returned (.bool r) ∧ Below w.heap.size w w' := by
 have hu24 := Try.underlying24
 have HR0_2 := qM hr0_2
 have HC0_2 := qM hc0_2
 clear hr0_2 hc0_2
 have HR1_2 := qM hr1_2
 have HC1_2 := qM hc1_2
 clear hr1_2 hc1_2
 have HB := qM (Below.refl w.heap.size w)
 have H : (if a0_0 = a1_0 then (if a0_1 = a1_1 then (meterref17_Same.j0 k ((l0_2.length : Int) != (l1_2.length : Int)) a0_0 a0_1 l0_2 a1_0 a1_1 l1_2) else (meterref17_Same.j0 k true a0_0 a0_1 l0_2 a1_0 a1_1 l1_2)) else (meterref17_Same.j0 k true a0_0 a0_1 l0_2 a1_0 a1_1 l1_2)) = some r := h
 clear h
 have HC3 := qM H
 clear H
 go_enter Try.func17, Try.ntmps17
 go_upto_region 1 with (first | ((with_reducible refine gate_dst (N := 2) rfl ?_); (try (refine gate_guard (by rfl) ?_; dsimp only)); refine box_event ?hg (N := 2) ?hd (cs := #[.int .i64 a0_0, .int .i64 a0_1, .slice A0_2 l0_2.length c0_2]) (t := 24) ?hr ?_; (case hd => rfl); (case hg => rfl); (case hr => first | (go_simp; done) | (go_simp; rfl)); intro gb159 hg w4 hbox hb; have n0_ := qM (below_step (by repeat (first | (with_reducible first | exact HB.out | apply below_alloc | apply pw_below_drewN | apply below_drew1) | exact HB.out)) hb); have n1_ := qM (hbox); have n2_ := qM ((by rw [hg]; exact (below_size (by repeat (first | (with_reducible first | exact HB.out | apply below_alloc | apply pw_below_drewN | apply below_drew1) | exact HB.out))) : w.heap.size ≤ gb159)); have n3_ := qM ((by rw [hg]; exact (below_size (by repeat (first | (with_reducible first | exact HB.out | apply below_alloc | apply pw_below_drewN | apply below_drew1) | exact HB.out))) : w.heap.size ≤ gb159)); clear HB; have HB := n0_; have BK159 := n1_; have GW159 := n2_; have GE159 := n3_; clear n0_ n1_ n2_ n3_; clear hb hbox hg) | ((with_reducible refine gate_dst (N := 3) rfl ?_); (try (refine gate_guard (by rfl) ?_; dsimp only)); refine box_event ?hg (N := 3) ?hd (cs := #[.int .i64 a1_0, .int .i64 a1_1, .slice A1_2 l1_2.length c1_2]) (t := 24) ?hr ?_; (case hd => rfl); (case hg => rfl); (case hr => first | (go_simp; done) | (go_simp; rfl)); intro gb160 hg w5 hbox hb; have n0_ := qM (blk_below (g := gb159) (o := .cells #[.int .i64 a0_0, .int .i64 a0_1, .slice A0_2 l0_2.length c0_2] 24 (0, 0)) (by (with_reducible repeat (first | apply bN | apply bD | apply bA)); exact BK159.out) hb); have n1_ := qM (below_step (by repeat (first | (with_reducible first | exact HB.out | apply below_alloc | apply pw_below_drewN | apply below_drew1 | refine below_set ?_ GE159.out) | exact HB.out)) hb); have n2_ := qM (hbox); have n3_ := qM ((by rw [hg]; exact (below_size (by repeat (first | (with_reducible first | exact HB.out | apply below_alloc | apply pw_below_drewN | apply below_drew1 | refine below_set ?_ GE159.out) | exact HB.out))) : w.heap.size ≤ gb160)); have n4_ := qM ((by rw [hg]; exact (below_size (by repeat (first | (with_reducible first | exact HB.out | apply below_alloc | apply pw_below_drewN | apply below_drew1 | refine below_set ?_ GE159.out) | exact HB.out))) : w.heap.size ≤ gb160)); have n5_ := qM ((by rw [hg]; exact Nat.ne_of_lt (blk_lt (g := gb159) (o := .cells #[.int .i64 a0_0, .int .i64 a0_1, .slice A0_2 l0_2.length c0_2] 24 (0, 0)) (by (with_reducible repeat (first | apply bN | apply bD | apply bA)); exact BK159.out)) : gb159 ≠ gb160)); have n6_ := qM ((by rw [hg]; exact Nat.ne_of_gt (blk_lt (g := gb159) (o := .cells #[.int .i64 a0_0, .int .i64 a0_1, .slice A0_2 l0_2.length c0_2] 24 (0, 0)) (by (with_reducible repeat (first | apply bN | apply bD | apply bA)); exact BK159.out)) : gb160 ≠ gb159)); clear BK159; clear HB; have BK159 := n0_; have HB := n1_; have BK160 := n2_; have GW160 := n3_; have GE160 := n4_; have NB159_160 := n5_; have NB160_159 := n6_; clear n0_ n1_ n2_ n3_ n4_ n5_ n6_; clear hb hbox hg))
 repeat (go_quiet (first | ((with_reducible refine gate_dst (N := 2) rfl ?_); (try (refine gate_guard (by rfl) ?_; dsimp only)); refine box_event ?hg (N := 2) ?hd (cs := #[.int .i64 a0_0, .int .i64 a0_1, .slice A0_2 l0_2.length c0_2]) (t := 24) ?hr ?_; (case hd => rfl); (case hg => rfl); (case hr => first | (go_simp; done) | (go_simp; rfl)); intro gb159 hg w4 hbox hb; have n0_ := qM (below_step (by repeat (first | (with_reducible first | exact HB.out | apply below_alloc | apply pw_below_drewN | apply below_drew1) | exact HB.out)) hb); have n1_ := qM (hbox); have n2_ := qM ((by rw [hg]; exact (below_size (by repeat (first | (with_reducible first | exact HB.out | apply below_alloc | apply pw_below_drewN | apply below_drew1) | exact HB.out))) : w.heap.size ≤ gb159)); have n3_ := qM ((by rw [hg]; exact (below_size (by repeat (first | (with_reducible first | exact HB.out | apply below_alloc | apply pw_below_drewN | apply below_drew1) | exact HB.out))) : w.heap.size ≤ gb159)); clear HB; have HB := n0_; have BK159 := n1_; have GW159 := n2_; have GE159 := n3_; clear n0_ n1_ n2_ n3_; clear hb hbox hg) | ((with_reducible refine gate_dst (N := 3) rfl ?_); (try (refine gate_guard (by rfl) ?_; dsimp only)); refine box_event ?hg (N := 3) ?hd (cs := #[.int .i64 a1_0, .int .i64 a1_1, .slice A1_2 l1_2.length c1_2]) (t := 24) ?hr ?_; (case hd => rfl); (case hg => rfl); (case hr => first | (go_simp; done) | (go_simp; rfl)); intro gb160 hg w5 hbox hb; have n0_ := qM (blk_below (g := gb159) (o := .cells #[.int .i64 a0_0, .int .i64 a0_1, .slice A0_2 l0_2.length c0_2] 24 (0, 0)) (by (with_reducible repeat (first | apply bN | apply bD | apply bA)); exact BK159.out) hb); have n1_ := qM (below_step (by repeat (first | (with_reducible first | exact HB.out | apply below_alloc | apply pw_below_drewN | apply below_drew1 | refine below_set ?_ GE159.out) | exact HB.out)) hb); have n2_ := qM (hbox); have n3_ := qM ((by rw [hg]; exact (below_size (by repeat (first | (with_reducible first | exact HB.out | apply below_alloc | apply pw_below_drewN | apply below_drew1 | refine below_set ?_ GE159.out) | exact HB.out))) : w.heap.size ≤ gb160)); have n4_ := qM ((by rw [hg]; exact (below_size (by repeat (first | (with_reducible first | exact HB.out | apply below_alloc | apply pw_below_drewN | apply below_drew1 | refine below_set ?_ GE159.out) | exact HB.out))) : w.heap.size ≤ gb160)); have n5_ := qM ((by rw [hg]; exact Nat.ne_of_lt (blk_lt (g := gb159) (o := .cells #[.int .i64 a0_0, .int .i64 a0_1, .slice A0_2 l0_2.length c0_2] 24 (0, 0)) (by (with_reducible repeat (first | apply bN | apply bD | apply bA)); exact BK159.out)) : gb159 ≠ gb160)); have n6_ := qM ((by rw [hg]; exact Nat.ne_of_gt (blk_lt (g := gb159) (o := .cells #[.int .i64 a0_0, .int .i64 a0_1, .slice A0_2 l0_2.length c0_2] 24 (0, 0)) (by (with_reducible repeat (first | apply bN | apply bD | apply bA)); exact BK159.out)) : gb160 ≠ gb159)); clear BK159; clear HB; have BK159 := n0_; have HB := n1_; have BK160 := n2_; have GW160 := n3_; have GE160 := n4_; have NB159_160 := n5_; have NB160_159 := n6_; clear n0_ n1_ n2_ n3_ n4_ n5_ n6_; clear hb hbox hg)); go_upto_region 1 with (first | ((with_reducible refine gate_dst (N := 2) rfl ?_); (try (refine gate_guard (by rfl) ?_; dsimp only)); refine box_event ?hg (N := 2) ?hd (cs := #[.int .i64 a0_0, .int .i64 a0_1, .slice A0_2 l0_2.length c0_2]) (t := 24) ?hr ?_; (case hd => rfl); (case hg => rfl); (case hr => first | (go_simp; done) | (go_simp; rfl)); intro gb159 hg w4 hbox hb; have n0_ := qM (below_step (by repeat (first | (with_reducible first | exact HB.out | apply below_alloc | apply pw_below_drewN | apply below_drew1) | exact HB.out)) hb); have n1_ := qM (hbox); have n2_ := qM ((by rw [hg]; exact (below_size (by repeat (first | (with_reducible first | exact HB.out | apply below_alloc | apply pw_below_drewN | apply below_drew1) | exact HB.out))) : w.heap.size ≤ gb159)); have n3_ := qM ((by rw [hg]; exact (below_size (by repeat (first | (with_reducible first | exact HB.out | apply below_alloc | apply pw_below_drewN | apply below_drew1) | exact HB.out))) : w.heap.size ≤ gb159)); clear HB; have HB := n0_; have BK159 := n1_; have GW159 := n2_; have GE159 := n3_; clear n0_ n1_ n2_ n3_; clear hb hbox hg) | ((with_reducible refine gate_dst (N := 3) rfl ?_); (try (refine gate_guard (by rfl) ?_; dsimp only)); refine box_event ?hg (N := 3) ?hd (cs := #[.int .i64 a1_0, .int .i64 a1_1, .slice A1_2 l1_2.length c1_2]) (t := 24) ?hr ?_; (case hd => rfl); (case hg => rfl); (case hr => first | (go_simp; done) | (go_simp; rfl)); intro gb160 hg w5 hbox hb; have n0_ := qM (blk_below (g := gb159) (o := .cells #[.int .i64 a0_0, .int .i64 a0_1, .slice A0_2 l0_2.length c0_2] 24 (0, 0)) (by (with_reducible repeat (first | apply bN | apply bD | apply bA)); exact BK159.out) hb); have n1_ := qM (below_step (by repeat (first | (with_reducible first | exact HB.out | apply below_alloc | apply pw_below_drewN | apply below_drew1 | refine below_set ?_ GE159.out) | exact HB.out)) hb); have n2_ := qM (hbox); have n3_ := qM ((by rw [hg]; exact (below_size (by repeat (first | (with_reducible first | exact HB.out | apply below_alloc | apply pw_below_drewN | apply below_drew1 | refine below_set ?_ GE159.out) | exact HB.out))) : w.heap.size ≤ gb160)); have n4_ := qM ((by rw [hg]; exact (below_size (by repeat (first | (with_reducible first | exact HB.out | apply below_alloc | apply pw_below_drewN | apply below_drew1 | refine below_set ?_ GE159.out) | exact HB.out))) : w.heap.size ≤ gb160)); have n5_ := qM ((by rw [hg]; exact Nat.ne_of_lt (blk_lt (g := gb159) (o := .cells #[.int .i64 a0_0, .int .i64 a0_1, .slice A0_2 l0_2.length c0_2] 24 (0, 0)) (by (with_reducible repeat (first | apply bN | apply bD | apply bA)); exact BK159.out)) : gb159 ≠ gb160)); have n6_ := qM ((by rw [hg]; exact Nat.ne_of_gt (blk_lt (g := gb159) (o := .cells #[.int .i64 a0_0, .int .i64 a0_1, .slice A0_2 l0_2.length c0_2] 24 (0, 0)) (by (with_reducible repeat (first | apply bN | apply bD | apply bA)); exact BK159.out)) : gb160 ≠ gb159)); clear BK159; clear HB; have BK159 := n0_; have HB := n1_; have BK160 := n2_; have GW160 := n3_; have GE160 := n4_; have NB159_160 := n5_; have NB160_159 := n6_; clear n0_ n1_ n2_ n3_ n4_ n5_ n6_; clear hb hbox hg)))
 (try simp only [Act.put, List.setIfInBounds_toArray, List.set_cons_zero, List.set_cons_succ])
 go_cut [26] (fun v26 wc => ∃ (kq : Nat) (x26_2 : Bool), v26 = .bool x26_2 ∧ Aside0 (meterref17_Same.j0 kq x26_2 a0_0 a0_1 l0_2 a1_0 a1_1 l1_2 = some r) ∧ Aside0 (kq ≤ k) ∧ Aside0 (wc.heap[gb159]? = some (.cells #[.int .i64 a0_0, .int .i64 a0_1, (.slice A0_2 l0_2.length c0_2)] 24 (0, 0))) ∧ Aside0 (wc.heap[gb160]? = some (.cells #[.int .i64 a1_0, .int .i64 a1_1, (.slice A1_2 l1_2.length c1_2)] 24 (0, 0))) ∧ Aside0 (Below w.heap.size w wc))
 case first =>
  have H := HC3.out
  clear HC3
  by_cases c6 : a0_0 = a1_0
  · rw [if_pos c6] at H
    have c6b0 : (a0_0 == a1_0) = true := beq_iff_eq.mpr c6
    have c6b1 : (a0_0 != a1_0) = false := bne_eq_false_iff_eq.mpr c6
    clear c6
    (first | rw [c6b0] | (simp only [i64_w, i32_w]; rw [c6b0]) | skip)
    by_cases c7 : a0_1 = a1_1
    · rw [if_pos c7] at H
      have c7b0 : (a0_1 == a1_1) = true := beq_iff_eq.mpr c7
      have c7b1 : (a0_1 != a1_1) = false := bne_eq_false_iff_eq.mpr c7
      clear c7
      have H' := qM H
      clear H
      have hnb8 := NB159_160.out
      have hnc8 := NB160_159.out
      have hcz9_0 : w5.cell? ⟨gb159, 0, none⟩ = some (.int .i64 a0_0) := (blk_cell BK159.out 0).trans rfl
      have hcz9_1 : w5.cell? ⟨gb159, 1, none⟩ = some (.int .i64 a0_1) := (blk_cell BK159.out 1).trans rfl
      have hcz9_2 : w5.cell? ⟨gb159, 2, none⟩ = some (.slice A0_2 l0_2.length c0_2) := (blk_cell BK159.out 2).trans rfl
      have hfz9_0 := blk_frozen BK159.out 0
      have hfz9_1 := blk_frozen BK159.out 1
      have hfz9_2 := blk_frozen BK159.out 2
      have hcz10_0 : w5.cell? ⟨gb160, 0, none⟩ = some (.int .i64 a1_0) := (blk_cell BK160.out 0).trans rfl
      have hcz10_1 : w5.cell? ⟨gb160, 1, none⟩ = some (.int .i64 a1_1) := (blk_cell BK160.out 1).trans rfl
      have hcz10_2 : w5.cell? ⟨gb160, 2, none⟩ = some (.slice A1_2 l1_2.length c1_2) := (blk_cell BK160.out 2).trans rfl
      have hfz10_0 := blk_frozen BK160.out 0
      have hfz10_1 := blk_frozen BK160.out 1
      have hfz10_2 := blk_frozen BK160.out 2
      go_wp2
      repeat (go_quiet (fail); try go_wp2)
      go_meet
      case rel => exact ⟨_, (((l0_2.length : Int) != (l1_2.length : Int))), (by first | rfl | (simp; done) | (simp [*]; done) | (congr 1; simp only [eq_iff_iff, iff_true, ByteArray.size_append] at *; unfold wrap64; omega) | (congr 2; simp only [eq_iff_iff, iff_true, ByteArray.size_append] at *; unfold wrap64; omega)), H', ⟨by first | omega | exact Nat.le_refl _⟩, ⟨by (with_reducible repeat (first | apply bN | apply bD | apply bA)); exact BK159.out⟩, ⟨by (with_reducible repeat (first | apply bN | apply bD | apply bA)); exact BK160.out⟩, ⟨by repeat (first | (with_reducible first | exact HB.out | apply below_alloc | apply pw_below_drewN | apply below_drew1 | refine below_set ?_ GE159.out | refine below_set ?_ GE160.out) | exact HB.out)⟩⟩
    rw [if_neg c7] at H
    have c7b0 : (a0_1 == a1_1) = false := beq_eq_false_iff_ne.mpr c7
    have c7b1 : (a0_1 != a1_1) = true := bne_iff_ne.mpr c7
    have H' := qM H
    clear H
    have hnb11 := NB159_160.out
    have hnc11 := NB160_159.out
    have hcz12_0 : w5.cell? ⟨gb159, 0, none⟩ = some (.int .i64 a0_0) := (blk_cell BK159.out 0).trans rfl
    have hcz12_1 : w5.cell? ⟨gb159, 1, none⟩ = some (.int .i64 a0_1) := (blk_cell BK159.out 1).trans rfl
    have hcz12_2 : w5.cell? ⟨gb159, 2, none⟩ = some (.slice A0_2 l0_2.length c0_2) := (blk_cell BK159.out 2).trans rfl
    have hfz12_0 := blk_frozen BK159.out 0
    have hfz12_1 := blk_frozen BK159.out 1
    have hfz12_2 := blk_frozen BK159.out 2
    have hcz13_0 : w5.cell? ⟨gb160, 0, none⟩ = some (.int .i64 a1_0) := (blk_cell BK160.out 0).trans rfl
    have hcz13_1 : w5.cell? ⟨gb160, 1, none⟩ = some (.int .i64 a1_1) := (blk_cell BK160.out 1).trans rfl
    have hcz13_2 : w5.cell? ⟨gb160, 2, none⟩ = some (.slice A1_2 l1_2.length c1_2) := (blk_cell BK160.out 2).trans rfl
    have hfz13_0 := blk_frozen BK160.out 0
    have hfz13_1 := blk_frozen BK160.out 1
    have hfz13_2 := blk_frozen BK160.out 2
    go_wp2
    repeat (go_quiet (fail); try go_wp2)
    go_meet
    case rel => exact ⟨_, (true), (by first | rfl | (simp; done) | (simp [*]; done) | (congr 1; simp only [eq_iff_iff, iff_true, ByteArray.size_append] at *; unfold wrap64; omega) | (congr 2; simp only [eq_iff_iff, iff_true, ByteArray.size_append] at *; unfold wrap64; omega)), H', ⟨by first | omega | exact Nat.le_refl _⟩, ⟨by (with_reducible repeat (first | apply bN | apply bD | apply bA)); exact BK159.out⟩, ⟨by (with_reducible repeat (first | apply bN | apply bD | apply bA)); exact BK160.out⟩, ⟨by repeat (first | (with_reducible first | exact HB.out | apply below_alloc | apply pw_below_drewN | apply below_drew1 | refine below_set ?_ GE159.out | refine below_set ?_ GE160.out) | exact HB.out)⟩⟩
  rw [if_neg c6] at H
  have c6b0 : (a0_0 == a1_0) = false := beq_eq_false_iff_ne.mpr c6
  have c6b1 : (a0_0 != a1_0) = true := bne_iff_ne.mpr c6
  (first | rw [c6b0] | (simp only [i64_w, i32_w]; rw [c6b0]) | skip)
  have H' := qM H
  clear H
  have hnb14 := NB159_160.out
  have hnc14 := NB160_159.out
  have hcz15_0 : w5.cell? ⟨gb159, 0, none⟩ = some (.int .i64 a0_0) := (blk_cell BK159.out 0).trans rfl
  have hcz15_1 : w5.cell? ⟨gb159, 1, none⟩ = some (.int .i64 a0_1) := (blk_cell BK159.out 1).trans rfl
  have hcz15_2 : w5.cell? ⟨gb159, 2, none⟩ = some (.slice A0_2 l0_2.length c0_2) := (blk_cell BK159.out 2).trans rfl
  have hfz15_0 := blk_frozen BK159.out 0
  have hfz15_1 := blk_frozen BK159.out 1
  have hfz15_2 := blk_frozen BK159.out 2
  have hcz16_0 : w5.cell? ⟨gb160, 0, none⟩ = some (.int .i64 a1_0) := (blk_cell BK160.out 0).trans rfl
  have hcz16_1 : w5.cell? ⟨gb160, 1, none⟩ = some (.int .i64 a1_1) := (blk_cell BK160.out 1).trans rfl
  have hcz16_2 : w5.cell? ⟨gb160, 2, none⟩ = some (.slice A1_2 l1_2.length c1_2) := (blk_cell BK160.out 2).trans rfl
  have hfz16_0 := blk_frozen BK160.out 0
  have hfz16_1 := blk_frozen BK160.out 1
  have hfz16_2 := blk_frozen BK160.out 2
  go_wp2
  repeat (go_quiet (fail); try go_wp2)
  go_meet
  case rel => exact ⟨_, (true), (by first | rfl | (simp; done) | (simp [*]; done) | (congr 1; simp only [eq_iff_iff, iff_true, ByteArray.size_append] at *; unfold wrap64; omega) | (congr 2; simp only [eq_iff_iff, iff_true, ByteArray.size_append] at *; unfold wrap64; omega)), H', ⟨by first | omega | exact Nat.le_refl _⟩, ⟨by (with_reducible repeat (first | apply bN | apply bD | apply bA)); exact BK159.out⟩, ⟨by (with_reducible repeat (first | apply bN | apply bD | apply bA)); exact BK160.out⟩, ⟨by repeat (first | (with_reducible first | exact HB.out | apply below_alloc | apply pw_below_drewN | apply below_drew1 | refine below_set ?_ GE159.out | refine below_set ?_ GE160.out) | exact HB.out)⟩⟩
 case rest =>
  clear HC3
  try clear c1
  try clear p2
  try clear c6
  try clear c6b0
  try clear c6b1
  try clear p6
  try clear c7
  try clear c7b0
  try clear c7b1
  try clear c8
  try clear c11
  try clear c14
  try clear hcz10_0
  try clear hcz10_1
  try clear hcz10_2
  try clear hcz12_0
  try clear hcz12_1
  try clear hcz12_2
  try clear hcz13_0
  try clear hcz13_1
  try clear hcz13_2
  try clear hcz15_0
  try clear hcz15_1
  try clear hcz15_2
  try clear hcz16_0
  try clear hcz16_1
  try clear hcz16_2
  try clear hcz9_0
  try clear hcz9_1
  try clear hcz9_2
  try clear hfz10_0
  try clear hfz10_1
  try clear hfz10_2
  try clear hfz12_0
  try clear hfz12_1
  try clear hfz12_2
  try clear hfz13_0
  try clear hfz13_1
  try clear hfz13_2
  try clear hfz15_0
  try clear hfz15_1
  try clear hfz15_2
  try clear hfz16_0
  try clear hfz16_1
  try clear hfz16_2
  try clear hfz9_0
  try clear hfz9_1
  try clear hfz9_2
  obtain ⟨kq, x26_2, rfl, HA, HJ2, BK159, BK160, HB⟩ := hcut
  cases kq with
  | zero => exact absurd HA.out (by simp [meterref17_Same.j0])
  | succ kj2 =>
   have H := HA.out
   clear HA
   simp only [meterref17_Same.j0] at H
   by_cases c17 : x26_2 = true
   · subst c17
     have H1 : (some false) = some r := by rw [if_pos rfl] at H; exact H
     clear H
     have H := H1
     clear H1
     obtain rfl := Option.some.inj H
     go_wp2
     repeat (go_quiet (fail); try go_wp2)
     go_ret
     exact ⟨by first | rfl | (simp [errW_none, errW_some] <;> rfl) | (simp [*, errW_none, errW_some] <;> rfl), by repeat (first | (with_reducible first | exact HB.out | apply below_alloc | apply pw_below_drewN | apply below_drew1 | refine below_set ?_ GE159.out | refine below_set ?_ GE160.out) | exact HB.out)⟩
   replace c17 := Bool.eq_false_iff.mpr c17
   subst c17
   have H1 : (meterref17_Same.l0 kj2 0 a0_0 a0_1 l0_2 a1_0 a1_1 l1_2) = some r := by rw [if_neg (show ¬ (false = true) by decide)] at H; exact H
   clear H
   have H := H1
   clear H1
   have H' := qM H
   clear H
   go_wp2
   repeat (go_quiet (fail); try go_wp2)
   go_loopg [5] kj2 (fun kq v5 w' => ∃ (x5_2 : Int), v5 = .int .i64 x5_2 ∧ Aside0 (meterref17_Same.l0 kq x5_2 a0_0 a0_1 l0_2 a1_0 a1_1 l1_2 = some r) ∧ Aside0 (kq ≤ kj2) ∧ Aside0 (w'.heap[gb159]? = some (.cells #[.int .i64 a0_0, .int .i64 a0_1, (.slice A0_2 l0_2.length c0_2)] 24 (0, 0))) ∧ Aside0 (w'.heap[gb160]? = some (.cells #[.int .i64 a1_0, .int .i64 a1_1, (.slice A1_2 l1_2.length c1_2)] 24 (0, 0))) ∧ Aside0 (Below w.heap.size w w'))
   case atStart => exact ⟨(0), (by first | rfl | (simp; done) | (simp [*]; done) | (congr 1; simp only [eq_iff_iff, iff_true, ByteArray.size_append] at *; unfold wrap64; omega) | (congr 2; simp only [eq_iff_iff, iff_true, ByteArray.size_append] at *; unfold wrap64; omega)), H', ⟨Nat.le_refl _⟩, ⟨by (with_reducible repeat (first | apply bN | apply bD | apply bA)); exact BK159.out⟩, ⟨by (with_reducible repeat (first | apply bN | apply bD | apply bA)); exact BK160.out⟩, ⟨by repeat (first | (with_reducible first | exact HB.out | apply below_alloc | apply pw_below_drewN | apply below_drew1 | refine below_set ?_ GE159.out | refine below_set ?_ GE160.out) | exact HB.out)⟩⟩
   case round =>
    clear H'
    try clear c1
    try clear p2
    try clear c6
    try clear c6b0
    try clear c6b1
    try clear p6
    try clear c7
    try clear c7b0
    try clear c7b1
    try clear c8
    try clear c11
    try clear c14
    try clear c17
    try clear hcz10_0
    try clear hcz10_1
    try clear hcz10_2
    try clear hcz12_0
    try clear hcz12_1
    try clear hcz12_2
    try clear hcz13_0
    try clear hcz13_1
    try clear hcz13_2
    try clear hcz15_0
    try clear hcz15_1
    try clear hcz15_2
    try clear hcz16_0
    try clear hcz16_1
    try clear hcz16_2
    try clear hcz9_0
    try clear hcz9_1
    try clear hcz9_2
    try clear hfz10_0
    try clear hfz10_1
    try clear hfz10_2
    try clear hfz12_0
    try clear hfz12_1
    try clear hfz12_2
    try clear hfz13_0
    try clear hfz13_1
    try clear hfz13_2
    try clear hfz15_0
    try clear hfz15_1
    try clear hfz15_2
    try clear hfz16_0
    try clear hfz16_1
    try clear hfz16_2
    try clear hfz9_0
    try clear hfz9_1
    try clear hfz9_2
    try clear p2
    try clear p6
    obtain ⟨x5_2, rfl, HA, HK2, BK159, BK160, HB⟩ := hrel
    cases gk with
    | zero => exact absurd HA.out (by simp [meterref17_Same.l0])
    | succ k2 =>
     have H := HA.out
     clear HA
     simp only [meterref17_Same.l0] at H
     by_cases c18 : x5_2 < (l0_2.length : Int)
     · rw [if_pos c18] at H
       have c18b0 : decide (x5_2 < (l0_2.length : Int)) = true := decide_eq_true c18
       clear c18
       by_cases c19 : 0 ≤ x5_2
       · rw [if_pos c19] at H
         have c19b0 : decide (0 ≤ x5_2) = true := decide_eq_true c19
         clear c19
         by_cases c20 : x5_2 < (l1_2.length : Int)
         · rw [if_pos c20] at H
           have c20b0 : decide (x5_2 < (l1_2.length : Int)) = true := decide_eq_true c20
           clear c20
           by_cases c21 : (rd l0_2 x5_2) = (rd l1_2 x5_2)
           · rw [if_pos c21] at H
             have c21b0 : ((rd l0_2 x5_2) == (rd l1_2 x5_2)) = true := beq_iff_eq.mpr c21
             have c21b1 : ((rd l0_2 x5_2) != (rd l1_2 x5_2)) = false := bne_eq_false_iff_eq.mpr c21
             clear c21
             have H' := qM H
             clear H
             have hnb22 := NB159_160.out
             have hnc22 := NB160_159.out
             have hcz23_0 : wr.cell? ⟨gb159, 0, none⟩ = some (.int .i64 a0_0) := (blk_cell BK159.out 0).trans rfl
             have hcz23_1 : wr.cell? ⟨gb159, 1, none⟩ = some (.int .i64 a0_1) := (blk_cell BK159.out 1).trans rfl
             have hcz23_2 : wr.cell? ⟨gb159, 2, none⟩ = some (.slice A0_2 l0_2.length c0_2) := (blk_cell BK159.out 2).trans rfl
             have hfz23_0 := blk_frozen BK159.out 0
             have hfz23_1 := blk_frozen BK159.out 1
             have hfz23_2 := blk_frozen BK159.out 2
             have p161 : 0 ≤ (x5_2 : Int) := of_decide_eq_true (by first | (with_reducible assumption) | assumption)
             have q161 : x5_2 < (l0_2.length : Int) := of_decide_eq_true (by first | (with_reducible assumption) | assumption)
             obtain ⟨ad161, e161, hx161_0⟩ := Kd.at_int HR0_2.out x5_2 p161 q161
             cases e161
             replace hx161_0 := (HB.out.cell (World.block_lt_of_cell? w _ hx161_0)).trans hx161_0
             replace p161 := eq_true p161
             replace q161 := eq_true q161
             have hcz24_0 : wr.cell? ⟨gb160, 0, none⟩ = some (.int .i64 a1_0) := (blk_cell BK160.out 0).trans rfl
             have hcz24_1 : wr.cell? ⟨gb160, 1, none⟩ = some (.int .i64 a1_1) := (blk_cell BK160.out 1).trans rfl
             have hcz24_2 : wr.cell? ⟨gb160, 2, none⟩ = some (.slice A1_2 l1_2.length c1_2) := (blk_cell BK160.out 2).trans rfl
             have hfz24_0 := blk_frozen BK160.out 0
             have hfz24_1 := blk_frozen BK160.out 1
             have hfz24_2 := blk_frozen BK160.out 2
             have p162 : 0 ≤ (x5_2 : Int) := of_decide_eq_true (by first | (with_reducible assumption) | assumption)
             have q162 : x5_2 < (l1_2.length : Int) := of_decide_eq_true (by first | (with_reducible assumption) | assumption)
             obtain ⟨ad162, e162, hx162_0⟩ := Kd.at_int HR1_2.out x5_2 p162 q162
             cases e162
             replace hx162_0 := (HB.out.cell (World.block_lt_of_cell? w _ hx162_0)).trans hx162_0
             replace p162 := eq_true p162
             replace q162 := eq_true q162
             go_wp2
             repeat (go_quiet (fail); try go_wp2)
             go_roundg k2
             case measure => have := HJ2.out; have := HK2.out; omega
             case rel => exact ⟨(wrap64 (x5_2 + 1)), (by first | rfl | (simp; done) | (simp [*]; done) | (congr 1; simp only [eq_iff_iff, iff_true, ByteArray.size_append] at *; unfold wrap64; omega) | (congr 2; simp only [eq_iff_iff, iff_true, ByteArray.size_append] at *; unfold wrap64; omega)), H', ⟨by have := HJ2.out; have := HK2.out; omega⟩, ⟨by (with_reducible repeat (first | apply bN | apply bD | apply bA)); exact BK159.out⟩, ⟨by (with_reducible repeat (first | apply bN | apply bD | apply bA)); exact BK160.out⟩, ⟨by repeat (first | (with_reducible first | exact HB.out | apply below_alloc | apply pw_below_drewN | apply below_drew1 | refine below_set ?_ GE159.out | refine below_set ?_ GE160.out) | exact HB.out)⟩⟩
           rw [if_neg c21] at H
           have c21b0 : ((rd l0_2 x5_2) == (rd l1_2 x5_2)) = false := beq_eq_false_iff_ne.mpr c21
           have c21b1 : ((rd l0_2 x5_2) != (rd l1_2 x5_2)) = true := bne_iff_ne.mpr c21
           obtain rfl := Option.some.inj H
           have hnb25 := NB159_160.out
           have hnc25 := NB160_159.out
           have hcz26_0 : wr.cell? ⟨gb159, 0, none⟩ = some (.int .i64 a0_0) := (blk_cell BK159.out 0).trans rfl
           have hcz26_1 : wr.cell? ⟨gb159, 1, none⟩ = some (.int .i64 a0_1) := (blk_cell BK159.out 1).trans rfl
           have hcz26_2 : wr.cell? ⟨gb159, 2, none⟩ = some (.slice A0_2 l0_2.length c0_2) := (blk_cell BK159.out 2).trans rfl
           have hfz26_0 := blk_frozen BK159.out 0
           have hfz26_1 := blk_frozen BK159.out 1
           have hfz26_2 := blk_frozen BK159.out 2
           have p161 : 0 ≤ (x5_2 : Int) := of_decide_eq_true (by first | (with_reducible assumption) | assumption)
           have q161 : x5_2 < (l0_2.length : Int) := of_decide_eq_true (by first | (with_reducible assumption) | assumption)
           obtain ⟨ad161, e161, hx161_0⟩ := Kd.at_int HR0_2.out x5_2 p161 q161
           cases e161
           replace hx161_0 := (HB.out.cell (World.block_lt_of_cell? w _ hx161_0)).trans hx161_0
           replace p161 := eq_true p161
           replace q161 := eq_true q161
           have hcz27_0 : wr.cell? ⟨gb160, 0, none⟩ = some (.int .i64 a1_0) := (blk_cell BK160.out 0).trans rfl
           have hcz27_1 : wr.cell? ⟨gb160, 1, none⟩ = some (.int .i64 a1_1) := (blk_cell BK160.out 1).trans rfl
           have hcz27_2 : wr.cell? ⟨gb160, 2, none⟩ = some (.slice A1_2 l1_2.length c1_2) := (blk_cell BK160.out 2).trans rfl
           have hfz27_0 := blk_frozen BK160.out 0
           have hfz27_1 := blk_frozen BK160.out 1
           have hfz27_2 := blk_frozen BK160.out 2
           have p162 : 0 ≤ (x5_2 : Int) := of_decide_eq_true (by first | (with_reducible assumption) | assumption)
           have q162 : x5_2 < (l1_2.length : Int) := of_decide_eq_true (by first | (with_reducible assumption) | assumption)
           obtain ⟨ad162, e162, hx162_0⟩ := Kd.at_int HR1_2.out x5_2 p162 q162
           cases e162
           replace hx162_0 := (HB.out.cell (World.block_lt_of_cell? w _ hx162_0)).trans hx162_0
           replace p162 := eq_true p162
           replace q162 := eq_true q162
           go_wp2
           repeat (go_quiet (fail); try go_wp2)
           go_ret
           exact ⟨by first | rfl | (simp [errW_none, errW_some] <;> rfl) | (simp [*, errW_none, errW_some] <;> rfl), by repeat (first | (with_reducible first | exact HB.out | apply below_alloc | apply pw_below_drewN | apply below_drew1 | refine below_set ?_ GE159.out | refine below_set ?_ GE160.out) | exact HB.out)⟩
         rw [if_neg c20] at H
         exact absurd H (by simp)
       rw [if_neg c19] at H
       exact absurd H (by simp)
     rw [if_neg c18] at H
     have c18b0 : decide (x5_2 < (l0_2.length : Int)) = false := decide_eq_false c18
     clear c18
     obtain rfl := Option.some.inj H
     have hnb28 := NB159_160.out
     have hnc28 := NB160_159.out
     have hcz29_0 : wr.cell? ⟨gb159, 0, none⟩ = some (.int .i64 a0_0) := (blk_cell BK159.out 0).trans rfl
     have hcz29_1 : wr.cell? ⟨gb159, 1, none⟩ = some (.int .i64 a0_1) := (blk_cell BK159.out 1).trans rfl
     have hcz29_2 : wr.cell? ⟨gb159, 2, none⟩ = some (.slice A0_2 l0_2.length c0_2) := (blk_cell BK159.out 2).trans rfl
     have hfz29_0 := blk_frozen BK159.out 0
     have hfz29_1 := blk_frozen BK159.out 1
     have hfz29_2 := blk_frozen BK159.out 2
     go_wp2
     repeat (go_quiet (fail); try go_wp2)
     go_ret
     exact ⟨by first | rfl | (simp [errW_none, errW_some] <;> rfl) | (simp [*, errW_none, errW_some] <;> rfl), by repeat (first | (with_reducible first | exact HB.out | apply below_alloc | apply pw_below_drewN | apply below_drew1 | refine below_set ?_ GE159.out | refine below_set ?_ GE160.out) | exact HB.out)⟩
end Go.Proofs.Ytojedfmmijglnaa.PSpreadTells

