/- Traces (package trace): Tell. -/
import Derived.Test.YtglccegihffndaaTrc5
namespace Go.Proofs.Ytglccegihffndaa.PTracePlays
open Go.RowKit Go.Proofs.YtglccegihffndaaW.PrintWords Go.Proofs.YtglccegihffndaaW.PrintLast Go.Proofs.YtglccegihffndaaW.PrintMore
open Go.Proofs.YtglccegihffndaaO
attribute [local go_sem] max2_int min2_int max_two min_two max_three min_three max_four min_four
set_option linter.unusedVariables false
set_option linter.unusedSimpArgs false
abbrev outV (x : S44) : Array Value := #[.string x.f0, .int .i64 x.f1, .int .i64 x.f2.f0, .int .i64 x.f2.f1, .int .i64 x.f2.f2, .int .i64 x.f2.f3, .int .i64 x.f2.f4.f0, .int .i64 x.f2.f4.f1, .int .i64 x.f2.f4.f2, .int .i64 x.f2.f4.f3]
/-- A window is stored into a place of its own. -/
theorem tell_store {w0 wb : World} {L : List Asn} {gb t : Nat} {z : Value} (x0 : ByteArray) (x1 x2 x3 x4 x5 x6 x7 x8 x9 : Int) (h : Own w0 wb (Blk gb (.cells #[z, .int .i64 0, .int .i64 0, .int .i64 0, .int .i64 0, .int .i64 0, .int .i64 0, .int .i64 0, .int .i64 0, .int .i64 0] t (0, 0)) :: L)) : Own w0 ((((((((((wb.setCell ⟨gb, 0, none⟩ (.string x0)).setCell ⟨gb, 1, none⟩ (.int .i64 x1)).setCell ⟨gb, 2, none⟩ (.int .i64 x2)).setCell ⟨gb, 3, none⟩ (.int .i64 x3)).setCell ⟨gb, 4, none⟩ (.int .i64 x4)).setCell ⟨gb, 5, none⟩ (.int .i64 x5)).setCell ⟨gb, 6, none⟩ (.int .i64 x6)).setCell ⟨gb, 7, none⟩ (.int .i64 x7)).setCell ⟨gb, 8, none⟩ (.int .i64 x8)).setCell ⟨gb, 9, none⟩ (.int .i64 x9)) (Blk gb (.cells #[.string x0, .int .i64 x1, .int .i64 x2, .int .i64 x3, .int .i64 x4, .int .i64 x5, .int .i64 x6, .int .i64 x7, .int .i64 x8, .int .i64 x9] t (0, 0)) :: L) := by
  have h1 := ((((((((((h.set 0 (.string x0)).set 1 (.int .i64 x1)).set 2 (.int .i64 x2)).set 3 (.int .i64 x3)).set 4 (.int .i64 x4)).set 5 (.int .i64 x5)).set 6 (.int .i64 x6)).set 7 (.int .i64 x7)).set 8 (.int .i64 x8)).set 9 (.int .i64 x9))
  simpa using h1
section
variable {w0 w w' : World} {R : List Asn} {g : Nat} {ss : List (List TO × List TA)}
/-- An element of a row of windows. -/
theorem out_at {w : World} {A : Option Addr} {l : List S44} (h : Kd.C k44 w A l.length l) (k : Nat) (x : S44) (hx : l[k]? = some x) : ∃ ad, A = some ad ∧ w.cell? (ad.add (k * 10)) = some (.string x.f0) ∧ w.cell? ⟨(ad.add (k * 10)).block, (ad.add (k * 10)).off + 1, none⟩ = some (.int .i64 x.f1) ∧ w.cell? ⟨(ad.add (k * 10)).block, (ad.add (k * 10)).off + 2, none⟩ = some (.int .i64 x.f2.f0) ∧ w.cell? ⟨(ad.add (k * 10)).block, (ad.add (k * 10)).off + 3, none⟩ = some (.int .i64 x.f2.f1) ∧ w.cell? ⟨(ad.add (k * 10)).block, (ad.add (k * 10)).off + 4, none⟩ = some (.int .i64 x.f2.f2) ∧ w.cell? ⟨(ad.add (k * 10)).block, (ad.add (k * 10)).off + 5, none⟩ = some (.int .i64 x.f2.f3) ∧ w.cell? ⟨(ad.add (k * 10)).block, (ad.add (k * 10)).off + 6, none⟩ = some (.int .i64 x.f2.f4.f0) ∧ w.cell? ⟨(ad.add (k * 10)).block, (ad.add (k * 10)).off + 7, none⟩ = some (.int .i64 x.f2.f4.f1) ∧ w.cell? ⟨(ad.add (k * 10)).block, (ad.add (k * 10)).off + 8, none⟩ = some (.int .i64 x.f2.f4.f2) ∧ w.cell? ⟨(ad.add (k * 10)).block, (ad.add (k * 10)).off + 9, none⟩ = some (.int .i64 x.f2.f4.f3) := by
  have hk := (List.getElem?_eq_some_iff.1 hx).1
  have := at_T44 h (k : Int) (by omega) (by omega)
  have hrd : rd_T44 l (k : Int) = x := by unfold rd_T44; rw [Int.toNat_natCast, List.getD_eq_getElem?_getD, hx]; rfl
  rw [hrd, Int.toNat_natCast] at this
  exact this
/-- What Tell's loads read. -/
theorem tell_S {w : World} {u : Value} {qs : List (Value × Value)} {P2 P3 P4 : Asn} (b gb i : Nat) (x0 : ByteArray) (x1 x2 x3 x4 x5 x6 x7 x8 x9 : Int) (h : Own w0 w (Blk gb (.cells #[.string x0, .int .i64 x1, .int .i64 x2, .int .i64 x3, .int .i64 x4, .int .i64 x5, .int .i64 x6, .int .i64 x7, .int .i64 x8, .int .i64 x9] 44 (0, 0)) :: P2 :: P3 :: P4 :: Blk g (.cells #[.slice (some ⟨b, 0, none⟩) ss.length ss.length] 55 (0, 0)) :: Blk b (.cells (cellsV qs).toArray 68 (0, 0)) :: R)) (hz : (cellsV qs)[i * 2]? = some u) :
    w.cell? ⟨b, i * 2, none⟩ = some u ∧ (w.cell? ⟨gb, 0, none⟩ = some (.string x0) ∧ w.cell? ⟨gb, 1, none⟩ = some (.int .i64 x1) ∧ w.cell? ⟨gb, 2, none⟩ = some (.int .i64 x2) ∧ w.cell? ⟨gb, 3, none⟩ = some (.int .i64 x3) ∧ w.cell? ⟨gb, 4, none⟩ = some (.int .i64 x4) ∧ w.cell? ⟨gb, 5, none⟩ = some (.int .i64 x5) ∧ w.cell? ⟨gb, 6, none⟩ = some (.int .i64 x6) ∧ w.cell? ⟨gb, 7, none⟩ = some (.int .i64 x7) ∧ w.cell? ⟨gb, 8, none⟩ = some (.int .i64 x8) ∧ w.cell? ⟨gb, 9, none⟩ = some (.int .i64 x9)) := by
  have y := h.at0
  exact ⟨(blk_cell h.r5.at0 (i * 2)).trans (by simpa using hz), (blk_cell y 0).trans rfl, (blk_cell y 1).trans rfl, (blk_cell y 2).trans rfl, (blk_cell y 3).trans rfl, (blk_cell y 4).trans rfl, (blk_cell y 5).trans rfl, (blk_cell y 6).trans rfl, (blk_cell y 7).trans rfl, (blk_cell y 8).trans rfl, (blk_cell y 9).trans rfl⟩
set_option maxHeartbeats 4000000 in
set_option maxRecDepth 100000 in
theorem TrTell_in (h : Own w0 w (Tr g ss :: R)) (i : Nat) (s : List TO × List TA) (hs : ss[i]? = some s) (node epoch : Int) (A : Option Addr) (n c : Nat) (l : List S44) (hn : l.length = n) (hl : s.1.length + n ≤ 1000000000) (hrd : ∀ v, Own w0 v R → Kd.C k44 v A l.length l) : Calls Try.prog 13 #[.pointer (some ⟨g, 0, none⟩), .int .i64 i, .int .i64 node, .int .i64 epoch, .slice A n c] w fun e w' => e = .returned (.int .i64 0) ∧ Own w0 w' (Tr g (ss.set i (s.1 ++ l.map (fun x => ⟨x, node, epoch⟩), s.2)) :: R) := by
  subst hn
  obtain ⟨b, ps, hf, h2⟩ := tr_open h
  have hi := (List.getElem?_eq_some_iff.1 hs).1
  have hp : ps[i]? = some ps[i] := List.getElem?_eq_getElem (by omega)
  have z := cellsV_at ps i _ hp
  have h3 := rows_take i hp hs h2.r2
  generalize ps[i] = p at hp z h3
  obtain ⟨v1, v2⟩ := p
  have H := Aside0.mk h3
  have HI := Aside0.mk hi
  have HL := Aside0.mk hl
  have hfi := add_at b
  have HP := Aside0.mk hp
  have HF := Aside0.mk hf
  have HR := Aside0.mk hrd
  have hM : l.length ≤ 9223372036854775807 := by omega
  clear h h2 h3 hi hl z hp hf hs hrd
  go_enter Try.func13, Try.ntmps13
  go_wp2_with (first
    | (go_at_call 18; ((with_reducible refine (find_in b (H.out.r3) i HI.out).mono ?_)); rintro e w1 ⟨rfl, rfl⟩))
  go_loopw [26] (fun v26 wr => ∃ (k : Nat) (u : Value), k ≤ l.length ∧ v26 = .int .i64 k ∧ Aside0 (Own w0 wr (Row k46 46 u (s.1 ++ (l.take k).map (fun x => ⟨x, node, epoch⟩)) :: Row k48 48 v2 s.2 :: RowsV (ps.eraseIdx i) (ss.eraseIdx i) :: Blk g (.cells #[.slice (some ⟨b, 0, none⟩) ss.length ss.length] 55 (0, 0)) :: Blk b (.cells (cellsV (ps.set i (u, v2))).toArray 68 (0, 0)) :: R))) (fun v26 _ => l.length - (RowKit.intOf v26).toNat)
  case atStart => exact ⟨0, v1, Nat.zero_le _, rfl, ⟨by rw [set_same HP.out, List.take_zero, List.map_nil, List.append_nil]; exact H.out⟩⟩
  case round =>
    obtain ⟨k, u, hk, rfl, HO⟩ := hrel
    by_cases hlt : k < l.length
    · have hgk := List.getElem?_eq_getElem hlt
      generalize l[k] = x at hgk
      obtain ⟨ad, rfl, c0, c1, c2, c3, c4, c5, c6, c7, c8, c9⟩ := out_at (HR.out wr HO.out.tail.tail.tail.tail.tail) k x hgk
      obtain ⟨x0, x1, ⟨x2, x3, x4, x5, ⟨x6, x7, x8, x9⟩⟩⟩ := x
      dsimp only at c0 c1 c2 c3 c4 c5 c6 c7 c8 c9
      have HG := Aside0.mk hgk
      have HLT := Aside0.mk hlt
      have hdl : decide ((k : Int) < (l.length : Int)) = true := decide_eq_true (by omega)
      clear hgk
      go_wp2_with (first
        | ((with_reducible refine gate_dst (N := 14) rfl ?_); refine box_event ?hg (N := 14) ?hd (cs := #[.string ⟨#[]⟩, .int .i64 0, .int .i64 0, .int .i64 0, .int .i64 0, .int .i64 0, .int .i64 0, .int .i64 0, .int .i64 0, .int .i64 0]) (t := 44) ?hr ?_; (case hd => rfl); (case hg => rfl); (case hr => first | (go_simp; done) | (go_simp; rfl)); intro gb hg wb hbox hbb; have HX := Aside0.mk (HO.out.box hg hbox hbb); have hfr := blk_frozen hbox; have z0 := (blk_cell HX.out.at0 0).trans rfl; have z1 := (blk_cell HX.out.at0 1).trans rfl; have z2 := (blk_cell HX.out.at0 2).trans rfl; have z3 := (blk_cell HX.out.at0 3).trans rfl; have z4 := (blk_cell HX.out.at0 4).trans rfl; have z5 := (blk_cell HX.out.at0 5).trans rfl; have z6 := (blk_cell HX.out.at0 6).trans rfl; have z7 := (blk_cell HX.out.at0 7).trans rfl; have z8 := (blk_cell HX.out.at0 8).trans rfl; have z9 := (blk_cell HX.out.at0 9).trans rfl; clear hg hbb hbox c0 c1 c2 c3 c4 c5 c6 c7 c8 c9)
        | ((with_reducible refine gate_store (t := 44) (p := 14) rfl ?_); refine store_event (t := 44) (p := 14) (v := ?vo) (w1 := ((((((((((wb.setCell ⟨gb, 0, none⟩ (.string x0)).setCell ⟨gb, 1, none⟩ (.int .i64 x1)).setCell ⟨gb, 2, none⟩ (.int .i64 x2)).setCell ⟨gb, 3, none⟩ (.int .i64 x3)).setCell ⟨gb, 4, none⟩ (.int .i64 x4)).setCell ⟨gb, 5, none⟩ (.int .i64 x5)).setCell ⟨gb, 6, none⟩ (.int .i64 x6)).setCell ⟨gb, 7, none⟩ (.int .i64 x7)).setCell ⟨gb, 8, none⟩ (.int .i64 x8)).setCell ⟨gb, 9, none⟩ (.int .i64 x9))) ?hg ?ho ?hn ?hr ?_; (case ho => rfl); (case hg => rfl); (case hn => rfl); (case hr => first | (go_simp; done) | (go_simp; rfl)); intro wc hw; have HY := Aside0.mk (show Own w0 wc (Blk gb (.cells #[.string x0, .int .i64 x1, .int .i64 x2, .int .i64 x3, .int .i64 x4, .int .i64 x5, .int .i64 x6, .int .i64 x7, .int .i64 x8, .int .i64 x9] 44 (0, 0)) :: _) by rw [hw]; exact tell_store x0 x1 x2 x3 x4 x5 x6 x7 x8 x9 HX.out); have HD := Aside0.mk HY.out.drew; clear hw hfr z0 z1 z2 z3 z4 z5 z6 z7 z8 z9))
      have HZ := Aside0.mk (cellsV_at (ps.set i (u, v2)) i (u, v2) (by rw [List.getElem?_set_self (by have := (List.getElem?_eq_some_iff.1 HP.out).1; omega)])).1
      refine start_ (n := 14) (S := fun w' => w'.cell? ⟨b, i * 2, none⟩ = some u ∧ (w'.cell? ⟨gb, 0, none⟩ = some (.string x0) ∧ w'.cell? ⟨gb, 1, none⟩ = some (.int .i64 x1) ∧ w'.cell? ⟨gb, 2, none⟩ = some (.int .i64 x2) ∧ w'.cell? ⟨gb, 3, none⟩ = some (.int .i64 x3) ∧ w'.cell? ⟨gb, 4, none⟩ = some (.int .i64 x4) ∧ w'.cell? ⟨gb, 5, none⟩ = some (.int .i64 x5) ∧ w'.cell? ⟨gb, 6, none⟩ = some (.int .i64 x6) ∧ w'.cell? ⟨gb, 7, none⟩ = some (.int .i64 x7) ∧ w'.cell? ⟨gb, 8, none⟩ = some (.int .i64 x8) ∧ w'.cell? ⟨gb, 9, none⟩ = some (.int .i64 x9))) (ds := [13]) #[false, false, false, false, false, false, false, false, false, false, false, false, false, false] (by kernel_rfl) rfl rfl (tell_S b gb i x0 x1 x2 x3 x4 x5 x6 x7 x8 x9 HD.out HZ.out) (fun hHeld => ?_)
      generalize wc.drew = wd at HD hHeld ⊢
      refine pure_ (i := 0) (N := some 30) (v := ?_) (a' := ?_) #[true, false, false, false, false, false, false, false, false, false, false, false, false, false] rfl rfl (by kernel_rfl) (fun _ _ _ h => h) (Or.inl ⟨by rfl, ?_⟩) ?_ ?_
      rotate_left
      · intro w'
        go_simp
        with_reducible rfl
      rotate_left
      · simp only [Act.put, List.setIfInBounds_toArray, List.set_cons_zero, List.set_cons_succ, i64_w, i32_w]
        rfl
      refine pure_ (i := 1) (N := some 31) (v := ?_) (a' := ?_) #[true, true, false, false, false, false, false, false, false, false, false, false, false, false] rfl rfl (by kernel_rfl) (fun _ _ _ h => h) (Or.inl ⟨by rfl, ?_⟩) ?_ ?_
      rotate_left
      · intro w'
        go_simp
        with_reducible rfl
      rotate_left
      · simp only [Act.put, List.setIfInBounds_toArray, List.set_cons_zero, List.set_cons_succ, i64_w, i32_w]
        rfl
      refine pure_ (i := 2) (N := some 32) (v := ?_) (a' := ?_) #[true, true, true, false, false, false, false, false, false, false, false, false, false, false] rfl rfl (by kernel_rfl) (fun _ _ _ h => h) (Or.inl ⟨by rfl, ?_⟩) ?_ ?_
      rotate_left
      · intro w'
        go_simp
        with_reducible rfl
      rotate_left
      · simp only [Act.put, List.setIfInBounds_toArray, List.set_cons_zero, List.set_cons_succ, i64_w, i32_w]
        rfl
      refine pure_ (i := 3) (N := some 33) (v := ?_) (a' := ?_) #[true, true, true, true, false, false, false, false, false, false, false, false, false, false] rfl rfl (by kernel_rfl) (fun _ _ _ h => h) (Or.inl ⟨by rfl, ?_⟩) ?_ ?_
      rotate_left
      · intro w'
        go_simp
        with_reducible rfl
      rotate_left
      · simp only [Act.put, List.setIfInBounds_toArray, List.set_cons_zero, List.set_cons_succ, i64_w, i32_w]
        rfl
      refine take_ (i := 4) (N := some 34) (v := ?_) (a' := ?_) #[true, true, true, true, true, false, false, false, false, false, false, false, false, false] rfl rfl (by kernel_rfl) (fun _ _ _ h => h) (Or.inl ⟨by rfl, ?_⟩) hHeld ?_ ?_
      rotate_left
      · rintro w' ⟨s0, s1, s2, s3, s4, s5, s6, s7, s8, s9, s10⟩
        go_simp
        with_reducible rfl
      rotate_left
      · simp only [Act.put, List.setIfInBounds_toArray, List.set_cons_zero, List.set_cons_succ, i64_w, i32_w]
        rfl
      refine take_ (i := 5) (N := some 35) (v := ?_) (a' := ?_) #[true, true, true, true, true, true, false, false, false, false, false, false, false, false] rfl rfl (by kernel_rfl) (fun _ _ _ h => h) (Or.inl ⟨by rfl, ?_⟩) hHeld ?_ ?_
      rotate_left
      · rintro w' ⟨s0, s1, s2, s3, s4, s5, s6, s7, s8, s9, s10⟩
        go_simp
        with_reducible rfl
      rotate_left
      · simp only [Act.put, List.setIfInBounds_toArray, List.set_cons_zero, List.set_cons_succ, i64_w, i32_w]
        rfl
      refine pure_ (i := 6) (N := some 36) (v := ?_) (a' := ?_) #[true, true, true, true, true, true, true, false, false, false, false, false, false, false] rfl rfl (by kernel_rfl) (fun _ _ _ h => h) (Or.inl ⟨by rfl, ?_⟩) ?_ ?_
      rotate_left
      · intro w'
        go_simp
        with_reducible rfl
      rotate_left
      · simp only [Act.put, List.setIfInBounds_toArray, List.set_cons_zero, List.set_cons_succ, i64_w, i32_w]
        rfl
      refine pure_ (i := 7) (N := some 37) (v := ?_) (a' := ?_) #[true, true, true, true, true, true, true, true, false, false, false, false, false, false] rfl rfl (by kernel_rfl) (fun _ _ _ h => h) (Or.inl ⟨by rfl, ?_⟩) ?_ ?_
      rotate_left
      · intro w'
        go_simp
        with_reducible rfl
      rotate_left
      · simp only [Act.put, List.setIfInBounds_toArray, List.set_cons_zero, List.set_cons_succ, i64_w, i32_w]
        rfl
      refine pure_ (i := 8) (N := some 38) (v := ?_) (a' := ?_) #[true, true, true, true, true, true, true, true, true, false, false, false, false, false] rfl rfl (by kernel_rfl) (fun _ _ _ h => h) (Or.inl ⟨by rfl, ?_⟩) ?_ ?_
      rotate_left
      · intro w'
        go_simp
        with_reducible rfl
      rotate_left
      · simp only [Act.put, List.setIfInBounds_toArray, List.set_cons_zero, List.set_cons_succ, i64_w, i32_w]
        rfl
      refine one_ (i := 9) (N := some 39) #[true, true, true, true, true, true, true, true, true, true, false, false, false, false] rfl rfl (by kernel_rfl) (by decide) (fun K hK => ?_)
      refine value_ (w1 := ?_) (v := ?_) (by rfl) rfl ?_ ?_
      rotate_left 2
      · go_simp
        constructor
        · rfl
        · rfl
      refine hK.out _ _ (tell_S b gb i x0 x1 x2 x3 x4 x5 x6 x7 x8 x9 (HD.out.junk _) HZ.out) (fun hHeld => ?_)
      clear hK K
      refine norm_ (a' := ?_) ?_ ?_
      rotate_left
      · simp only [Act.put, List.setIfInBounds_toArray, List.set_cons_zero, List.set_cons_succ, i64_w, i32_w]
        rfl
      refine one_ (i := 10) (N := some 40) #[true, true, true, true, true, true, true, true, true, true, true, false, false, false] rfl rfl (by kernel_rfl) (by decide) (fun K hK => ?_)
      rw [if_pos (by rfl)]
      refine oper_of_list rfl ?_
      refine Own.append k46 rfl (.tmp 34) (.tmp 39) 34 46 _ 104 rfl Try.underlying34 infoT rfl (by decide) (by omega) u (s.1 ++ (l.take k).map (fun x => ⟨x, node, epoch⟩)) ⟨(⟨x0, x1, ⟨x2, x3, x4, x5, ⟨x6, x7, x8, x9⟩⟩⟩ : S44), node, epoch⟩ _ rfl rfl (fun _ => k46_mkM _ _ _ _) HD.out.r1 (by have := HL.out; simp only [List.length_append, List.length_map, List.length_take]; omega) ?_
      intro A2 c2 w2 h2
      have H2 := Aside0.mk h2.r1
      clear h2
      show K _ _
      refine hK.out _ _ (tell_S b gb i x0 x1 x2 x3 x4 x5 x6 x7 x8 x9 H2.out HZ.out) (fun hHeld => ?_)
      clear hK K
      refine norm_ (a' := ?_) ?_ ?_
      rotate_left
      · simp only [Act.put, List.setIfInBounds_toArray, List.set_cons_zero, List.set_cons_succ, i64_w, i32_w]
        rfl
      refine pure_ (i := 11) (N := some 41) (v := ?_) (a' := ?_) #[true, true, true, true, true, true, true, true, true, true, true, true, false, false] rfl rfl (by kernel_rfl) (fun _ _ _ h => h) (Or.inl ⟨by rfl, ?_⟩) ?_ ?_
      rotate_left
      · intro w'
        go_simp
        with_reducible rfl
      rotate_left
      · simp only [Act.put, List.setIfInBounds_toArray, List.set_cons_zero, List.set_cons_succ, i64_w, i32_w]
        rfl
      refine pure_ (i := 12) (N := some 42) (v := ?_) (a' := ?_) #[true, true, true, true, true, true, true, true, true, true, true, true, true, false] rfl rfl (by kernel_rfl) (fun _ _ _ h => h) (Or.inl ⟨by rfl, ?_⟩) ?_ ?_
      rotate_left
      · intro w'
        go_simp
        with_reducible rfl
      rotate_left
      · simp only [Act.put, List.setIfInBounds_toArray, List.set_cons_zero, List.set_cons_succ, i64_w, i32_w]
        rfl
      have hfz := blk_frozen (H2.out.r5.at0) (i * 2)
      refine last_ (i := 13) (N := none) #[true, true, true, true, true, true, true, true, true, true, true, true, true, true] rfl rfl (by kernel_rfl) (by decide) (fun K hK => ?_)
      refine skip_ (w1 := ?_) (by rfl) rfl ?_ ?_
      rotate_left
      · go_simp
        rfl
      refine hK.out _ _ ?_
      clear hK K
      refine done_ (by kernel_rfl) ?_
      try go_wp2
      go_roundw
      case rel =>
        refine ⟨k + 1, .slice A2 (s.1.length + k + 1) c2, by omega, by first | rfl | go_num, ?_⟩
        refine Aside0.mk ?_
        have el : (s.1 ++ (l.take k).map (fun x => (⟨x, node, epoch⟩ : TO))).length + 1 = s.1.length + k + 1 := by
          rw [List.length_append, List.length_map, List.length_take]
          omega
        have h4 := H2.out
        rw [el] at h4
        have h5 := h4.r5.set (i * 2) (.slice A2 (s.1.length + k + 1) c2)
        rw [List.setIfInBounds_toArray, (cellsV_set (ps.set i (u, v2)) i (u, v2) _ (List.getElem?_set_self (by have := (List.getElem?_eq_some_iff.1 HP.out).1; omega))).1, List.set_set] at h5
        have h6 := h5.r1.tail.r4.r4.r4.r4
        have e7 : (l.take (k + 1)).map (fun x => (⟨x, node, epoch⟩ : TO)) = (l.take k).map (fun x => ⟨x, node, epoch⟩) ++ [⟨(⟨x0, x1, ⟨x2, x3, x4, x5, ⟨x6, x7, x8, x9⟩⟩⟩ : S44), node, epoch⟩] := by
          rw [List.take_add_one, HG.out, List.map_append]
          rfl
        rw [e7, ← List.append_assoc]
        exact h6
      case measure => first | (simp [RowKit.intOf]; done) | (simp [RowKit.intOf]; omega)
    · have hk' : k = l.length := by omega
      subst hk'
      go_wp2
      go_ret
      refine ⟨rfl, ?_⟩
      have h5 := HO.out
      rw [List.take_length] at h5
      exact tr_done HF.out HI.out h5
end
end Go.Proofs.Ytglccegihffndaa.PTracePlays
