/- Traces (package trace): Apply. -/
import Derived.Test.YtglccegihffndaaTrc4
import Derived.StillTailTactics
import Derived.BigQuiet
import Derived.Deep.RegionWith
namespace Go.Proofs.Ytglccegihffndaa.PTracePlays
open Go.RowKit Go.Proofs.YtglccegihffndaaW.PrintWords Go.Proofs.YtglccegihffndaaW.PrintLast Go.Proofs.YtglccegihffndaaW.PrintMore
open Go.Proofs.YtglccegihffndaaO
attribute [local go_sem] max2_int min2_int max_two min_two max_three min_three max_four min_four
set_option linter.unusedVariables false
set_option linter.unusedSimpArgs false
abbrev itemV (x : S31) : Array Value := #[.int .i64 x.f0, .int .i64 x.f1, .int .i64 x.f2, .int .u8 x.f3, .string x.f4, .int .i64 x.f5, .int .i64 x.f6, .int .i64 x.f7]
section
variable {w0 w w' : World} {R : List Asn} {g : Nat} {ss : List (List TO × List TA)}
theorem _root_.Go.Proofs.YtglccegihffndaaO.Own.box {w0 W w1 : World} {L : List Asn} {g : Nat} {o : Obj} (h : Own w0 W L) (hg : g = W.heap.size) (ho : w1.heap[g]? = some o) (hb : Below W.heap.size W w1) : Own w0 w1 (Blk g o :: L) :=
  h.make hb ⟨fun k => k = g, ⟨ho, fun _ => Iff.rfl⟩, fun k hk => by omega⟩
theorem oper_monoQ {P : Program} {o : Oper} {a : Act} {w : World} {K : Act → World → Prop} {Q Q' : Exit → Act → World → Prop} (hq : ∀ e a w, e ≠ .normal → Q e a w → Q' e a w) (hh : Oper.wp P o a w K Q) : Oper.wp P o a w K Q' := by
  unfold Oper.wp at *
  generalize (execOp a.eval o).run P w = r at *
  cases r with
  | ok n w' =>
    cases n <;> simp only [Oper.upon] at hh ⊢ <;>
      first
        | exact hh
        | exact Calls.mono hh (fun e w'' he => by cases e <;> first | exact he | exact hq _ _ _ (by simp) he | exact he.imp fun a h => h.imp fun w h => hq _ _ _ (by simp) h)
  | halt x w' => cases x <;> simp only [Oper.upon] at hh ⊢ <;> first | exact hq _ _ _ (by simp) hh | exact hh.imp fun a h => h.imp fun w h => hq _ _ _ (by simp) h | exact hh
def OnlyK (K : Act → World → Prop) : Exit → Act → World → Prop
  | .normal, a, w => K a w
  | _, _, _ => False
/-- One operation, by a law over lists of operations. -/
theorem oper_of_list {P : Program} {o : Oper} {a : Act} {w : World} {K : Act → World → Prop} {Q : Exit → Act → World → Prop} (hg : o.guard = none) (h : wpList P #[] (OnlyK K) [o] a w) : Oper.wp P o a w K Q := by
  have hw : Region.wanted o (yielded #[] a.tmps) = true := by unfold Region.wanted; rw [hg]
  unfold wpList at h
  rw [if_pos hw] at h
  rcases h with h | ⟨_, a', w', h⟩
  · exact oper_monoQ (Q := OnlyK K) (fun e a w hn he => by cases e <;> first | exact absurd rfl hn | exact he.elim) h
  · exact h.elim
theorem tr_done {b i : Nat} {ps : List (Value × Value)} {v1 v2 : Value} {s1 : List TO} {s2 : List TA} (hf : ps.length = ss.length ∧ 1 ≤ ss.length ∧ ss.length ≤ 8) (hi : i < ss.length) (h : Own w0 w (Row k46 46 v1 s1 :: Row k48 48 v2 s2 :: RowsV (ps.eraseIdx i) (ss.eraseIdx i) :: Blk g (.cells #[.slice (some ⟨b, 0, none⟩) ss.length ss.length] 55 (0, 0)) :: Blk b (.cells (cellsV (ps.set i (v1, v2))).toArray 68 (0, 0)) :: R)) : Own w0 w (Tr g (ss.set i (s1, s2)) :: R) := by
  have h1 := rows_put (p := (v1, v2)) (s := (s1, s2)) i (by omega) hi h
  refine tr_shut (ps := ps.set i (v1, v2)) (b := b) (by rw [List.length_set, List.length_set]; exact hf) ?_
  rw [List.length_set]
  exact h1.r1.r2.r1
/-- What Apply's loads read. -/
theorem apply_S {w : World} {v2 : Value} {ps : List (Value × Value)} {P2 P3 P4 : Asn} (b gb i : Nat) (x0 x1 x2 x3 : Int) (x4 : ByteArray) (x5 x6 x7 : Int) (h : Own w0 w (Blk gb (.cells #[.int .i64 x0, .int .i64 x1, .int .i64 x2, .int .u8 x3, .string x4, .int .i64 x5, .int .i64 x6, .int .i64 x7] 31 (0, 0)) :: P2 :: P3 :: P4 :: Blk g (.cells #[.slice (some ⟨b, 0, none⟩) ss.length ss.length] 55 (0, 0)) :: Blk b (.cells (cellsV ps).toArray 68 (0, 0)) :: R)) (hz : (cellsV ps)[i * 2 + 1]? = some v2) :
    w.cell? ⟨b, i * 2 + 1, none⟩ = some v2 ∧ (w.cell? ⟨gb, 0, none⟩ = some (.int .i64 x0) ∧ w.cell? ⟨gb, 1, none⟩ = some (.int .i64 x1) ∧ w.cell? ⟨gb, 2, none⟩ = some (.int .i64 x2) ∧ w.cell? ⟨gb, 3, none⟩ = some (.int .u8 x3) ∧ w.cell? ⟨gb, 4, none⟩ = some (.string x4) ∧ w.cell? ⟨gb, 5, none⟩ = some (.int .i64 x5) ∧ w.cell? ⟨gb, 6, none⟩ = some (.int .i64 x6) ∧ w.cell? ⟨gb, 7, none⟩ = some (.int .i64 x7)) := by
  have y := h.at0
  exact ⟨(blk_cell h.r5.at0 (i * 2 + 1)).trans (by simpa using hz), (blk_cell y 0).trans rfl, (blk_cell y 1).trans rfl, (blk_cell y 2).trans rfl, (blk_cell y 3).trans rfl, (blk_cell y 4).trans rfl, (blk_cell y 5).trans rfl, (blk_cell y 6).trans rfl, (blk_cell y 7).trans rfl⟩
set_option maxHeartbeats 4000000 in
set_option maxRecDepth 100000 in
theorem TrApply_in (h : Own w0 w (Tr g ss :: R)) (i : Nat) (s : List TO × List TA) (hs : ss[i]? = some s) (hl : s.2.length ≤ 1000000000) (x : S31) (code : Int) : Calls Try.prog 14 #[.pointer (some ⟨g, 0, none⟩), .int .i64 i, .agg (itemV x), .int .i64 code] w fun e w' => e = .returned (.int .i64 0) ∧ Own w0 w' (Tr g (ss.set i (s.1, s.2 ++ [⟨x, code⟩])) :: R) := by
  obtain ⟨x0, x1, x2, x3, x4, x5, x6, x7⟩ := x
  obtain ⟨b, ps, hf, h2⟩ := tr_open h
  have hi := (List.getElem?_eq_some_iff.1 hs).1
  have hp : ps[i]? = some ps[i] := List.getElem?_eq_getElem (by omega)
  have z := cellsV_at ps i _ hp
  have h3 := rows_take i hp hs h2.r2
  have hst := cellsV_set ps i ps[i]
  generalize ps[i] = p at hp z h3 hst
  obtain ⟨v1, v2⟩ := p
  have H := Aside0.mk h3
  have HI := Aside0.mk hi
  have HL := Aside0.mk hl
  have hfi := add_at b
  have HZ := Aside0.mk z
  have HS := Aside0.mk hst
  have HP := Aside0.mk hp
  have HF := Aside0.mk hf
  clear h h2 h3 hi hl z hst hp hf hs
  unfold itemV
  dsimp only
  go_enter Try.func14, Try.ntmps14
  go_wp2_with (first
    | ((with_reducible refine gate_dst (N := 6) rfl ?_); refine box_event ?hg (N := 6) ?hd (cs := #[.int .i64 x0, .int .i64 x1, .int .i64 x2, .int .u8 x3, .string x4, .int .i64 x5, .int .i64 x6, .int .i64 x7]) (t := 31) ?hr ?_; (case hd => rfl); (case hg => rfl); (case hr => first | (go_simp; done) | (go_simp; rfl)); intro gb hg wb hbox hbb; have HX := Aside0.mk (H.out.box hg hbox hbb); clear hg hbb hbox)
    | (go_at_call 18; ((with_reducible refine (find_in b (HX.out.r4) i HI.out).mono ?_)); rintro e w1 ⟨rfl, rfl⟩; have HD := Aside0.mk HX.out.drew))
  refine start_ (n := 13) (S := fun w' => w'.cell? ⟨b, i * 2 + 1, none⟩ = some v2 ∧ (w'.cell? ⟨gb, 0, none⟩ = some (.int .i64 x0) ∧ w'.cell? ⟨gb, 1, none⟩ = some (.int .i64 x1) ∧ w'.cell? ⟨gb, 2, none⟩ = some (.int .i64 x2) ∧ w'.cell? ⟨gb, 3, none⟩ = some (.int .u8 x3) ∧ w'.cell? ⟨gb, 4, none⟩ = some (.string x4) ∧ w'.cell? ⟨gb, 5, none⟩ = some (.int .i64 x5) ∧ w'.cell? ⟨gb, 6, none⟩ = some (.int .i64 x6) ∧ w'.cell? ⟨gb, 7, none⟩ = some (.int .i64 x7))) (ds := [12]) #[false, false, false, false, false, false, false, false, false, false, false, false, false] (by kernel_rfl) rfl rfl (apply_S b gb i x0 x1 x2 x3 x4 x5 x6 x7 HD.out HZ.out.2) (fun hHeld => ?_)
  generalize wb.drew = wd at HD hHeld ⊢
  refine pure_ (i := 0) (N := some 19) (v := ?_) (a' := ?_) #[true, false, false, false, false, false, false, false, false, false, false, false, false] rfl rfl (by kernel_rfl) (fun _ _ _ h => h) (Or.inl ⟨by rfl, ?_⟩) ?_ ?_
  rotate_left
  · intro w'
    go_simp
    with_reducible rfl
  rotate_left
  · simp only [Act.put, List.setIfInBounds_toArray, List.set_cons_zero, List.set_cons_succ, i64_w, i32_w]
    rfl
  refine pure_ (i := 1) (N := some 20) (v := ?_) (a' := ?_) #[true, true, false, false, false, false, false, false, false, false, false, false, false] rfl rfl (by kernel_rfl) (fun _ _ _ h => h) (Or.inl ⟨by rfl, ?_⟩) ?_ ?_
  rotate_left
  · intro w'
    go_simp
    with_reducible rfl
  rotate_left
  · simp only [Act.put, List.setIfInBounds_toArray, List.set_cons_zero, List.set_cons_succ, i64_w, i32_w]
    rfl
  refine pure_ (i := 2) (N := some 21) (v := ?_) (a' := ?_) #[true, true, true, false, false, false, false, false, false, false, false, false, false] rfl rfl (by kernel_rfl) (fun _ _ _ h => h) (Or.inl ⟨by rfl, ?_⟩) ?_ ?_
  rotate_left
  · intro w'
    go_simp
    with_reducible rfl
  rotate_left
  · simp only [Act.put, List.setIfInBounds_toArray, List.set_cons_zero, List.set_cons_succ, i64_w, i32_w]
    rfl
  refine pure_ (i := 3) (N := some 22) (v := ?_) (a' := ?_) #[true, true, true, true, false, false, false, false, false, false, false, false, false] rfl rfl (by kernel_rfl) (fun _ _ _ h => h) (Or.inl ⟨by rfl, ?_⟩) ?_ ?_
  rotate_left
  · intro w'
    go_simp
    with_reducible rfl
  rotate_left
  · simp only [Act.put, List.setIfInBounds_toArray, List.set_cons_zero, List.set_cons_succ, i64_w, i32_w]
    rfl
  refine take_ (i := 4) (N := some 23) (v := ?_) (a' := ?_) #[true, true, true, true, true, false, false, false, false, false, false, false, false] rfl rfl (by kernel_rfl) (fun _ _ _ h => h) (Or.inl ⟨by rfl, ?_⟩) hHeld ?_ ?_
  rotate_left
  · rintro w' ⟨s0, s1, s2, s3, s4, s5, s6, s7, s8⟩
    go_simp
    with_reducible rfl
  rotate_left
  · simp only [Act.put, List.setIfInBounds_toArray, List.set_cons_zero, List.set_cons_succ, i64_w, i32_w]
    rfl
  refine take_ (i := 5) (N := some 24) (v := ?_) (a' := ?_) #[true, true, true, true, true, true, false, false, false, false, false, false, false] rfl rfl (by kernel_rfl) (fun _ _ _ h => h) (Or.inl ⟨by rfl, ?_⟩) hHeld ?_ ?_
  rotate_left
  · rintro w' ⟨s0, s1, s2, s3, s4, s5, s6, s7, s8⟩
    go_simp
    with_reducible rfl
  rotate_left
  · simp only [Act.put, List.setIfInBounds_toArray, List.set_cons_zero, List.set_cons_succ, i64_w, i32_w]
    rfl
  refine pure_ (i := 6) (N := some 25) (v := ?_) (a' := ?_) #[true, true, true, true, true, true, true, false, false, false, false, false, false] rfl rfl (by kernel_rfl) (fun _ _ _ h => h) (Or.inl ⟨by rfl, ?_⟩) ?_ ?_
  rotate_left
  · intro w'
    go_simp
    with_reducible rfl
  rotate_left
  · simp only [Act.put, List.setIfInBounds_toArray, List.set_cons_zero, List.set_cons_succ, i64_w, i32_w]
    rfl
  refine pure_ (i := 7) (N := some 26) (v := ?_) (a' := ?_) #[true, true, true, true, true, true, true, true, false, false, false, false, false] rfl rfl (by kernel_rfl) (fun _ _ _ h => h) (Or.inl ⟨by rfl, ?_⟩) ?_ ?_
  rotate_left
  · intro w'
    go_simp
    with_reducible rfl
  rotate_left
  · simp only [Act.put, List.setIfInBounds_toArray, List.set_cons_zero, List.set_cons_succ, i64_w, i32_w]
    rfl
  refine one_ (i := 8) (N := some 27) #[true, true, true, true, true, true, true, true, true, false, false, false, false] rfl rfl (by kernel_rfl) (by decide) (fun K hK => ?_)
  refine value_ (w1 := ?_) (v := ?_) (by rfl) rfl ?_ ?_
  rotate_left 2
  · go_simp
    constructor
    · rfl
    · rfl
  refine hK.out _ _ (apply_S b gb i x0 x1 x2 x3 x4 x5 x6 x7 (HD.out.junk _) HZ.out.2) (fun hHeld => ?_)
  clear hK K
  refine norm_ (a' := ?_) ?_ ?_
  rotate_left
  · simp only [Act.put, List.setIfInBounds_toArray, List.set_cons_zero, List.set_cons_succ, i64_w, i32_w]
    rfl
  refine one_ (i := 9) (N := some 28) #[true, true, true, true, true, true, true, true, true, true, false, false, false] rfl rfl (by kernel_rfl) (by decide) (fun K hK => ?_)
  rw [if_pos (by rfl)]
  refine oper_of_list rfl ?_
  refine Own.append k48 rfl (.tmp 23) (.tmp 27) 36 48 _ 80 rfl Try.underlying36 infoA rfl (by decide) (by omega) v2 s.2 ⟨⟨x0, x1, x2, x3, x4, x5, x6, x7⟩, code⟩ _ rfl rfl (fun _ => k48_mkM _ _ _ _) HD.out.r2 (by have := HL.out; omega) ?_
  intro A2 c2 w2 h2
  have H2 := Aside0.mk h2.r2.r2
  clear h2
  show K _ _
  refine hK.out _ _ (apply_S b gb i x0 x1 x2 x3 x4 x5 x6 x7 H2.out HZ.out.2) (fun hHeld => ?_)
  clear hK K
  refine norm_ (a' := ?_) ?_ ?_
  rotate_left
  · simp only [Act.put, List.setIfInBounds_toArray, List.set_cons_zero, List.set_cons_succ, i64_w, i32_w]
    rfl
  refine pure_ (i := 10) (N := some 29) (v := ?_) (a' := ?_) #[true, true, true, true, true, true, true, true, true, true, true, false, false] rfl rfl (by kernel_rfl) (fun _ _ _ h => h) (Or.inl ⟨by rfl, ?_⟩) ?_ ?_
  rotate_left
  · intro w'
    go_simp
    with_reducible rfl
  rotate_left
  · simp only [Act.put, List.setIfInBounds_toArray, List.set_cons_zero, List.set_cons_succ, i64_w, i32_w]
    rfl
  refine pure_ (i := 11) (N := some 30) (v := ?_) (a' := ?_) #[true, true, true, true, true, true, true, true, true, true, true, true, false] rfl rfl (by kernel_rfl) (fun _ _ _ h => h) (Or.inl ⟨by rfl, ?_⟩) ?_ ?_
  rotate_left
  · intro w'
    go_simp
    with_reducible rfl
  rotate_left
  · simp only [Act.put, List.setIfInBounds_toArray, List.set_cons_zero, List.set_cons_succ, i64_w, i32_w]
    rfl
  have hfz := blk_frozen (H2.out.r5.at0) (i * 2 + 1)
  refine last_ (i := 12) (N := none) #[true, true, true, true, true, true, true, true, true, true, true, true, true] rfl rfl (by kernel_rfl) (by decide) (fun K hK => ?_)
  refine skip_ (w1 := ?_) (by rfl) rfl ?_ ?_
  rotate_left
  · go_simp
    rfl
  refine hK.out _ _ ?_
  clear hK K
  refine done_ (by kernel_rfl) ?_
  try go_wp2
  go_ret
  refine ⟨rfl, ?_⟩
  have h5 := H2.out.r5.set (i * 2 + 1) (.slice A2 (s.2.length + 1) c2)
  rw [List.setIfInBounds_toArray, (HS.out (.slice A2 (s.2.length + 1) c2) HP.out).2] at h5
  exact tr_done HF.out HI.out h5.r1.tail.r4.r4.r4.r4
end
end Go.Proofs.Ytglccegihffndaa.PTracePlays
