/- Packets on their way (package net): one is put, taken, lost, doubled. -/
import Derived.Test.YtdnpodpmicllgaaNet3
namespace Go.Proofs.Ytdnpodpmicllgaa.PNetPlays
open Go.RowKit Go.Proofs.YtdnpodpmicllgaaW.PrintWords Go.Proofs.YtdnpodpmicllgaaW.PrintLast Go.Proofs.YtdnpodpmicllgaaW.PrintMore
open Go.Proofs.YtdnpodpmicllgaaO Go.Proofs.YtdnpodpmicllgaaC
attribute [local go_sem] max2_int min2_int max_two min_two max_three min_three max_four min_four
set_option linter.unusedVariables false
set_option linter.unusedSimpArgs false
theorem _root_.Go.Proofs.YtdnpodpmicllgaaO.Own.box {w0 W w1 : World} {L : List Asn} {g : Nat} {o : Obj} (h : Own w0 W L) (hg : g = W.heap.size) (ho : w1.heap[g]? = some o) (hb : Below W.heap.size W w1) : Own w0 w1 (Blk g o :: L) :=
  h.make hb ⟨fun k => k = g, ⟨ho, fun _ => Iff.rfl⟩, fun k hk => by omega⟩
theorem oper_monoQ {P : Program} {o : Oper} {a : Act} {w : World} {K : Act → World → Prop} {Q Q' : Exit → Act → World → Prop} (hq : ∀ e a w, e ≠ .normal → Q e a w → Q' e a w) (hh : Oper.wp P o a w K Q) : Oper.wp P o a w K Q' := by
  unfold Oper.wp at *
  generalize (execOp a.eval o).run P w = r at *
  cases r with
  | ok n w' =>
    cases n <;> simp only [Oper.upon] at hh ⊢ <;>
      first
        | exact hh
        | exact Calls.mono hh (fun e w'' he => by cases e <;> first | exact he | exact hq _ _ _ (by simp) he | exact he.imp fun a h => h.imp fun w h => hq _ _ _ (by simp) h)
  | halt x w' => cases x <;> simp only [Oper.upon] at hh ⊢ <;> first | exact hq _ _ _ (by simp) hh | exact hh.imp fun a h => h.imp fun w h => hq _ _ _ (by simp) h | exact hh
def OnlyK (K : Act → World → Prop) : Exit → Act → World → Prop
  | .normal, a, w => K a w
  | _, _, _ => False
/-- One operation, by a law over lists of operations. -/
theorem oper_of_list {P : Program} {o : Oper} {a : Act} {w : World} {K : Act → World → Prop} {Q : Exit → Act → World → Prop} (hg : o.guard = none) (h : wpList P #[] (OnlyK K) [o] a w) : Oper.wp P o a w K Q := by
  have hw : Region.wanted o (yielded #[] a.tmps) = true := by unfold Region.wanted; rw [hg]
  unfold wpList at h
  rw [if_pos hw] at h
  rcases h with h | ⟨_, a', w', h⟩
  · exact oper_monoQ (Q := OnlyK K) (fun e a w hn he => by cases e <;> first | exact absurd rfl hn | exact he.elim) h
  · exact h.elim
def putR (way : List Pk) (p : Pk) : List Pk × Int := if cntW way p.f0 p.f1 < 64 then (way ++ [p], 0) else (way, 6)
theorem bytesUnit : ∃ i, Try.prog.info? 52 = some i ∧ i.bytes = 0 := by
  have h : (Try.prog.info? 52).map (·.bytes) = some 0 := by kernel_rfl
  obtain ⟨i, hi, hb⟩ := Option.map_eq_some_iff.1 h
  exact ⟨i, hi, hb⟩
theorem mkCh (w : World) : (Instr.makeChan 53 (.int .i64 64)).run Try.prog w = .ok (.chan (some w.heap.size)) (w.alloc (.chan 64 #[] false 0 0 false)) := by
  obtain ⟨i, hi, hb⟩ := bytesUnit
  simpa using Go.Conc.run_makeChan (P := Try.prog) (w := w) Try.underlying53 hi .i64 64 (by omega) (by rw [hb]; omega)
theorem put_yes {way : List Pk} {p0 p1 : Int} {p2 : ByteArray} (h : cntW way p0 p1 < 64) : putR way ⟨p0, p1, p2⟩ = (way ++ [⟨p0, p1, p2⟩], 0) := if_pos h
theorem put_no {way : List Pk} {p0 p1 : Int} {p2 : ByteArray} (h : ¬ cntW way p0 p1 < 64) : putR way ⟨p0, p1, p2⟩ = (way, 6) := if_neg h
theorem good_snoc {way : List Pk} {p : Pk} (h : ∀ q ∈ way, goodP q) (hp : goodP p) : ∀ q ∈ way ++ [p], goodP q := fun q hq => by
  rcases List.mem_append.1 hq with hq | hq
  · exact h q hq
  · rw [List.mem_singleton] at hq
    rw [hq]
    exact hp
theorem cnt_snoc (way : List Pk) (p : Pk) (f t : Int) : updN (cntW way) p.f0 p.f1 (cntW way p.f0 p.f1 + 1) f t = cntW (way ++ [p]) f t := by
  unfold updN cntW
  rw [List.countP_append, List.countP_singleton]
  by_cases h : f = p.f0 ∧ t = p.f1
  · obtain ⟨rfl, rfl⟩ := h
    rw [if_pos ⟨rfl, rfl⟩, if_pos (by simp)]
  · rw [if_neg h, if_neg (fun q => h (by simp at q; exact ⟨q.1.symm, q.2.symm⟩))]
    exact (Nat.add_zero _).symm
theorem ops_value {P : Program} {ops : Array Oper} {Q : Exit → Act → World → Prop} {i : Nat} {rest : List Nat} {o : Oper} {a : Act} {w : World} {v : Value} (N : Option Tmp) (hi : ops[i]? = some o) (hN : o.dst = N) (hg : o.guard = none) (hr : (execOp a.eval o).run P w = .ok (.value v) w) (h : wpOps P ops Q rest (a.put N v) w) : wpOps P ops Q (i :: rest) a w := by
  subst hN
  simp only [wpOps, hi]
  rw [if_pos (by simp [Region.wanted, hg])]
  refine .inl ?_
  unfold Oper.wp
  rw [hr]
  exact h
theorem put_S {w0 w : World} {R : List Asn} {P1 : Asn} {v : Value} {m : Value} (gp g : Nat) (p0 p1 : Int) (p2 : ByteArray) (h : Own w0 w (P1 :: Blk gp (.cells #[.int .i64 p0, .int .i64 p1, .string p2] 25 (0, 0)) :: Blk g (.cells #[v, m] 49 (0, 0)) :: R)) : w.cell? ⟨g, 0, none⟩ = some v ∧ (w.cell? ⟨gp, 0, none⟩ = some (.int .i64 p0) ∧ w.cell? ⟨gp, 1, none⟩ = some (.int .i64 p1) ∧ w.cell? ⟨gp, 2, none⟩ = some (.string p2)) :=
  ⟨(blk_cell h.at2 0).trans rfl, (blk_cell h.at1 0).trans rfl, (blk_cell h.at1 1).trans rfl, (blk_cell h.at1 2).trans rfl⟩
section
variable {w0 w w' : World} {R : List Asn} {g N : Nat} {way : List Pk}
set_option maxHeartbeats 4000000 in
set_option maxRecDepth 100000 in
theorem NetPut (h : Own w0 w (NetA g way N :: R)) (p : Pk) (hp : goodP p) (hN : N < 1000000000) (hl : way.length ≤ 1000000000) : Calls Try.prog 22 #[.pointer (some ⟨g, 0, none⟩), .agg (pkV p).toArray] w fun e w' => e = .returned (.int .i64 (putR way p).2) ∧ Own w0 w' (NetA g (putR way p).1 (N + 1) :: R) := by
  obtain ⟨A, c, b, ch, hgood, h2⟩ := net_open h
  obtain ⟨p0, p1, p2⟩ := p
  show Calls Try.prog 22 #[.pointer (some ⟨g, 0, none⟩), .agg #[.int .i64 p0, .int .i64 p1, .string p2]] w _
  have hf : wfI p0 := wf9 hp.1 hp.2.1
  have ht : wfI p1 := wf9 hp.2.2.1 hp.2.2.2
  have h3 := h2.alloc (.cells #[.int .i64 p0, .int .i64 p1, .string p2] 25)
  have h4 := h3.alloc (.cells #[.int .i64 p0, .int .i64 p1] 55)
  rw [alloc_size] at h4
  have h5 := h4.drew
  have H := Aside0.mk h5
  have HG := Aside0.mk hgood
  have HP := Aside0.mk hp
  have y0 := (blk_cell h3.at0 0).trans rfl
  have y1 := (blk_cell h3.at0 1).trans rfl
  have y2 := (blk_cell h3.at0 2).trans rfl
  have z0 := (blk_cell h5.at0 0).trans rfl
  have z1 := (blk_cell h5.at0 1).trans rfl
  have x1 := (blk_cell h5.at2 1).trans rfl
  have hlk := room_look h5.r4 p0 p1 hf ht
  clear h h2 h3 h4 h5 hgood hp
  refine calls_of_wpN Try.func22 rfl ?_
  simp only [Try.ntmps22, List.size_toArray, List.length_cons, List.length_nil, Nat.reduceAdd, Nat.reduceSub, Array.replicate_succ, Array.replicate_zero, List.push_toArray, List.append_toArray, List.nil_append, List.cons_append]
  refine WpN.seq (WpN.of ?_)
  go_wp2
  refine WpN.seq (WpN.of ?_)
  go_wp2
  refine WpN.seq (WpN.of ?_)
  go_wp2
  go_region
  obtain ⟨W, hW⟩ : ∃ W, W = ((w.alloc (.cells #[.int .i64 p0, .int .i64 p1, .string p2] 25)).alloc (.cells #[.int .i64 p0, .int .i64 p1] 55)).drew := ⟨_, rfl⟩
  go_wp2
  rw [← hW] at z0 z1 x1 hlk H ⊢
  clear hW y0 y1 y2
  obtain ⟨gp, hgp⟩ : ∃ gp, gp = w.heap.size := ⟨_, rfl⟩
  rw [← hgp] at z0 z1 H ⊢
  clear hgp
  have H := Aside0.mk H.out.r4
  cases hc : ch p0 p1 with
  | some cc =>
    simp only [Option.isSome_some]
    clear hlk
    have hcc := hc
    obtain ⟨_, s, r, hch⟩ := room_chan H.out hc
    by_cases hn : cntW way p0 p1 < 64
    · refine WpN.seq (WpN.of ?_)
      go_wp2
      refine WpN.seq (WpN.of ?_)
      go_wp2
      refine WpN.seq (wpN_first (N := some 33) [1, 2] rfl rfl (comm_send_room (c := cc) (v := .agg #[]) (z' := .agg #[]) rfl rfl (by simp [execOp, Go.Conc.scase, Act.eval]) hch (by rw [Array.size_replicate]; exact hn)) ?_)
      have HS := Aside0.mk (room_set H.out hcc (cntW way p0 p1 + 1) (by omega) (s + 1) r)
      rw [show Array.replicate (cntW way p0 p1 + 1) unitV = (Array.replicate (cntW way p0 p1) unitV).push (.agg #[]) from Array.replicate_succ] at HS
      generalize hws : World.setChan _ cc 64 _ false _ _ false = ws at HS ⊢
      clear hws hch
      refine ops_value (v := .int .i64 0) (some 34) rfl rfl rfl (by simp [execOp, Act.eval, Act.put, go_sem]) ?_
      refine ops_value (v := .bool true) (some 35) rfl rfl rfl (by simp [execOp, Act.eval, Act.put, go_sem]) ?_
      simp only [Act.put, List.setIfInBounds_toArray, List.set_cons_zero, List.set_cons_succ]
      have HD := Aside0.mk (HS.out.r1.r3.r3.r4.drew)
      refine WpN.of ?_
      go_wp2
      refine start_ (n := 11) (S := fun w' => w'.cell? ⟨g, 0, none⟩ = some (.slice A way.length c) ∧ (w'.cell? ⟨gp, 0, none⟩ = some (.int .i64 p0) ∧ w'.cell? ⟨gp, 1, none⟩ = some (.int .i64 p1) ∧ w'.cell? ⟨gp, 2, none⟩ = some (.string p2))) (ds := [10]) #[false, false, false, false, false, false, false, false, false, false, false] (by kernel_rfl) rfl rfl (put_S gp g p0 p1 p2 (HD.out)) (fun hHeld => ?_)
      generalize hwd : (World.drew _) = wd at HD hHeld ⊢
      clear hwd
      refine pure_ (i := 0) (N := some 36) (v := ?_) (a' := ?_) #[true, false, false, false, false, false, false, false, false, false, false] rfl rfl (by kernel_rfl) (fun _ _ _ h => h) (Or.inl ⟨by rfl, ?_⟩) ?_ ?_
      rotate_left
      · intro w'
        go_simp
        with_reducible rfl
      rotate_left
      · simp only [Act.put, List.setIfInBounds_toArray, List.set_cons_zero, List.set_cons_succ, i64_w, i32_w]
        rfl
      refine pure_ (i := 1) (N := some 37) (v := ?_) (a' := ?_) #[true, true, false, false, false, false, false, false, false, false, false] rfl rfl (by kernel_rfl) (fun _ _ _ h => h) (Or.inl ⟨by rfl, ?_⟩) ?_ ?_
      rotate_left
      · intro w'
        go_simp
        with_reducible rfl
      rotate_left
      · simp only [Act.put, List.setIfInBounds_toArray, List.set_cons_zero, List.set_cons_succ, i64_w, i32_w]
        rfl
      refine pure_ (i := 2) (N := some 38) (v := ?_) (a' := ?_) #[true, true, true, false, false, false, false, false, false, false, false] rfl rfl (by kernel_rfl) (fun _ _ _ h => h) (Or.inl ⟨by rfl, ?_⟩) ?_ ?_
      rotate_left
      · intro w'
        go_simp
        with_reducible rfl
      rotate_left
      · simp only [Act.put, List.setIfInBounds_toArray, List.set_cons_zero, List.set_cons_succ, i64_w, i32_w]
        rfl
      refine pure_ (i := 3) (N := some 39) (v := ?_) (a' := ?_) #[true, true, true, true, false, false, false, false, false, false, false] rfl rfl (by kernel_rfl) (fun _ _ _ h => h) (Or.inl ⟨by rfl, ?_⟩) ?_ ?_
      rotate_left
      · intro w'
        go_simp
        with_reducible rfl
      rotate_left
      · simp only [Act.put, List.setIfInBounds_toArray, List.set_cons_zero, List.set_cons_succ, i64_w, i32_w]
        rfl
      refine take_ (i := 4) (N := some 40) (v := ?_) (a' := ?_) #[true, true, true, true, true, false, false, false, false, false, false] rfl rfl (by kernel_rfl) (fun _ _ _ h => h) (Or.inl ⟨by rfl, ?_⟩) hHeld ?_ ?_
      rotate_left
      · rintro w' ⟨s0, s1, s2, s3⟩
        go_simp
        with_reducible rfl
      rotate_left
      · simp only [Act.put, List.setIfInBounds_toArray, List.set_cons_zero, List.set_cons_succ, i64_w, i32_w]
        rfl
      refine take_ (i := 5) (N := some 41) (v := ?_) (a' := ?_) #[true, true, true, true, true, true, false, false, false, false, false] rfl rfl (by kernel_rfl) (fun _ _ _ h => h) (Or.inl ⟨by rfl, ?_⟩) hHeld ?_ ?_
      rotate_left
      · rintro w' ⟨s0, s1, s2, s3⟩
        go_simp
        with_reducible rfl
      rotate_left
      · simp only [Act.put, List.setIfInBounds_toArray, List.set_cons_zero, List.set_cons_succ, i64_w, i32_w]
        rfl
      refine one_ (i := 6) (N := some 42) #[true, true, true, true, true, true, true, false, false, false, false] rfl rfl (by kernel_rfl) (by decide) (fun K hK => ?_)
      refine value_ (w1 := ?_) (v := ?_) (by rfl) rfl ?_ ?_
      rotate_left 2
      · go_simp
        constructor
        · rfl
        · rfl
      refine hK.out _ _ (put_S gp g p0 p1 p2 (HD.out.junk _)) (fun hHeld => ?_)
      clear hK K
      refine norm_ (a' := ?_) ?_ ?_
      rotate_left
      · simp only [Act.put, List.setIfInBounds_toArray, List.set_cons_zero, List.set_cons_succ, i64_w, i32_w]
        rfl
      refine one_ (i := 7) (N := some 43) #[true, true, true, true, true, true, true, true, false, false, false] rfl rfl (by kernel_rfl) (by decide) (fun K hK => ?_)
      rw [if_pos (by rfl)]
      refine oper_of_list rfl ?_
      refine Own.append k25 rfl (.tmp 40) (.tmp 42) 36 25 _ 32 rfl Try.underlying36 infoP rfl (by decide) (by omega) (.slice A way.length c) way ⟨p0, p1, p2⟩ _ rfl rfl (fun _ => k25_mkM _ _ _ _) HD.out (by omega) ?_
      intro A2 c2 w2 h2
      have H2 := Aside0.mk h2
      clear h2
      show K _ _
      refine hK.out _ _ (put_S gp g p0 p1 p2 (H2.out)) (fun hHeld => ?_)
      clear hK K
      refine norm_ (a' := ?_) ?_ ?_
      rotate_left
      · simp only [Act.put, List.setIfInBounds_toArray, List.set_cons_zero, List.set_cons_succ, i64_w, i32_w]
        rfl
      refine pure_ (i := 8) (N := some 44) (v := ?_) (a' := ?_) #[true, true, true, true, true, true, true, true, true, false, false] rfl rfl (by kernel_rfl) (fun _ _ _ h => h) (Or.inl ⟨by rfl, ?_⟩) ?_ ?_
      rotate_left
      · intro w'
        go_simp
        with_reducible rfl
      rotate_left
      · simp only [Act.put, List.setIfInBounds_toArray, List.set_cons_zero, List.set_cons_succ, i64_w, i32_w]
        rfl
      refine pure_ (i := 9) (N := some 45) (v := ?_) (a' := ?_) #[true, true, true, true, true, true, true, true, true, true, false] rfl rfl (by kernel_rfl) (fun _ _ _ h => h) (Or.inl ⟨by rfl, ?_⟩) ?_ ?_
      rotate_left
      · intro w'
        go_simp
        with_reducible rfl
      rotate_left
      · simp only [Act.put, List.setIfInBounds_toArray, List.set_cons_zero, List.set_cons_succ, i64_w, i32_w]
        rfl
      have hfz := blk_frozen (H2.out.r2.at0) 0
      refine last_ (i := 10) (N := none) #[true, true, true, true, true, true, true, true, true, true, true] rfl rfl (by kernel_rfl) (by decide) (fun K hK => ?_)
      refine skip_ (w1 := ?_) (by rfl) rfl ?_ ?_
      rotate_left
      · go_simp
        rfl
      refine hK.out _ _ ?_
      clear hK K
      refine done_ (by kernel_rfl) ?_
      try go_wp2
      go_ret
      refine ⟨by rw [put_yes hn]; rfl, ?_⟩
      rw [put_yes hn]
      have h9 := (H2.out.r2.set 0 (.slice A2 (way.length + 1) c2))
      rw [List.setIfInBounds_toArray] at h9
      exact net_shut (good_snoc HG.out HP.out) (room_congr (cnt_snoc way ⟨p0, p1, p2⟩) (room_mono (N' := N + 1) (by omega) h9.r4.r3.tail.r3.tail)).r2.r2
    · refine WpN.seq (WpN.of ?_)
      go_wp2
      refine WpN.seq (WpN.of ?_)
      go_wp2
      refine WpN.seq (wpN_first (N := some 33) [1, 2] rfl rfl (comm_send_full (c := cc) (v := .agg #[]) (z' := .agg #[]) rfl rfl (by simp [execOp, Go.Conc.scase, Act.eval]) hch (by rw [Array.size_replicate]; omega)) ?_)
      refine ops_value (v := .int .i64 (-1)) (some 34) rfl rfl rfl (by simp [execOp, Act.eval, Act.put, go_sem]) ?_
      refine ops_value (v := .bool false) (some 35) rfl rfl rfl (by simp [execOp, Act.eval, Act.put, go_sem]) ?_
      simp only [Act.put, List.setIfInBounds_toArray, List.set_cons_zero, List.set_cons_succ]
      refine WpN.of ?_
      go_wp2
      go_ret
      refine ⟨by rw [put_no hn]; rfl, ?_⟩
      rw [put_no hn]
      exact net_shut HG.out (room_mono (N' := N + 1) (by omega) H.out.r1.tail.r1.tail).r2.r2
  | none =>
    simp only [Option.isSome_none]
    have hn0 : cntW way p0 p1 = 0 := by obtain ⟨D, ho⟩ := room_out H.out; exact ho.no p0 p1 hc
    have hn : cntW way p0 p1 < 64 := by omega
    clear hlk z0 z1 x1 hn0
    have h6 := (H.out.alloc (.chan 64 #[] false 0 0 false)).drew
    have hmk := mkCh W
    obtain ⟨cc, hcc0⟩ : ∃ cc, cc = W.heap.size := ⟨_, rfl⟩
    rw [← hcc0] at h6 hmk
    obtain ⟨w6, hrun, h7⟩ := room_store h6 hf ht hc hN
    have z0 := (blk_cell h6.at2 0).trans rfl
    have z1 := (blk_cell h6.at2 1).trans rfl
    have x1 := (blk_cell h6.r1.r4.at0 1).trans rfl
    have H := Aside0.mk h7
    have hcc : updC ch p0 p1 cc p0 p1 = some cc := if_pos ⟨rfl, rfl⟩
    obtain ⟨_, s, r, hch⟩ := room_chan h7 hcc
    clear h6 h7 hcc0
    refine WpN.seq (WpN.of ?_)
    go_wp2
    go_region
    go_wp2
    refine WpN.seq (WpN.of ?_)
    go_wp2
    refine WpN.seq (wpN_first (N := some 33) [1, 2] rfl rfl (comm_send_room (c := cc) (v := .agg #[]) (z' := .agg #[]) rfl rfl (by simp [execOp, Go.Conc.scase, Act.eval]) hch (by rw [Array.size_replicate]; exact hn)) ?_)
    have HS := Aside0.mk (room_set H.out hcc (cntW way p0 p1 + 1) (by omega) (s + 1) r)
    rw [show Array.replicate (cntW way p0 p1 + 1) unitV = (Array.replicate (cntW way p0 p1) unitV).push (.agg #[]) from Array.replicate_succ] at HS
    generalize hws : World.setChan _ cc 64 _ false _ _ false = ws at HS ⊢
    clear hws hch
    refine ops_value (v := .int .i64 0) (some 34) rfl rfl rfl (by simp [execOp, Act.eval, Act.put, go_sem]) ?_
    refine ops_value (v := .bool true) (some 35) rfl rfl rfl (by simp [execOp, Act.eval, Act.put, go_sem]) ?_
    simp only [Act.put, List.setIfInBounds_toArray, List.set_cons_zero, List.set_cons_succ]
    have HD := Aside0.mk (HS.out.r1.r3.r3.r4.drew)
    refine WpN.of ?_
    go_wp2
    refine start_ (n := 11) (S := fun w' => w'.cell? ⟨g, 0, none⟩ = some (.slice A way.length c) ∧ (w'.cell? ⟨gp, 0, none⟩ = some (.int .i64 p0) ∧ w'.cell? ⟨gp, 1, none⟩ = some (.int .i64 p1) ∧ w'.cell? ⟨gp, 2, none⟩ = some (.string p2))) (ds := [10]) #[false, false, false, false, false, false, false, false, false, false, false] (by kernel_rfl) rfl rfl (put_S gp g p0 p1 p2 (HD.out)) (fun hHeld => ?_)
    generalize hwd : (World.drew _) = wd at HD hHeld ⊢
    clear hwd
    refine pure_ (i := 0) (N := some 36) (v := ?_) (a' := ?_) #[true, false, false, false, false, false, false, false, false, false, false] rfl rfl (by kernel_rfl) (fun _ _ _ h => h) (Or.inl ⟨by rfl, ?_⟩) ?_ ?_
    rotate_left
    · intro w'
      go_simp
      with_reducible rfl
    rotate_left
    · simp only [Act.put, List.setIfInBounds_toArray, List.set_cons_zero, List.set_cons_succ, i64_w, i32_w]
      rfl
    refine pure_ (i := 1) (N := some 37) (v := ?_) (a' := ?_) #[true, true, false, false, false, false, false, false, false, false, false] rfl rfl (by kernel_rfl) (fun _ _ _ h => h) (Or.inl ⟨by rfl, ?_⟩) ?_ ?_
    rotate_left
    · intro w'
      go_simp
      with_reducible rfl
    rotate_left
    · simp only [Act.put, List.setIfInBounds_toArray, List.set_cons_zero, List.set_cons_succ, i64_w, i32_w]
      rfl
    refine pure_ (i := 2) (N := some 38) (v := ?_) (a' := ?_) #[true, true, true, false, false, false, false, false, false, false, false] rfl rfl (by kernel_rfl) (fun _ _ _ h => h) (Or.inl ⟨by rfl, ?_⟩) ?_ ?_
    rotate_left
    · intro w'
      go_simp
      with_reducible rfl
    rotate_left
    · simp only [Act.put, List.setIfInBounds_toArray, List.set_cons_zero, List.set_cons_succ, i64_w, i32_w]
      rfl
    refine pure_ (i := 3) (N := some 39) (v := ?_) (a' := ?_) #[true, true, true, true, false, false, false, false, false, false, false] rfl rfl (by kernel_rfl) (fun _ _ _ h => h) (Or.inl ⟨by rfl, ?_⟩) ?_ ?_
    rotate_left
    · intro w'
      go_simp
      with_reducible rfl
    rotate_left
    · simp only [Act.put, List.setIfInBounds_toArray, List.set_cons_zero, List.set_cons_succ, i64_w, i32_w]
      rfl
    refine take_ (i := 4) (N := some 40) (v := ?_) (a' := ?_) #[true, true, true, true, true, false, false, false, false, false, false] rfl rfl (by kernel_rfl) (fun _ _ _ h => h) (Or.inl ⟨by rfl, ?_⟩) hHeld ?_ ?_
    rotate_left
    · rintro w' ⟨s0, s1, s2, s3⟩
      go_simp
      with_reducible rfl
    rotate_left
    · simp only [Act.put, List.setIfInBounds_toArray, List.set_cons_zero, List.set_cons_succ, i64_w, i32_w]
      rfl
    refine take_ (i := 5) (N := some 41) (v := ?_) (a' := ?_) #[true, true, true, true, true, true, false, false, false, false, false] rfl rfl (by kernel_rfl) (fun _ _ _ h => h) (Or.inl ⟨by rfl, ?_⟩) hHeld ?_ ?_
    rotate_left
    · rintro w' ⟨s0, s1, s2, s3⟩
      go_simp
      with_reducible rfl
    rotate_left
    · simp only [Act.put, List.setIfInBounds_toArray, List.set_cons_zero, List.set_cons_succ, i64_w, i32_w]
      rfl
    refine one_ (i := 6) (N := some 42) #[true, true, true, true, true, true, true, false, false, false, false] rfl rfl (by kernel_rfl) (by decide) (fun K hK => ?_)
    refine value_ (w1 := ?_) (v := ?_) (by rfl) rfl ?_ ?_
    rotate_left 2
    · go_simp
      constructor
      · rfl
      · rfl
    refine hK.out _ _ (put_S gp g p0 p1 p2 (HD.out.junk _)) (fun hHeld => ?_)
    clear hK K
    refine norm_ (a' := ?_) ?_ ?_
    rotate_left
    · simp only [Act.put, List.setIfInBounds_toArray, List.set_cons_zero, List.set_cons_succ, i64_w, i32_w]
      rfl
    refine one_ (i := 7) (N := some 43) #[true, true, true, true, true, true, true, true, false, false, false] rfl rfl (by kernel_rfl) (by decide) (fun K hK => ?_)
    rw [if_pos (by rfl)]
    refine oper_of_list rfl ?_
    refine Own.append k25 rfl (.tmp 40) (.tmp 42) 36 25 _ 32 rfl Try.underlying36 infoP rfl (by decide) (by omega) (.slice A way.length c) way ⟨p0, p1, p2⟩ _ rfl rfl (fun _ => k25_mkM _ _ _ _) HD.out (by omega) ?_
    intro A2 c2 w2 h2
    have H2 := Aside0.mk h2
    clear h2
    show K _ _
    refine hK.out _ _ (put_S gp g p0 p1 p2 (H2.out)) (fun hHeld => ?_)
    clear hK K
    refine norm_ (a' := ?_) ?_ ?_
    rotate_left
    · simp only [Act.put, List.setIfInBounds_toArray, List.set_cons_zero, List.set_cons_succ, i64_w, i32_w]
      rfl
    refine pure_ (i := 8) (N := some 44) (v := ?_) (a' := ?_) #[true, true, true, true, true, true, true, true, true, false, false] rfl rfl (by kernel_rfl) (fun _ _ _ h => h) (Or.inl ⟨by rfl, ?_⟩) ?_ ?_
    rotate_left
    · intro w'
      go_simp
      with_reducible rfl
    rotate_left
    · simp only [Act.put, List.setIfInBounds_toArray, List.set_cons_zero, List.set_cons_succ, i64_w, i32_w]
      rfl
    refine pure_ (i := 9) (N := some 45) (v := ?_) (a' := ?_) #[true, true, true, true, true, true, true, true, true, true, false] rfl rfl (by kernel_rfl) (fun _ _ _ h => h) (Or.inl ⟨by rfl, ?_⟩) ?_ ?_
    rotate_left
    · intro w'
      go_simp
      with_reducible rfl
    rotate_left
    · simp only [Act.put, List.setIfInBounds_toArray, List.set_cons_zero, List.set_cons_succ, i64_w, i32_w]
      rfl
    have hfz := blk_frozen (H2.out.r2.at0) 0
    refine last_ (i := 10) (N := none) #[true, true, true, true, true, true, true, true, true, true, true] rfl rfl (by kernel_rfl) (by decide) (fun K hK => ?_)
    refine skip_ (w1 := ?_) (by rfl) rfl ?_ ?_
    rotate_left
    · go_simp
      rfl
    refine hK.out _ _ ?_
    clear hK K
    refine done_ (by kernel_rfl) ?_
    try go_wp2
    go_ret
    refine ⟨by rw [put_yes hn]; rfl, ?_⟩
    rw [put_yes hn]
    have h9 := (H2.out.r2.set 0 (.slice A2 (way.length + 1) c2))
    rw [List.setIfInBounds_toArray] at h9
    exact net_shut (good_snoc HG.out HP.out) (room_congr (cnt_snoc way ⟨p0, p1, p2⟩) (room_mono (N' := N + 1) (by omega) h9.r4.r3.tail.r3.tail)).r2.r2
end
end Go.Proofs.Ytdnpodpmicllgaa.PNetPlays
