/- Packets on their way (package net): Take, Lose. -/
import Derived.Test.YtdnpodpmicllgaaNet5
namespace Go.Proofs.Ytdnpodpmicllgaa.PNetPlays
open Go.RowKit Go.Proofs.YtdnpodpmicllgaaW.PrintWords Go.Proofs.YtdnpodpmicllgaaW.PrintLast Go.Proofs.YtdnpodpmicllgaaW.PrintMore
open Go.Proofs.YtdnpodpmicllgaaO Go.Proofs.YtdnpodpmicllgaaC Go.Proofs.YtdnpodpmicllgaaW.PrintLast
attribute [local go_sem] max2_int min2_int max_two min_two max_three min_three max_four min_four
set_option linter.unusedVariables false
set_option linter.unusedSimpArgs false
def takeR (way : List Pk) (i : Int) : List Pk × Pk × Int := if 0 ≤ i then match way[i.toNat]? with | some p => (way.eraseIdx i.toNat, p, 0) | none => (way, zPk, 4) else (way, zPk, 4)
section
variable {w0 w w' : World} {R : List Asn} {g N b : Nat} {way : List Pk} {ch : Int → Int → Option Nat} {cnt : Int → Int → Nat}
theorem room_look1 (h : Own w0 w (RoomA b N ch cnt :: R)) (f t : Int) (hf : wfI f) (ht : wfI t) : (Instr.lookup 47 (.map (some b)) (.agg #[.int .i64 f, .int .i64 t]) false).run Try.prog w = .ok (.chan (ch f t)) w := by
  obtain ⟨D, ho⟩ := room_out h
  obtain ⟨v, ps, hr, hv⟩ := ho.map.lookup lawLink Try.underlying47 (zeroCh w) (zd := zC) (zp := []) rfl (key_link f t hf ht)
  have hv' : elemC v = some (D.atKey (keyL f t) zC, ps) := hv
  obtain ⟨h1, h2⟩ := ho.has f t hf ht
  rw [hr]
  cases hc : ch f t with
  | none =>
    rw [hc] at h1
    rw [Maps.atKey_of_not_has (by rw [h1]; rfl)] at hv'
    rw [elemC_zero hv']
  | some c =>
    rw [h2 c hc] at hv'
    rw [elemC_inv hv']
theorem take_S {v : Value} {g6 cc : Nat} {p0 p1 : Int} {p2 : ByteArray} (h : Own w0 w (RoomA b N ch (cntW way) :: Blk g (.cells #[v, .map (some b)] 49 (0, 0)) :: Blk g6 (.cells #[.int .i64 p0, .int .i64 p1, .string p2] 25 (0, 0)) :: R)) (hc : wfI p0 ∧ wfI p1 ∧ ch p0 p1 = some cc) :
    w.cell? ⟨g, 1, none⟩ = some (.map (some b)) ∧ (w.cell? ⟨g6, 0, none⟩ = some (.int .i64 p0) ∧ w.cell? ⟨g6, 1, none⟩ = some (.int .i64 p1) ∧ (Instr.lookup 47 (.map (some b)) (.agg #[.int .i64 p0, .int .i64 p1]) false).run Try.prog w = .ok (.chan (some cc)) w ∧ ∃ s r, w.heap[cc]? = some (.chan 64 (Array.replicate (cntW way p0 p1) unitV) false s r false)) :=
  ⟨(blk_cell h.at1 1).trans rfl, (blk_cell h.at2 0).trans rfl, (blk_cell h.at2 1).trans rfl, by have := room_look1 h p0 p1 hc.1 hc.2.1; rwa [hc.2.2] at this, (room_chan h hc.2.2).2⟩
theorem set3 {g t : Nat} {a b c : Value} (x y z : Value) (h : Own w0 w (Blk g (.cells #[a, b, c] t (0, 0)) :: R)) : Own w0 (((w.setCell ⟨g, 0, none⟩ x).setCell ⟨g, 1, none⟩ y).setCell ⟨g, 2, none⟩ z) (Blk g (.cells #[x, y, z] t (0, 0)) :: R) :=
  ((h.set 0 x).set 1 y).set 2 z
theorem rep_tail (n : Nat) : (Array.replicate n unitV).extract 1 (Array.replicate n unitV).size = Array.replicate (n - 1) unitV := by
  apply Array.ext
  · simp
  · intro i h1 h2
    simp
theorem cnt_erase (way : List Pk) (k : Nat) (p : Pk) (hk : way[k]? = some p) (f t : Int) : updN (cntW way) p.f0 p.f1 (cntW way p.f0 p.f1 - 1) f t = cntW (way.eraseIdx k) f t := by
  have hlt := (List.getElem?_eq_some_iff.1 hk).1
  have hsplit : way = way.take k ++ p :: way.drop (k + 1) := by
    have h1 : way[k] = p := (List.getElem?_eq_some_iff.1 hk).2
    rw [← h1, List.getElem_cons_drop, List.take_append_drop]
  have he : way.eraseIdx k = way.take k ++ way.drop (k + 1) := List.eraseIdx_eq_take_drop_succ ..
  have h1 : ∀ f t, cntW way f t = cntW (way.eraseIdx k) f t + if p.f0 = f ∧ p.f1 = t then 1 else 0 := fun f t => by
    rw [he]
    conv => lhs; rw [hsplit]
    unfold cntW
    rw [List.countP_append, List.countP_append, List.countP_cons]
    by_cases hq : p.f0 = f ∧ p.f1 = t
    · rw [if_pos hq, if_pos (by simp [hq.1, hq.2])]; omega
    · rw [if_neg hq, if_neg (by simpa using hq)]; omega
  unfold updN
  by_cases h : f = p.f0 ∧ t = p.f1
  · obtain ⟨rfl, rfl⟩ := h
    have := h1 p.f0 p.f1
    rw [if_pos ⟨rfl, rfl⟩] at this
    rw [if_pos ⟨rfl, rfl⟩]
    omega
  · have := h1 f t
    rw [if_neg (fun q => h ⟨q.1.symm, q.2.symm⟩)] at this
    rw [if_neg h]
    omega
theorem take_done {bw c : Nat} {p : Pk} {k : Nat} {P6 : Asn} (hg : ∀ q ∈ way, goodP q) (hk : way[k]? = some p) (hpos : 0 < cntW way p.f0 p.f1)
    (h : Own w0 w (RoomA b N ch (updN (cntW way) p.f0 p.f1 (cntW way p.f0 p.f1 - 1)) :: Blk g (.cells #[.slice (some ⟨bw, 0, none⟩) (way.length - 1) c, .map (some b)] 49 (0, 0)) :: P6 :: Row k25 25 (.slice (some ⟨bw, 0, none⟩) (way.length - 1) c) (way.eraseIdx k) :: R)) : Own w0 w (NetA g (way.eraseIdx k) N :: R) :=
  net_shut (fun q hq => hg q (List.mem_of_mem_eraseIdx hq)) (room_congr (cnt_erase way k p hk) h.r2.tail).r2.r2
theorem ends_take : Go.Proofs.YtdnpodpmicllgaaC.endsIn (opsOf Try.f11 4) 10 11 (Array.replicate 11 false) = true := by kernel_rfl
set_option maxHeartbeats 4000000 in
set_option maxRecDepth 100000 in
theorem NetTake_nil (h : Own w0 w R) (i : Int) : Calls Try.prog 11 #[.pointer none, .int .i64 i] w fun e w' => e = .returned (.tuple #[.agg #[.int .i64 0, .int .i64 0, .string ⟨#[]⟩], .int .i64 2]) ∧ Own w0 w' R := by
  have H := Aside0.mk (h.alloc (.cells #[.int .i64 0, .int .i64 0, .string ⟨#[]⟩] 25))
  clear h
  go_enter Try.func11, Try.ntmps11
  go_wp2_with (go_at_call 23; ((with_reducible refine (NetFind_nilL H.out i).mono ?_)); rintro e w1 ⟨rfl, h⟩; have h9 := h.alloc (.cells #[.int .i64 0, .int .i64 0, .string ⟨#[]⟩] 25); have H1 := Aside0.mk h9; have y0 := (blk_cell h9.at0 0).trans rfl; have y1 := (blk_cell h9.at0 1).trans rfl; have y2 := (blk_cell h9.at0 2).trans rfl; have f0 := blk_frozen h9.at1 0; have f1 := blk_frozen h9.at1 1; have f2 := blk_frozen h9.at1 2; have x0 := (blk_cell h9.at1 0).trans rfl; have x1 := (blk_cell h9.at1 1).trans rfl; have x2 := (blk_cell h9.at1 2).trans rfl; clear h h9)
  exact bodyPost_ret (v := .tuple #[.agg (pkV zPk).toArray, .int .i64 2]) (results_ct (p := 4) (q := 5) rfl _ _ ⟨w.heap.size, 0, none⟩ _ _ rfl rfl (load_pk (set3 (.int .i64 0) (.int .i64 0) (.string ⟨#[]⟩) H1.out.r1).at0)) rfl ⟨rfl, (set3 (.int .i64 0) (.int .i64 0) (.string ⟨#[]⟩) H1.out.r1).tail.tail⟩
set_option maxHeartbeats 4000000 in
set_option maxRecDepth 100000 in
theorem NetTake_no (h : Own w0 w (NetA g way N :: R)) (i : Int) (hi : ¬ (0 ≤ i ∧ i < way.length)) : Calls Try.prog 11 #[.pointer (some ⟨g, 0, none⟩), .int .i64 i] w fun e w' => e = .returned (.tuple #[.agg #[.int .i64 0, .int .i64 0, .string ⟨#[]⟩], .int .i64 4]) ∧ Own w0 w' (NetA g way N :: R) := by
  have H := Aside0.mk (h.alloc (.cells #[.int .i64 0, .int .i64 0, .string ⟨#[]⟩] 25)).r1
  have HI := Aside0.mk hi
  clear h hi
  go_enter Try.func11, Try.ntmps11
  go_wp2_with (go_at_call 23; ((with_reducible refine (NetFind_noL H.out i HI.out).mono ?_)); rintro e w1 ⟨rfl, h⟩; have h9 := h.alloc (.cells #[.int .i64 0, .int .i64 0, .string ⟨#[]⟩] 25); have H1 := Aside0.mk h9; have y0 := (blk_cell h9.at0 0).trans rfl; have y1 := (blk_cell h9.at0 1).trans rfl; have y2 := (blk_cell h9.at0 2).trans rfl; have f0 := blk_frozen h9.at2 0; have x0 := (blk_cell h9.at2 0).trans rfl; have f1 := blk_frozen h9.at2 1; have x1 := (blk_cell h9.at2 1).trans rfl; have f2 := blk_frozen h9.at2 2; have x2 := (blk_cell h9.at2 2).trans rfl; clear h h9)
  exact bodyPost_ret (v := .tuple #[.agg (pkV zPk).toArray, .int .i64 4]) (results_ct (p := 4) (q := 5) rfl _ _ ⟨w.heap.size, 0, none⟩ _ _ rfl rfl (load_pk (set3 (.int .i64 0) (.int .i64 0) (.string ⟨#[]⟩) H1.out.r2).at0)) rfl ⟨rfl, (set3 (.int .i64 0) (.int .i64 0) (.string ⟨#[]⟩) H1.out.r2).tail.tail⟩
set_option maxHeartbeats 4000000 in
set_option maxRecDepth 100000 in
theorem NetTake_yes (h : Own w0 w (NetA g way N :: R)) (k : Nat) (p0 p1 : Int) (p2 : ByteArray) (hk : way[k]? = some ⟨p0, p1, p2⟩) (hl : way.length ≤ 1000000000) : Calls Try.prog 11 #[.pointer (some ⟨g, 0, none⟩), .int .i64 k] w fun e w' => e = .returned (.tuple #[.agg #[.int .i64 p0, .int .i64 p1, .string p2], .int .i64 0]) ∧ Own w0 w' (NetA g (way.eraseIdx k) N :: R) := by
  have H := Aside0.mk (h.alloc (.cells #[.int .i64 0, .int .i64 0, .string ⟨#[]⟩] 25)).r1
  have HK := Aside0.mk hk
  clear h hk
  refine calls_of_wpN Try.func11 rfl ?_
  simp only [Try.ntmps11, List.size_toArray, List.length_cons, List.length_nil, Nat.reduceAdd, Nat.reduceSub, Array.replicate_succ, Array.replicate_zero, List.push_toArray, List.append_toArray, List.nil_append, List.cons_append]
  refine WpN.seq (WpN.of ?_)
  go_wp2
  obtain ⟨g4, hg4⟩ : ∃ g4, g4 = w.heap.size := ⟨_, rfl⟩
  rw [← hg4] at H ⊢
  clear hg4
  refine WpN.seq (WpN.of ?_)
  go_wp2_with (go_at_call 23; ((with_reducible refine (NetFind_yesL H.out k p0 p1 p2 HK.out).mono ?_)); rintro e w1 ⟨rfl, h⟩; have H1 := Aside0.mk (h.alloc (.cells #[.int .i64 p0, .int .i64 p1, .string p2] 25)); clear h)
  obtain ⟨g6, hg6⟩ : ∃ g6, g6 = w1.heap.size := ⟨_, rfl⟩
  rw [← hg6] at H1 ⊢
  generalize hw2 : w1.alloc _ = w2 at H1 ⊢
  clear hw2 hg6
  obtain ⟨A, c, b, ch, hgood, h2⟩ := net_open H1.out.r1
  have hkl := (List.getElem?_eq_some_iff.1 HK.out).1
  obtain ⟨bw, c2, e1⟩ := row_form' h2.tail (by omega)
  injection e1 with e1 _ e3
  subst e1
  subst e3
  have hgp := hgood _ (List.mem_of_getElem? HK.out)
  have HG := Aside0.mk hgood
  have hwf : wfI p0 ∧ wfI p1 := ⟨wf9 hgp.1 hgp.2.1, wf9 hgp.2.2.1 hgp.2.2.2⟩
  have hpos : 0 < cntW way p0 p1 := List.countP_pos_iff.2 ⟨_, List.mem_of_getElem? HK.out, by simp⟩
  obtain ⟨cc, hcc⟩ : ∃ cc, ch p0 p1 = some cc := by
    cases hq : ch p0 p1 with
    | some cc => exact ⟨cc, rfl⟩
    | none =>
      obtain ⟨D, ho⟩ := room_out h2.r2
      have := ho.no p0 p1 hq
      omega
  have HCC := Aside0.mk (show wfI p0 ∧ wfI p1 ∧ ch p0 p1 = some cc from ⟨hwf.1, hwf.2, hcc⟩)
  have HPOS := Aside0.mk hpos
  have H2 := Aside0.mk h2.r1
  have x0 := (blk_cell h2.at0 0).trans rfl
  have hkn : k < way.length := hkl
  clear h2 hgood hgp hwf hpos hcc hkl
  refine WpN.seq (WpN.seq (WpN.of ?_))
  go_wp2
  refine WpN.cond (t := true) rfl ?_
  rw [if_pos rfl]
  refine WpN.seq (WpN.of ?_)
  go_wp2_with (go_at_call 24; ((with_reducible refine (PkDelete H2.out k hkn hl).mono ?_)); rintro e w3 ⟨rfl, h⟩; have H3 := Aside0.mk (h.r1.set 0 (.slice (some ⟨bw, 0, none⟩) (way.length - 1) c)); have f0 := blk_frozen h.at1 0; have x2 := (blk_cell h.at1 0).trans rfl; clear h)
  rw [List.setIfInBounds_toArray] at H3
  have HD := Aside0.mk (H3.out.r1.r3.r2.r3.drew)
  refine wpN_recvQ (n := 10) (m := 11) (S := fun w' => w'.cell? ⟨g, 1, none⟩ = some (.map (some b)) ∧ (w'.cell? ⟨g6, 0, none⟩ = some (.int .i64 p0) ∧ w'.cell? ⟨g6, 1, none⟩ = some (.int .i64 p1) ∧ (Instr.lookup 47 (.map (some b)) (.agg #[.int .i64 p0, .int .i64 p1]) false).run Try.prog w' = .ok (.chan (some cc)) w' ∧ ∃ s r, w'.heap[cc]? = some (.chan 64 (Array.replicate (cntW way p0 p1) unitV) false s r false))) { dst := none, op := .move (.const (.bool true)), type := 0, pos := "", after := #[{ on := 9, ground := .data }], guard := none } (by kernel_rfl) rfl (by decide) rfl rfl rfl rfl (by kernel_rfl) ends_take (take_S HD.out HCC.out) rfl rfl (fun hHeld => ?_)
  generalize hwd : (World.drew _) = wd at HD hHeld ⊢
  clear hwd
  refine pure_ (i := 0) (N := some 27) (v := ?_) (a' := ?_) #[true, false, false, false, false, false, false, false, false, false, false] rfl rfl (by kernel_rfl) (fun _ _ _ h => h) (Or.inl ⟨by rfl, ?_⟩) ?_ ?_
  rotate_left
  · intro w'
    go_simp
    with_reducible rfl
  rotate_left
  · simp only [Act.put, List.setIfInBounds_toArray, List.set_cons_zero, List.set_cons_succ, i64_w, i32_w]
    rfl
  refine pure_ (i := 1) (N := some 28) (v := ?_) (a' := ?_) #[true, true, false, false, false, false, false, false, false, false, false] rfl rfl (by kernel_rfl) (fun _ _ _ h => h) (Or.inl ⟨by rfl, ?_⟩) ?_ ?_
  rotate_left
  · intro w'
    go_simp
    with_reducible rfl
  rotate_left
  · simp only [Act.put, List.setIfInBounds_toArray, List.set_cons_zero, List.set_cons_succ, i64_w, i32_w]
    rfl
  refine pure_ (i := 2) (N := some 29) (v := ?_) (a' := ?_) #[true, true, true, false, false, false, false, false, false, false, false] rfl rfl (by kernel_rfl) (fun _ _ _ h => h) (Or.inl ⟨by rfl, ?_⟩) ?_ ?_
  rotate_left
  · intro w'
    go_simp
    with_reducible rfl
  rotate_left
  · simp only [Act.put, List.setIfInBounds_toArray, List.set_cons_zero, List.set_cons_succ, i64_w, i32_w]
    rfl
  refine take_ (i := 3) (N := some 30) (v := ?_) (a' := ?_) #[true, true, true, true, false, false, false, false, false, false, false] rfl rfl (by kernel_rfl) (fun _ _ _ h => h) (Or.inl ⟨by rfl, ?_⟩) hHeld ?_ ?_
  rotate_left
  · rintro w' ⟨s0, s1, s2, s3, s4⟩
    go_simp
    with_reducible rfl
  rotate_left
  · simp only [Act.put, List.setIfInBounds_toArray, List.set_cons_zero, List.set_cons_succ, i64_w, i32_w]
    rfl
  refine pure_ (i := 4) (N := some 31) (v := ?_) (a' := ?_) #[true, true, true, true, true, false, false, false, false, false, false] rfl rfl (by kernel_rfl) (fun _ _ _ h => h) (Or.inl ⟨by rfl, ?_⟩) ?_ ?_
  rotate_left
  · intro w'
    go_simp
    with_reducible rfl
  rotate_left
  · simp only [Act.put, List.setIfInBounds_toArray, List.set_cons_zero, List.set_cons_succ, i64_w, i32_w]
    rfl
  refine take_ (i := 5) (N := some 32) (v := ?_) (a' := ?_) #[true, true, true, true, true, true, false, false, false, false, false] rfl rfl (by kernel_rfl) (fun _ _ _ h => h) (Or.inl ⟨by rfl, ?_⟩) hHeld ?_ ?_
  rotate_left
  · rintro w' ⟨s0, s1, s2, s3, s4⟩
    go_simp
    with_reducible rfl
  rotate_left
  · simp only [Act.put, List.setIfInBounds_toArray, List.set_cons_zero, List.set_cons_succ, i64_w, i32_w]
    rfl
  refine pure_ (i := 6) (N := some 33) (v := ?_) (a' := ?_) #[true, true, true, true, true, true, true, false, false, false, false] rfl rfl (by kernel_rfl) (fun _ _ _ h => h) (Or.inl ⟨by rfl, ?_⟩) ?_ ?_
  rotate_left
  · intro w'
    go_simp
    with_reducible rfl
  rotate_left
  · simp only [Act.put, List.setIfInBounds_toArray, List.set_cons_zero, List.set_cons_succ, i64_w, i32_w]
    rfl
  refine take_ (i := 7) (N := some 34) (v := ?_) (a' := ?_) #[true, true, true, true, true, true, true, true, false, false, false] rfl rfl (by kernel_rfl) (fun _ _ _ h => h) (Or.inl ⟨by rfl, ?_⟩) hHeld ?_ ?_
  rotate_left
  · rintro w' ⟨s0, s1, s2, s3, s4⟩
    go_simp
    with_reducible rfl
  rotate_left
  · simp only [Act.put, List.setIfInBounds_toArray, List.set_cons_zero, List.set_cons_succ, i64_w, i32_w]
    rfl
  refine pure_ (i := 8) (N := some 35) (v := ?_) (a' := ?_) #[true, true, true, true, true, true, true, true, true, false, false] rfl rfl (by kernel_rfl) (fun _ _ _ h => h) (Or.inl ⟨by rfl, ?_⟩) ?_ ?_
  rotate_left
  · intro w'
    go_simp
    with_reducible rfl
  rotate_left
  · simp only [Act.put, List.setIfInBounds_toArray, List.set_cons_zero, List.set_cons_succ, i64_w, i32_w]
    rfl
  refine take_ (i := 9) (N := some 36) (v := ?_) (a' := ?_) #[true, true, true, true, true, true, true, true, true, true, false] rfl rfl (by kernel_rfl) (fun _ _ _ h => h) (Or.inl ⟨by rfl, ?_⟩) hHeld ?_ ?_
  rotate_left
  · rintro w' ⟨s0, s1, s2, s3, s4⟩
    go_simp
    with_reducible rfl
  rotate_left
  · simp only [Act.put, List.setIfInBounds_toArray, List.set_cons_zero, List.set_cons_succ, i64_w, i32_w]
    rfl
  refine pure_ (i := 10) (N := none) (v := ?_) (a' := ?_) #[true, true, true, true, true, true, true, true, true, true, true] rfl rfl (by kernel_rfl) (fun _ _ _ h => h) (Or.inl ⟨by rfl, ?_⟩) ?_ ?_
  rotate_left
  · intro w'
    go_simp
    with_reducible rfl
  rotate_left
  · simp only [Act.put, List.setIfInBounds_toArray, List.set_cons_zero, List.set_cons_succ, i64_w, i32_w]
    rfl
  refine done_ (by kernel_rfl) ?_
  obtain ⟨_, _, _, _, s, r, hch⟩ := hHeld
  refine ⟨_, _, comm_recv (c := cc) (z := .agg #[]) rfl rfl (by simp [execOp, Go.Conc.rcase, Act.eval]) hch (by rw [Array.size_replicate]; exact HPOS.out), ?_⟩
  have HS := Aside0.mk (room_set HD.out HCC.out.2.2 (cntW way p0 p1 - 1) (by have := room_le HD.out p0 p1; omega) s (r + 1))
  rw [← rep_tail] at HS
  generalize hws : World.setChan _ cc 64 _ false _ _ false = ws at HS ⊢
  clear hws hch
  have y0 := (blk_cell HS.out.at2 0).trans rfl
  have y1 := (blk_cell HS.out.at2 1).trans rfl
  have y2 := (blk_cell HS.out.at2 2).trans rfl
  have f0 := blk_frozen HS.out.r4.at0 0
  have f1 := blk_frozen HS.out.r4.at0 1
  have f2 := blk_frozen HS.out.r4.at0 2
  have x0 := (blk_cell HS.out.r4.at0 0).trans rfl
  have x1 := (blk_cell HS.out.r4.at0 1).trans rfl
  have x2 := (blk_cell HS.out.r4.at0 2).trans rfl
  refine WpN.of ?_
  go_wp2
  exact bodyPost_ret (v := .tuple #[.agg (pkV ⟨p0, p1, p2⟩).toArray, .int .i64 0]) (results_ct (p := 4) (q := 5) rfl _ _ ⟨g4, 0, none⟩ _ _ rfl rfl (load_pk (set3 (.int .i64 p0) (.int .i64 p1) (.string p2) HS.out.r4).at0)) rfl ⟨rfl, take_done HG.out HK.out HPOS.out (set3 (.int .i64 p0) (.int .i64 p1) (.string p2) HS.out.r4).tail⟩
theorem takeR_yes {k : Nat} {p : Pk} (hk : way[k]? = some p) : takeR way (k : Int) = (way.eraseIdx k, p, 0) := by
  unfold takeR
  rw [if_pos (by omega), Int.toNat_natCast, hk]
theorem takeR_no {i : Int} (hi : ¬ (0 ≤ i ∧ i < way.length)) : takeR way i = (way, zPk, 4) := by
  unfold takeR
  by_cases h0 : 0 ≤ i
  · rw [if_pos h0, List.getElem?_eq_none (by omega)]
  · rw [if_neg h0]
theorem NetTake (h : Own w0 w (NetA g way N :: R)) (i : Int) (hl : way.length ≤ 1000000000) : Calls Try.prog 11 #[.pointer (some ⟨g, 0, none⟩), .int .i64 i] w fun e w' => e = .returned (.tuple #[.agg #[.int .i64 (takeR way i).2.1.f0, .int .i64 (takeR way i).2.1.f1, .string (takeR way i).2.1.f2], .int .i64 (takeR way i).2.2]) ∧ Own w0 w' (NetA g (takeR way i).1 N :: R) := by
  by_cases hi : 0 ≤ i ∧ i < way.length
  · obtain ⟨k, rfl⟩ := Int.eq_ofNat_of_zero_le hi.1
    have hk : k < way.length := by omega
    have hgk := List.getElem?_eq_getElem hk
    generalize way[k] = p at hgk
    obtain ⟨p0, p1, p2⟩ := p
    rw [takeR_yes hgk]
    exact NetTake_yes h k p0 p1 p2 hgk hl
  · rw [takeR_no hi]
    exact NetTake_no h i hi
set_option maxHeartbeats 4000000 in
set_option maxRecDepth 100000 in
theorem NetLose_nil (h : Own w0 w R) (i : Int) : Calls Try.prog 13 #[.pointer none, .int .i64 i] w fun e w' => e = .returned (.int .i64 2) ∧ Own w0 w' R := by
  have H := Aside0.mk h
  clear h
  go_enter Try.func13, Try.ntmps13
  go_wp2_with (go_at_call 11; ((with_reducible refine (NetTake_nil H.out i).mono ?_)); rintro e w1 ⟨rfl, h⟩; have H1 := Aside0.mk h; clear h)
  go_ret
  exact ⟨rfl, H1.out.junk _⟩
set_option maxHeartbeats 4000000 in
set_option maxRecDepth 100000 in
theorem NetLose (h : Own w0 w (NetA g way N :: R)) (i : Int) (hl : way.length ≤ 1000000000) : Calls Try.prog 13 #[.pointer (some ⟨g, 0, none⟩), .int .i64 i] w fun e w' => e = .returned (.int .i64 (takeR way i).2.2) ∧ Own w0 w' (NetA g (takeR way i).1 N :: R) := by
  have H := Aside0.mk h
  clear h
  go_enter Try.func13, Try.ntmps13
  go_wp2_with (go_at_call 11; ((with_reducible refine (NetTake H.out i hl).mono ?_)); rintro e w1 ⟨rfl, h⟩; have H1 := Aside0.mk h; clear h)
  go_ret
  exact ⟨rfl, H1.out.junk _⟩
end
end Go.Proofs.Ytdnpodpmicllgaa.PNetPlays
