/- Packets on their way: the document's answer (meterref05). -/
import Derived.Test.YtdnpodpmicllgaaNet7
import Derived.Deep.MidRow
import Derived.Deep.QuietTactic
namespace Go.Proofs.Ytdnpodpmicllgaa.PNetPlays
open Go.RowKit Go.Proofs.YtdnpodpmicllgaaW.PrintWords Go.Proofs.YtdnpodpmicllgaaW.PrintLast Go.Proofs.YtdnpodpmicllgaaW.PrintMore
open Go.Proofs.YtdnpodpmicllgaaO Go.Proofs.YtdnpodpmicllgaaC
attribute [local go_sem] max2_int min2_int max_two min_two max_three min_three max_four min_four
set_option linter.unusedVariables false
set_option linter.unusedSimpArgs false
theorem infoPk3 : (Try.prog.info? 25).map (fun i => (i.zero, i.size, i.bytes)) = some (some (.agg #[.int .i64 0, .int .i64 0, .string ⟨#[]⟩]), k25.sz, 32) := infoP
section
variable {P : Program} {ops : Array Oper} {rest : List Oper} {o : Oper} {a : Act} {Q : Exit → Act → World → Prop}
/-- append(v, ys...) of packets. -/
theorem own_append_pk {w0 W : World} {L : List Asn} (hgd : o.guard = none) (s x : Operand) (ho : o.op = .call { callee := .builtin .append, args := #[s, x], argTypes := #[36, 36] })
    (v : Value) (xs ys : List Pk) (A : Option Addr) (m c nx : Nat) (hnx : xs.length = nx) (hs : a.eval s = v) (hx : a.eval x = .slice A m c)
    (h : Own w0 W (Row k25 25 v xs :: L)) (hC : Kd.C k25 W A m ys) (hl : nx + m ≤ 1000000000)
    (hK : ∀ A' c' w1, Own w0 w1 (Row k25 25 (.slice A' (nx + m) c') (xs ++ ys) :: L) → wpList Try.prog ops Q rest (a.put o.dst (.slice A' (nx + m) c')) w1) :
    wpList Try.prog ops Q (o :: rest) a W := by
  subst hnx
  obtain ⟨F, h1, h2, h3⟩ := h.open1
  refine Kd.R_append_rows k25 (w0 := w0) w0.heap.size hgd s x 36 25 _ 32 ho Try.underlying36 infoPk3 rfl (by decide) (by omega) v xs ys A m c (fun k => F k ∨ W.heap.size ≤ k) (fun _ => False) hs hx (Kd.R_mono h1.1 fun k hk => .inl hk) hC (fun p cs hp => ?_) (fun _ hk => hk.elim) (fun k hk => .inr hk) h.bel h.bel.size (by omega) ?_
  · rw [k25_open hp]
    exact k25_mkM _ _ _ _
  · intro v1 w1 hr hb hg hat
    obtain ⟨A', c', e1⟩ := Kd.R_slice hr
    subst e1
    have hm : ys.length = m := hC.1
    rw [List.length_append, hm] at hr ⊢
    exact hK A' c' w1 (h3 w1 _ ⟨hg.os, hg.tape, hg.output, hg.size, fun k hk hn => hg.block k hk (fun e => hn (h1.1.1 k e.symm)), _, ⟨Kd.R_bound hr, fun k hk => hk.2.2.1⟩, fun k hk => hk.1⟩)
end
theorem C_take {w : World} {b n : Nat} {way : List Pk} (h : Kd.C k25 w (some ⟨b, 0, none⟩) n way) (i : Nat) (hi : i ≤ n) : Kd.C k25 w (some ⟨b, 0, none⟩) i (way.take i) := by
  have hn : way.length = n := h.1
  refine ⟨by rw [List.length_take]; omega, by have := h.2.1; omega, fun h0 => ?_⟩
  obtain ⟨ad, e, hc⟩ := h.2.2 (by omega)
  refine ⟨ad, e, fun j p hj => ?_⟩
  rw [List.getElem?_take] at hj
  split at hj
  · exact hc j p hj
  · cases hj
theorem C_drop {w : World} {b n : Nat} {way : List Pk} (h : Kd.C k25 w (some ⟨b, 0, none⟩) n way) (i : Nat) (hi : i ≤ n) (A : Option Addr) (hA : i < n → A = some ⟨b, i * 3, none⟩) : Kd.C k25 w A (n - i) (way.drop i) := by
  have hn : way.length = n := h.1
  refine ⟨by rw [List.length_drop]; omega, by have := h.2.1; omega, fun h0 => ?_⟩
  obtain ⟨ad, e, hc⟩ := h.2.2 (by omega)
  cases e
  refine ⟨_, hA (by omega), fun j p hj => ?_⟩
  rw [List.getElem?_drop] at hj
  obtain ⟨cs, h1, h2, h3⟩ := hc _ p hj
  refine ⟨cs, h1, h2, fun t u hu => ?_⟩
  have := h3 t u hu
  rw [add_at] at this
  rw [add_at']
  rw [pk_sz] at this ⊢
  rw [show i * 3 + (j * 3 + t) = (i + j) * 3 + t by omega]
  exact this
def RefA (g : Nat) (way : List Pk) : Asn := ex fun v : Value => star (Blk g (.cells #[v] 38 (0, 0))) (Row k25 25 v way)
section
variable {w0 w w' : World} {R : List Asn} {g : Nat} {way : List Pk}
theorem ref_open (h : Own w0 w (RefA g way :: R)) : ∃ (A : Option Addr) (c : Nat), Own w0 w (Blk g (.cells #[.slice A way.length c] 38 (0, 0)) :: Row k25 25 (.slice A way.length c) way :: R) := by
  obtain ⟨v, h⟩ := h.ex_out
  have h2 := h.split.r1
  obtain ⟨A, c, rfl, _, _⟩ := h2.row_reads
  exact ⟨A, c, h2.r1⟩
theorem ref_shut {v : Value} (h : Own w0 w (Blk g (.cells #[v] 38 (0, 0)) :: Row k25 25 v way :: R)) : Own w0 w (RefA g way :: R) := .ex_in v h.join
theorem ref_new (h : Own w0 w R) : Own w0 (w.alloc (.cells #[.slice none 0 0] 38)) (RefA w.heap.size [] :: R) :=
  ref_shut ((h.row_nil k25 25).alloc _)
theorem refput_S {P1 : Asn} {v : Value} (gp : Nat) (p0 p1 : Int) (p2 : ByteArray) (h : Own w0 w (P1 :: Blk gp (.cells #[.int .i64 p0, .int .i64 p1, .string p2] 25 (0, 0)) :: Blk g (.cells #[v] 38 (0, 0)) :: R)) : w.cell? ⟨g, 0, none⟩ = some v ∧ (w.cell? ⟨gp, 0, none⟩ = some (.int .i64 p0) ∧ w.cell? ⟨gp, 1, none⟩ = some (.int .i64 p1) ∧ w.cell? ⟨gp, 2, none⟩ = some (.string p2)) :=
  ⟨(blk_cell h.at2 0).trans rfl, (blk_cell h.at1 0).trans rfl, (blk_cell h.at1 1).trans rfl, (blk_cell h.at1 2).trans rfl⟩
theorem set3' {g t : Nat} {a b c : Value} (x y z : Value) (h : Own w0 w (Blk g (.cells #[a, b, c] t (0, 0)) :: R)) : Own w0 (((w.setCell ⟨g, 0, none⟩ x).setCell ⟨g, 1, none⟩ y).setCell ⟨g, 2, none⟩ z) (Blk g (.cells #[x, y, z] t (0, 0)) :: R) :=
  ((h.set 0 x).set 1 y).set 2 z
theorem cnt_take (way : List Pk) (i : Nat) (x : Pk) (hx : way[i]? = some x) (f t : Int) : cntW (way.take (i + 1)) f t = cntW (way.take i) f t + if x.f0 = f ∧ x.f1 = t then 1 else 0 := by
  unfold cntW
  rw [List.take_add_one, hx, Option.toList_some, List.countP_append, List.countP_singleton]
  by_cases h : x.f0 = f ∧ x.f1 = t
  · rw [if_pos h, if_pos (by simp [h.1, h.2])]
  · rw [if_neg h, if_neg (by simpa using h)]
set_option maxHeartbeats 8000000 in
set_option maxRecDepth 100000 in
theorem RefPut (h : Own w0 w (RefA g way :: R)) (p0 p1 : Int) (p2 : ByteArray) (hl : way.length ≤ 1000000000) (way' : List Pk) (r : Int) (he : putR way ⟨p0, p1, p2⟩ = (way', r)) : Calls Try.prog 29 #[.pointer (some ⟨g, 0, none⟩), .agg #[.int .i64 p0, .int .i64 p1, .string p2]] w fun e w' => e = .returned (.int .i64 r) ∧ Own w0 w' (RefA g way' :: R) := by
  obtain ⟨A, c, h2⟩ := ref_open h
  have h3 := h2.alloc (.cells #[.int .i64 p0, .int .i64 p1, .string p2] 25)
  obtain ⟨gp, hgp⟩ : ∃ gp, gp = w.heap.size := ⟨_, rfl⟩
  rw [← hgp] at h3
  have H := Aside0.mk h3.r2
  have HE := Aside0.mk he
  clear h h2 h3 he
  go_enter Try.func29, Try.ntmps29
  go_wp2
  obtain ⟨W, hW⟩ : ∃ W, W = w.alloc (.cells #[.int .i64 p0, .int .i64 p1, .string p2] 25) := ⟨_, rfl⟩
  rw [← hW] at H ⊢
  rw [← hgp]
  clear hW hgp
  go_loopw [5, 6] (fun v5 v6 wr => ∃ i : Nat, i ≤ way.length ∧ v6 = .int .i64 i ∧ v5 = .int .i64 (cntW (way.take i) p0 p1) ∧ Aside0 (Own w0 wr (Row k25 25 (.slice A way.length c) way :: Blk gp (.cells #[.int .i64 p0, .int .i64 p1, .string p2] 25 (0, 0)) :: Blk g (.cells #[.slice A way.length c] 38 (0, 0)) :: R))) (fun _ v6 _ => way.length - (RowKit.intOf v6).toNat)
  case atStart => exact ⟨0, Nat.zero_le _, rfl, rfl, H⟩
  case round =>
    obtain ⟨i, hi, rfl, rfl, HO⟩ := hrel
    have z0 := (blk_cell HO.out.at1 0).trans rfl
    have z1 := (blk_cell HO.out.at1 1).trans rfl
    have x0_ := (blk_cell HO.out.at2 0).trans rfl
    by_cases hlt : i < way.length
    · have hgk := List.getElem?_eq_getElem hlt
      generalize way[i] = p at hgk
      obtain ⟨x0, x1, x2⟩ := p
      have hct := cnt_take way i _ hgk p0 p1
      obtain ⟨bw, c2, e1⟩ := row_form' HO.out (by omega)
      injection e1 with e1 _ e3
      subst e1
      subst e3
      have hfb := add_at bw
      have q0 := pk_cell HO.out i _ hgk 0 _ rfl
      have q1 := pk_cell HO.out i _ hgk 1 _ rfl
      rw [Nat.add_zero] at q0
      have hcl : cntW (way.take i) p0 p1 ≤ way.length := by unfold cntW; have h1 := List.countP_le_length (p := fun p : Pk => p.f0 == p0 && p.f1 == p1) (l := way.take i); rw [List.length_take] at h1; omega
      clear hgk
      dsimp only at hct
      by_cases h0 : x0 = p0
      · by_cases h1 : x1 = p1
        · rw [if_pos ⟨h0, h1⟩] at hct
          have CT := Aside0.mk hct
          subst h0
          subst h1
          clear hct
          go_wp2
          go_quiet (fail)
          go_wp2
          go_roundw
          case rel => exact ⟨i + 1, by omega, by first | rfl | go_num, by rw [CT.out]; first | rfl | go_num, ⟨HO.out.drewN _⟩⟩
          case measure => first | (simp [RowKit.intOf]; done) | (simp [RowKit.intOf]; omega)
        · rw [if_neg (fun q => h1 q.2), Nat.add_zero] at hct
          have CT := Aside0.mk hct
          subst h0
          have hb1 : (x1 == p1) = false := beq_eq_false_iff_ne.mpr h1
          have hd1 : decide (x1 = p1) = false := decide_eq_false h1
          clear hct
          go_wp2
          go_quiet (fail)
          go_wp2
          go_roundw
          case rel => exact ⟨i + 1, by omega, by first | rfl | go_num, by rw [CT.out]; first | rfl | go_num, ⟨HO.out.drewN _⟩⟩
          case measure => first | (simp [RowKit.intOf]; done) | (simp [RowKit.intOf]; omega)
      · rw [if_neg (fun q => h0 q.1), Nat.add_zero] at hct
        have CT := Aside0.mk hct
        have hb0 : (x0 == p0) = false := beq_eq_false_iff_ne.mpr h0
        have hd0 : decide (x0 = p0) = false := decide_eq_false h0
        clear hct
        go_wp2
        go_quiet (fail)
        go_wp2
        go_roundw
        case rel => exact ⟨i + 1, by omega, by first | rfl | go_num, by rw [CT.out]; first | rfl | go_num, ⟨HO.out.drewN _⟩⟩
        case measure => first | (simp [RowKit.intOf]; done) | (simp [RowKit.intOf]; omega)
    · have hin : i = way.length := by omega
      subst hin
      rw [List.take_length]
      have hcl : cntW way p0 p1 ≤ way.length := List.countP_le_length
      obtain ⟨m, hm⟩ : ∃ m, m = cntW way p0 p1 := ⟨_, rfl⟩
      rw [← hm] at hcl ⊢
      by_cases h64 : m < 64
      · have hd : decide ((m : Int) ≥ 64) = false := decide_eq_false (by omega)
        have hd2 : decide (64 ≤ m) = false := decide_eq_false (by omega)
        have hd3 : decide (64 ≤ (m : Int)) = false := decide_eq_false (by omega)
        have HR := Aside0.mk (show way' = way ++ [⟨p0, p1, p2⟩] ∧ r = 0 by have e := HE.out; unfold putR at e; rw [if_pos (show cntW way p0 p1 < 64 by omega)] at e; cases e; exact ⟨rfl, rfl⟩)
        have HD := Aside0.mk HO.out.drew
        clear hm hlt hi
        go_wp2
        refine start_ (n := 11) (S := fun w' => w'.cell? ⟨g, 0, none⟩ = some (.slice A way.length c) ∧ (w'.cell? ⟨gp, 0, none⟩ = some (.int .i64 p0) ∧ w'.cell? ⟨gp, 1, none⟩ = some (.int .i64 p1) ∧ w'.cell? ⟨gp, 2, none⟩ = some (.string p2))) (ds := [10]) #[false, false, false, false, false, false, false, false, false, false, false] (by kernel_rfl) rfl rfl (refput_S gp p0 p1 p2 (HD.out)) (fun hHeld => ?_)
        generalize hwd : (World.drew _) = wd at HD hHeld ⊢
        clear hwd
        refine pure_ (i := 0) (N := some 44) (v := ?_) (a' := ?_) #[true, false, false, false, false, false, false, false, false, false, false] rfl rfl (by kernel_rfl) (fun _ _ _ h => h) (Or.inl ⟨by rfl, ?_⟩) ?_ ?_
        rotate_left
        · intro w'
          go_simp
          with_reducible rfl
        rotate_left
        · simp only [Act.put, List.setIfInBounds_toArray, List.set_cons_zero, List.set_cons_succ, i64_w, i32_w]
          rfl
        refine pure_ (i := 1) (N := some 45) (v := ?_) (a' := ?_) #[true, true, false, false, false, false, false, false, false, false, false] rfl rfl (by kernel_rfl) (fun _ _ _ h => h) (Or.inl ⟨by rfl, ?_⟩) ?_ ?_
        rotate_left
        · intro w'
          go_simp
          with_reducible rfl
        rotate_left
        · simp only [Act.put, List.setIfInBounds_toArray, List.set_cons_zero, List.set_cons_succ, i64_w, i32_w]
          rfl
        refine pure_ (i := 2) (N := some 46) (v := ?_) (a' := ?_) #[true, true, true, false, false, false, false, false, false, false, false] rfl rfl (by kernel_rfl) (fun _ _ _ h => h) (Or.inl ⟨by rfl, ?_⟩) ?_ ?_
        rotate_left
        · intro w'
          go_simp
          with_reducible rfl
        rotate_left
        · simp only [Act.put, List.setIfInBounds_toArray, List.set_cons_zero, List.set_cons_succ, i64_w, i32_w]
          rfl
        refine pure_ (i := 3) (N := some 47) (v := ?_) (a' := ?_) #[true, true, true, true, false, false, false, false, false, false, false] rfl rfl (by kernel_rfl) (fun _ _ _ h => h) (Or.inl ⟨by rfl, ?_⟩) ?_ ?_
        rotate_left
        · intro w'
          go_simp
          with_reducible rfl
        rotate_left
        · simp only [Act.put, List.setIfInBounds_toArray, List.set_cons_zero, List.set_cons_succ, i64_w, i32_w]
          rfl
        refine take_ (i := 4) (N := some 48) (v := ?_) (a' := ?_) #[true, true, true, true, true, false, false, false, false, false, false] rfl rfl (by kernel_rfl) (fun _ _ _ h => h) (Or.inl ⟨by rfl, ?_⟩) hHeld ?_ ?_
        rotate_left
        · rintro w' ⟨s0, s1, s2, s3⟩
          go_simp
          with_reducible rfl
        rotate_left
        · simp only [Act.put, List.setIfInBounds_toArray, List.set_cons_zero, List.set_cons_succ, i64_w, i32_w]
          rfl
        refine take_ (i := 5) (N := some 49) (v := ?_) (a' := ?_) #[true, true, true, true, true, true, false, false, false, false, false] rfl rfl (by kernel_rfl) (fun _ _ _ h => h) (Or.inl ⟨by rfl, ?_⟩) hHeld ?_ ?_
        rotate_left
        · rintro w' ⟨s0, s1, s2, s3⟩
          go_simp
          with_reducible rfl
        rotate_left
        · simp only [Act.put, List.setIfInBounds_toArray, List.set_cons_zero, List.set_cons_succ, i64_w, i32_w]
          rfl
        refine one_ (i := 6) (N := some 50) #[true, true, true, true, true, true, true, false, false, false, false] rfl rfl (by kernel_rfl) (by decide) (fun K hK => ?_)
        refine value_ (w1 := ?_) (v := ?_) (by rfl) rfl ?_ ?_
        rotate_left 2
        · go_simp
          constructor
          · rfl
          · rfl
        refine hK.out _ _ (refput_S gp p0 p1 p2 (HD.out.junk _)) (fun hHeld => ?_)
        clear hK K
        refine norm_ (a' := ?_) ?_ ?_
        rotate_left
        · simp only [Act.put, List.setIfInBounds_toArray, List.set_cons_zero, List.set_cons_succ, i64_w, i32_w]
          rfl
        refine one_ (i := 7) (N := some 51) #[true, true, true, true, true, true, true, true, false, false, false] rfl rfl (by kernel_rfl) (by decide) (fun K hK => ?_)
        rw [if_pos (by rfl)]
        refine oper_of_list rfl ?_
        refine Own.append k25 rfl (.tmp 48) (.tmp 50) 36 25 _ 32 rfl Try.underlying36 infoP rfl (by decide) (by omega) (.slice A way.length c) way ⟨p0, p1, p2⟩ _ rfl rfl (fun _ => k25_mkM _ _ _ _) HD.out (by omega) ?_
        intro A2 c2 w2 h2
        have H2 := Aside0.mk h2
        clear h2
        show K _ _
        refine hK.out _ _ (refput_S gp p0 p1 p2 (H2.out)) (fun hHeld => ?_)
        clear hK K
        refine norm_ (a' := ?_) ?_ ?_
        rotate_left
        · simp only [Act.put, List.setIfInBounds_toArray, List.set_cons_zero, List.set_cons_succ, i64_w, i32_w]
          rfl
        refine pure_ (i := 8) (N := some 52) (v := ?_) (a' := ?_) #[true, true, true, true, true, true, true, true, true, false, false] rfl rfl (by kernel_rfl) (fun _ _ _ h => h) (Or.inl ⟨by rfl, ?_⟩) ?_ ?_
        rotate_left
        · intro w'
          go_simp
          with_reducible rfl
        rotate_left
        · simp only [Act.put, List.setIfInBounds_toArray, List.set_cons_zero, List.set_cons_succ, i64_w, i32_w]
          rfl
        refine pure_ (i := 9) (N := some 53) (v := ?_) (a' := ?_) #[true, true, true, true, true, true, true, true, true, true, false] rfl rfl (by kernel_rfl) (fun _ _ _ h => h) (Or.inl ⟨by rfl, ?_⟩) ?_ ?_
        rotate_left
        · intro w'
          go_simp
          with_reducible rfl
        rotate_left
        · simp only [Act.put, List.setIfInBounds_toArray, List.set_cons_zero, List.set_cons_succ, i64_w, i32_w]
          rfl
        have hfz := blk_frozen (H2.out.r2.at0) 0
        refine last_ (i := 10) (N := none) #[true, true, true, true, true, true, true, true, true, true, true] rfl rfl (by kernel_rfl) (by decide) (fun K hK => ?_)
        refine skip_ (w1 := ?_) (by rfl) rfl ?_ ?_
        rotate_left
        · go_simp
          rfl
        refine hK.out _ _ ?_
        clear hK K
        refine done_ (by kernel_rfl) ?_
        try go_wp2
        go_ret
        refine ⟨by rw [HR.out.2]; rfl, ?_⟩
        rw [HR.out.1]
        have h9 := (H2.out.r2.set 0 (.slice A2 (way.length + 1) c2))
        rw [List.setIfInBounds_toArray] at h9
        exact (ref_shut h9).r1.tail
      · have hd : decide ((m : Int) ≥ 64) = true := decide_eq_true (by omega)
        have hd2 : decide (64 ≤ m) = true := decide_eq_true (by omega)
        have hd3 : decide (64 ≤ (m : Int)) = true := decide_eq_true (by omega)
        have HR := Aside0.mk (show way' = way ∧ r = 6 by have e := HE.out; unfold putR at e; rw [if_neg (show ¬ cntW way p0 p1 < 64 by omega)] at e; cases e; exact ⟨rfl, rfl⟩)
        clear hm hlt hi
        go_wp2
        go_ret
        refine ⟨by rw [HR.out.2]; rfl, ?_⟩
        rw [HR.out.1]
        exact (ref_shut HO.out.r2).r1.tail
set_option maxHeartbeats 8000000 in
set_option maxRecDepth 100000 in
theorem RefPost (h : Own w0 w (RefA g way :: R)) (p0 p1 : Int) (p2 : ByteArray) (hl : way.length ≤ 1000000000) (way' : List Pk) (r : Int) (he : postR way ⟨p0, p1, p2⟩ = (way', r)) : Calls Try.prog 26 #[.pointer (some ⟨g, 0, none⟩), .agg #[.int .i64 p0, .int .i64 p1, .string p2]] w fun e w' => e = .returned (.int .i64 r) ∧ Own w0 w' (RefA g way' :: R) := by
  have h3 := h.alloc (.cells #[.int .i64 p0, .int .i64 p1, .string p2] 25)
  have y0 := (blk_cell h3.at0 0).trans rfl
  have y1 := (blk_cell h3.at0 1).trans rfl
  have y2 := (blk_cell h3.at0 2).trans rfl
  have H := Aside0.mk h3.tail
  have HE := Aside0.mk he
  clear h h3 he
  by_cases ha : p0 < 0
  · have HG := Aside0.mk (show ¬ goodP ⟨p0, p1, p2⟩ from fun q => by have h1 := q.1; simp only at h1; omega)
    have da : decide (p0 < 0) = true := decide_eq_true (by omega)
    clear ha
    have HR := Aside0.mk (show way' = way ∧ r = 1 by have e := HE.out; unfold postR at e; rw [if_neg HG.out] at e; cases e; exact ⟨rfl, rfl⟩)
    go_enter Try.func26, Try.ntmps26
    go_wp2
    go_ret
    exact ⟨by rw [HR.out.2]; rfl, by rw [HR.out.1]; exact H.out⟩
  · skip
    by_cases hb : p0 > 8
    · have HG := Aside0.mk (show ¬ goodP ⟨p0, p1, p2⟩ from fun q => by have h1 := q.2.1; simp only at h1; omega)
      have da : decide (p0 < 0) = false := decide_eq_false (by omega)
      have db : decide (p0 > 8) = true := decide_eq_true (by omega)
      have eb : decide (8 < p0) = true := decide_eq_true (by omega)
      clear ha hb
      have HR := Aside0.mk (show way' = way ∧ r = 1 by have e := HE.out; unfold postR at e; rw [if_neg HG.out] at e; cases e; exact ⟨rfl, rfl⟩)
      go_enter Try.func26, Try.ntmps26
      go_wp2
      go_ret
      exact ⟨by rw [HR.out.2]; rfl, by rw [HR.out.1]; exact H.out⟩
    · skip
      by_cases hc : p1 < 0
      · have HG := Aside0.mk (show ¬ goodP ⟨p0, p1, p2⟩ from fun q => by have h1 := q.2.2.1; simp only at h1; omega)
        have da : decide (p0 < 0) = false := decide_eq_false (by omega)
        have db : decide (p0 > 8) = false := decide_eq_false (by omega)
        have eb : decide (8 < p0) = false := decide_eq_false (by omega)
        have dc : decide (p1 < 0) = true := decide_eq_true (by omega)
        clear ha hb hc
        have HR := Aside0.mk (show way' = way ∧ r = 1 by have e := HE.out; unfold postR at e; rw [if_neg HG.out] at e; cases e; exact ⟨rfl, rfl⟩)
        go_enter Try.func26, Try.ntmps26
        go_wp2
        go_ret
        exact ⟨by rw [HR.out.2]; rfl, by rw [HR.out.1]; exact H.out⟩
      · skip
        by_cases hd : p1 > 8
        · have HG := Aside0.mk (show ¬ goodP ⟨p0, p1, p2⟩ from fun q => by have h1 := q.2.2.2; simp only at h1; omega)
          have da : decide (p0 < 0) = false := decide_eq_false (by omega)
          have db : decide (p0 > 8) = false := decide_eq_false (by omega)
          have eb : decide (8 < p0) = false := decide_eq_false (by omega)
          have dc : decide (p1 < 0) = false := decide_eq_false (by omega)
          have dd : decide (p1 > 8) = true := decide_eq_true (by omega)
          have ed : decide (8 < p1) = true := decide_eq_true (by omega)
          clear ha hb hc hd
          have HR := Aside0.mk (show way' = way ∧ r = 1 by have e := HE.out; unfold postR at e; rw [if_neg HG.out] at e; cases e; exact ⟨rfl, rfl⟩)
          go_enter Try.func26, Try.ntmps26
          go_wp2
          go_ret
          exact ⟨by rw [HR.out.2]; rfl, by rw [HR.out.1]; exact H.out⟩
        · have HG := Aside0.mk (show goodP ⟨p0, p1, p2⟩ from ⟨by show 0 ≤ p0; omega, by show p0 < 9; omega, by show 0 ≤ p1; omega, by show p1 < 9; omega⟩)
          have da : decide (p0 < 0) = false := decide_eq_false (by omega)
          have db : decide (p0 > 8) = false := decide_eq_false (by omega)
          have eb : decide (8 < p0) = false := decide_eq_false (by omega)
          have dc : decide (p1 < 0) = false := decide_eq_false (by omega)
          have dd : decide (p1 > 8) = false := decide_eq_false (by omega)
          have ed : decide (8 < p1) = false := decide_eq_false (by omega)
          clear ha hb hc hd
          have HE2 := Aside0.mk (show putR way ⟨p0, p1, p2⟩ = (way', r) by have e := HE.out; unfold postR at e; rw [if_pos HG.out] at e; exact e)
          go_enter Try.func26, Try.ntmps26
          go_wp2_with (go_at_call 29; ((with_reducible refine (RefPut H.out p0 p1 p2 hl _ _ HE2.out).mono ?_)); rintro e w3 ⟨rfl, h⟩; have H3 := Aside0.mk h; clear h)
          go_ret
          exact ⟨rfl, H3.out⟩
set_option maxHeartbeats 8000000 in
set_option maxRecDepth 100000 in
theorem RefTake_yes (h : Own w0 w (RefA g way :: R)) (k : Nat) (p0 p1 : Int) (p2 : ByteArray) (hk : way[k]? = some ⟨p0, p1, p2⟩) (hl : way.length ≤ 1000000000) : Calls Try.prog 27 #[.pointer (some ⟨g, 0, none⟩), .int .i64 k] w fun e w' => e = .returned (.tuple #[.agg #[.int .i64 p0, .int .i64 p1, .string p2], .int .i64 0]) ∧ Own w0 w' (RefA g (way.eraseIdx k) :: R) := by
  obtain ⟨A, c, h2⟩ := ref_open h
  have hlt := (List.getElem?_eq_some_iff.1 hk).1
  obtain ⟨bw, c2, e1⟩ := row_form' h2.tail (by omega)
  injection e1 with e1 _ e3
  subst e1
  subst e3
  have h3 := h2.alloc (.cells #[.int .i64 0, .int .i64 0, .string ⟨#[]⟩] 25)
  have y0 : (w.alloc (.cells #[.int .i64 0, .int .i64 0, .string ⟨#[]⟩] 25)).cell? ⟨g, 0, none⟩ = some (.slice (some ⟨bw, 0, none⟩) way.length c) := (blk_cell h3.at1 0).trans rfl
  have z0 := pk_cell h3.r2 k _ hk 0 _ rfl
  have z1 := pk_cell h3.r2 k _ hk 1 _ rfl
  have z2 := pk_cell h3.r2 k _ hk 2 _ rfl
  rw [Nat.add_zero] at z0
  have hfa := add_at bw
  have d0 : decide ((k : Int) < 0) = false := decide_eq_false (by omega)
  have d1 : decide ((k : Int) ≥ (way.length : Int)) = false := decide_eq_false (by omega)
  have d2 : decide ((way.length : Int) ≤ (k : Int)) = false := decide_eq_false (by omega)
  have d3 : decide (way.length ≤ k) = false := decide_eq_false (by omega)
  have h5 := h3.alloc (.cells #[.int .i64 p0, .int .i64 p1, .string p2] 25)
  have u0 := (blk_cell h5.at2 0).trans rfl
  rw [alloc_size] at h5
  have H3 := Aside0.mk h5.r3
  have hcap : way.length ≤ c := by obtain ⟨_, _, e, hc, _⟩ := h2.tail.row_reads; cases e; exact hc
  have hic : k ≤ c := by omega
  have hjc : k + 1 ≤ c := by omega
  have hb1 : (0 : Int) ≤ (k : Int) + 1 := by omega
  have hb2 : (k : Int) + 1 ≤ (way.length : Int) := by omega
  have hlt2 : k < way.length := hlt
  have HT := Aside0.mk (show (way.take k).length = k by rw [List.length_take]; omega)
  have HER := Aside0.mk (show way.take k ++ way.drop (k + 1) = way.eraseIdx k from (List.eraseIdx_eq_take_drop_succ ..).symm)
  obtain ⟨A5, hA, hA5⟩ : ∃ A5 : Addr, (if c = k + 1 then (some ⟨bw, 0, none⟩ : Option Addr) else some ⟨bw, (k + 1) * 3, none⟩) = some A5 ∧ (k + 1 < way.length → (some A5 : Option Addr) = some ⟨bw, (k + 1) * 3, none⟩) := by
    by_cases hq : c = k + 1
    · exact ⟨⟨bw, 0, none⟩, by simp [hq], fun h => by omega⟩
    · exact ⟨⟨bw, (k + 1) * 3, none⟩, by simp [hq], fun _ => rfl⟩
  have HC5 := Aside0.mk (fun (W : World) (hC : Kd.C k25 W (some ⟨bw, 0, none⟩) way.length way) => C_drop hC (k + 1) (by omega) (some A5) hA5)
  have HC4 := Aside0.mk (fun (W : World) (hC : Kd.C k25 W (some ⟨bw, 0, none⟩) way.length way) => C_take hC k (by omega))
  have HL5 := Aside0.mk (show k + (way.length - (k + 1)) ≤ 1000000000 by omega)
  have HL4 := Aside0.mk (show 0 + k ≤ 1000000000 by omega)
  clear h h2 h3 h5 hk hlt hA5
  go_enter Try.func27, Try.ntmps27
  go_wp2_with (first
    | ((with_reducible refine gate_dst (N := 34) rfl ?_); refine own_append_pk rfl (.tmp 27) (.tmp 33) rfl (.slice none 0 0) [] (way.take k) (some ⟨bw, 0, none⟩) k c 0 rfl rfl rfl (H3.out.row_nil k25 25) (HC4.out _ (row_C H3.out)) HL4.out ?_; intro A4 c4 w4 h; rw [List.nil_append, Nat.zero_add] at h; have H4 := Aside0.mk h; have u0 := (blk_cell (h.get 4 rfl).1 0).trans rfl; clear h)
    | ((with_reducible refine gate_builtin (b := .append) (xs := #[.tmp 36, .tmp 43]) rfl ?_); at_builtin; refine own_append_pk rfl (.tmp 36) (.tmp 43) rfl (.slice A4 k c4) (way.take k) (way.drop (k + 1)) (some A5) (way.length - (k + 1)) (c - (k + 1)) k HT.out rfl rfl H4.out (HC5.out _ (row_C H4.out.r1)) HL5.out ?_; intro A6 c6 w6 h; rw [HER.out] at h; have f0 := blk_frozen (h.get 4 rfl).1 0; have u1 := (blk_cell (h.get 4 rfl).1 0).trans rfl; have h9 := (h.r4.set 0 (.slice A6 (k + (way.length - (k + 1))) c6)); have H6 := Aside0.mk h9; have y0 := (blk_cell h9.at3 0).trans rfl; have y1 := (blk_cell h9.at3 1).trans rfl; have y2 := (blk_cell h9.at3 2).trans rfl; have x0 := (blk_cell (h9.get 4 rfl).1 0).trans rfl; have x1 := (blk_cell (h9.get 4 rfl).1 1).trans rfl; have x2 := (blk_cell (h9.get 4 rfl).1 2).trans rfl; have g0 := blk_frozen (h9.get 4 rfl).1 0; have g1 := blk_frozen (h9.get 4 rfl).1 1; have g2 := blk_frozen (h9.get 4 rfl).1 2; clear h h9))
  exact bodyPost_ret (v := .tuple #[.agg (pkV ⟨p0, p1, p2⟩).toArray, .int .i64 0]) (results_ct (p := 4) (q := 5) rfl _ _ ⟨w.heap.size, 0, none⟩ _ _ rfl rfl (load_pk (set3' (.int .i64 p0) (.int .i64 p1) (.string p2) H6.out.r4).at0)) rfl ⟨rfl, (ref_shut (set3' (.int .i64 p0) (.int .i64 p1) (.string p2) H6.out.r4).tail).r1.tail.r1.tail⟩
end
end Go.Proofs.Ytdnpodpmicllgaa.PNetPlays
