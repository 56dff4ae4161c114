/- The law NetPlays, walked. -/
import Derived.Test.YtdnpodpmicllgaaNet10
import Derived.Deep.MidRow
import Derived.Deep.QuietTactic
namespace Go.Proofs.Ytdnpodpmicllgaa.PNetPlays
open Go.RowKit Go.Proofs.YtdnpodpmicllgaaW.PrintWords Go.Proofs.YtdnpodpmicllgaaW.PrintLast Go.Proofs.YtdnpodpmicllgaaW.PrintMore
open Go.Proofs.YtdnpodpmicllgaaO Go.Proofs.YtdnpodpmicllgaaC
attribute [local go_sem] max2_int min2_int max_two min_two max_three min_three max_four min_four
set_option linter.unusedVariables false
set_option linter.unusedSimpArgs false
def pl14_T : Bool × List (List Nat × List Nat) := (true, [([], []), ([], []), ([], []), ([], []), ([2, 3], [2, 3]), ([4], [4]), ([0, 1, 5], [0, 1, 5]), ([6], [6]), ([7, 6], [7]), ([8], [8]), ([9, 8, 8], [8, 9]), ([8], [8]), ([11, 8], [8, 11]), ([12, 8], [8, 12]), ([13, 8], [8, 13]), ([14, 8], [8, 14]), ([10, 15, 8], [8, 10, 15]), ([8, 16], [8, 16])])
def pl14_B : List Nat := [0, 0, 0, 0, 12, 28, 63, 127, 255, 511, 1023, 511, 2559, 6655, 14847, 31231, 65535, 131071]
theorem pl14_tab : rtab .any (opsOf Try.f4 14) = pl14_T := by kernel_rfl
theorem pl14_bits : waitsOk pl14_T.2 pl14_B = true := by kernel_rfl
set_option maxHeartbeats 8000000 in
set_option maxRecDepth 100000 in
theorem NetPlays_great (A : Option Addr) (c : Nat) (l : List ACT) (w : World) (hr : Kd.C k40 w A l.length l) (hc : l.length ≤ c) (k : Nat) (hg : meterlaw05_Great.f k l = some true) :
    Calls Try.prog 4 #[.slice A l.length c] w fun e w' => e = .returned (.bool true) ∧ Below w.heap.size w w' := by
  have HR := Aside0.mk hr
  have HC := Aside0.mk hc
  have HG := Aside0.mk hg
  clear hr hc hg
  go_enter Try.func4, Try.ntmps4
  go_wp2_with (first
    | (go_at_call 14; ((with_reducible refine (awake_calls w).mono ?_)); rintro e w1 ⟨rfl, hb⟩; have H1 := Aside0.mk ((Own.nil w).below hb); clear hb)
    | (go_at_call 15; ((with_reducible refine (meterlaw05_Great.calls _ A c l true w1 (Kd.C_below HR.out H1.out.bel) HC.out HG.out).mono ?_)); rintro e w2 ⟨rfl, hb⟩; have H2 := Aside0.mk (H1.out.below hb); clear hb))
  go_ret
  exact ⟨rfl, H2.out.bel⟩
theorem NetPost_nilL {w0 w : World} {R : List Asn} (h : Own w0 w R) (p0 p1 : Int) (p2 : ByteArray) : Calls Try.prog 9 #[.pointer none, .agg #[.int .i64 p0, .int .i64 p1, .string p2]] w fun e w' => e = .returned (.int .i64 2) ∧ Own w0 w' R := NetPost_nil h ⟨p0, p1, p2⟩
set_option maxHeartbeats 8000000 in
set_option maxRecDepth 100000 in
theorem NetPlays_small (A : Option Addr) (c : Nat) (l : List ACT) (w : World) (hr : Kd.C k40 w A l.length l) (hc : l.length ≤ c) (k : Nat) (hg : meterlaw05_Great.f k l = some false) (h300 : l.length ≤ 300) (hq : ∀ x ∈ l, Q40 x) :
    Calls Try.prog 4 #[.slice A l.length c] w fun e w' => e = .returned (.bool true) ∧ Below w.heap.size w w' := by
  have HR := Aside0.mk hr
  have HC := Aside0.mk hc
  have HG := Aside0.mk hg
  have HQ := Aside0.mk hq
  have hM : l.length ≤ 9223372036854775807 := by omega
  clear hr hc hg hq
  go_enter Try.func4, Try.ntmps4
  go_wp2_with (first
    | (go_at_call 14; ((with_reducible refine (awake_calls w).mono ?_)); rintro e w1 ⟨rfl, hb⟩; have H1 := Aside0.mk ((Own.nil w).below hb); clear hb)
    | (go_at_call 15; ((with_reducible refine (meterlaw05_Great.calls _ A c l false w1 (Kd.C_below HR.out H1.out.bel) HC.out HG.out).mono ?_)); rintro e w2 ⟨rfl, hb⟩; have H2 := Aside0.mk (H1.out.below hb); clear hb)
    | (go_at_call 8; ((with_reducible refine (NetNew H2.out).mono ?_)); rintro e w3 ⟨gx, rfl, h⟩; have H3 := Aside0.mk (ref_new h).r1; clear h))
  clear HG k
  obtain ⟨gw, hgw⟩ : ∃ gw, gw = w3.heap.size := ⟨_, rfl⟩
  rw [← hgw] at H3 ⊢
  clear hgw
  go_loopw [6] (fun v6 wr => ∃ k : Nat, k ≤ l.length ∧ v6 = .int .i64 k ∧ Aside0 (Own w wr [NetA gx ((l.take k).foldl doR []) (80 * k), RefA gw ((l.take k).foldl doR [])])) (fun v6 _ => l.length - (RowKit.intOf v6).toNat)
  case atStart => exact ⟨0, Nat.zero_le _, rfl, H3⟩
  case round =>
    obtain ⟨k, hk, rfl, HO⟩ := hrel
    by_cases hlt : k < l.length
    · have hgk := List.getElem?_eq_getElem hlt
      generalize l[k] = x at hgk
      have S1 := Lib.hid (snoc_fold doR [] l k x hgk)
      have hsl := fold_len (l.take k) []
      rw [List.length_take, List.length_nil] at hsl
      generalize (l.take k).foldl doR [] = sa at S1 HO hsl
      have HL0 := Aside0.mk (show sa.length ≤ 24000 by omega)
      have HN0 := Aside0.mk (show 80 * k ≤ 24000 by omega)
      have HT0 := Aside0.mk (HQ.out x (List.mem_of_getElem? hgk)).2.2.2
      have HGK := Aside0.mk hgk
      obtain ⟨y0, ⟨p0, p1, p2⟩, y2, y3⟩ := x
      obtain ⟨wy, hwy⟩ : ∃ wy, doR sa ⟨y0, ⟨p0, p1, p2⟩, y2, y3⟩ = wy := ⟨_, rfl⟩
      have PS := Aside0.mk hwy
      obtain ⟨m, hm⟩ : ∃ m, wy.length = m := ⟨_, rfl⟩
      have HM := Aside0.mk hm
      have hml : m ≤ 25000 := by have := doR_len sa ⟨y0, ⟨p0, p1, p2⟩, y2, y3⟩; rw [hwy, hm] at this; omega
      have HML := Aside0.mk (show m ≤ 1000000000 by omega)
      obtain ⟨ad, rfl, d0, d1, d2, d3, d4, d5⟩ := act_at HR.out HO.out.bel k _ hgk
      dsimp only at d0 d1 d2 d3 d4 d5 HT0
      clear hgk hsl hwy hm
      go_wp2_with (first
        | (go_at_call 11; ((with_reducible refine (NetTake_nil HO.out y2).mono ?_)); rintro e w5 ⟨rfl, h⟩; have H5 := Aside0.mk (h.junk (.cells #[.int .i64 0, .int .i64 0, .string ⟨#[]⟩] 25)); clear h; obtain ⟨_, e_, d0, d1, d2, d3, d4, d5⟩ := act_at HR.out H5.out.bel k _ HGK.out; cases e_; dsimp only at d0 d1 d2 d3 d4 d5)
        | (go_at_call 9; ((with_reducible refine (NetPost_nilL H5.out p0 p1 p2).mono ?_)); rintro e w6 ⟨rfl, h⟩; have H6 := Aside0.mk h; clear h; obtain ⟨_, e_, d0, d1, d2, d3, d4, d5⟩ := act_at HR.out H6.out.bel k _ HGK.out; cases e_; dsimp only at d0 d1 d2 d3 d4 d5)
        | (go_at_call 13; ((with_reducible refine (NetLose_nil H6.out y2).mono ?_)); rintro e w7 ⟨rfl, h⟩; have H7 := Aside0.mk h; clear h; obtain ⟨_, e_, d0, d1, d2, d3, d4, d5⟩ := act_at HR.out H7.out.bel k _ HGK.out; cases e_; dsimp only at d0 d1 d2 d3 d4 d5)
        | (go_at_call 10; ((with_reducible refine (NetDup_nil H7.out y2).mono ?_)); rintro e w8 ⟨rfl, h⟩; have H8 := Aside0.mk h; clear h; obtain ⟨_, e_, d0, d1, d2, d3, d4, d5⟩ := act_at HR.out H8.out.bel k _ HGK.out; cases e_; dsimp only at d0 d1 d2 d3 d4 d5)
        | (go_at_call 12; ((with_reducible refine (NetLen_nil _).mono ?_)); rintro e w9 ⟨rfl, rfl⟩)
        | (go_at_call 16; ((with_reducible refine (NetAll_nil _).mono ?_)); rintro e w10 ⟨rfl, rfl⟩; have HD := Aside0.mk H8.out.drew))
      refine start_ (n := 18) (S := fun w' => Below w.heap.size w w') (ds := []) #[false, false, false, false, false, false, false, false, false, false, false, false, false, false, false, false, false, false] (by kernel_rfl) rfl rfl HD.out.bel (fun hHeld => ?_); refine with_tabW pl14_tab pl14_bits (fun HT_ HW_ => ?_)
      generalize hwd : (World.drew _) = wd at HD hHeld ⊢
      clear hwd
      refine pure_ (i := 0) (N := some 77) (v := ?_) (a' := ?_) #[true, false, false, false, false, false, false, false, false, false, false, false, false, false, false, false, false, false] rfl rfl (any_of HT_.out (by kernel_rfl)) (fun _ _ _ h => h) (Or.inl ⟨by rfl, ?_⟩) ?_ ?_
      rotate_left
      · intro w'
        go_simp
        with_reducible rfl
      rotate_left
      · simp only [Act.put, List.setIfInBounds_toArray, List.set_cons_zero, List.set_cons_succ, i64_w, i32_w]
        rfl
      refine pure_ (i := 1) (N := some 78) (v := ?_) (a' := ?_) #[true, true, false, false, false, false, false, false, false, false, false, false, false, false, false, false, false, false] rfl rfl (any_of HT_.out (by kernel_rfl)) (fun _ _ _ h => h) (Or.inl ⟨by rfl, ?_⟩) ?_ ?_
      rotate_left
      · intro w'
        go_simp
        with_reducible rfl
      rotate_left
      · simp only [Act.put, List.setIfInBounds_toArray, List.set_cons_zero, List.set_cons_succ, i64_w, i32_w]
        rfl
      refine pure_ (i := 2) (N := some 79) (v := ?_) (a' := ?_) #[true, true, true, false, false, false, false, false, false, false, false, false, false, false, false, false, false, false] rfl rfl (any_of HT_.out (by kernel_rfl)) (fun _ _ _ h => h) (Or.inl ⟨by rfl, ?_⟩) ?_ ?_
      rotate_left
      · intro w'
        go_simp
        with_reducible rfl
      rotate_left
      · simp only [Act.put, List.setIfInBounds_toArray, List.set_cons_zero, List.set_cons_succ, i64_w, i32_w]
        rfl
      refine pure_ (i := 3) (N := some 80) (v := ?_) (a' := ?_) #[true, true, true, true, false, false, false, false, false, false, false, false, false, false, false, false, false, false] rfl rfl (any_of HT_.out (by kernel_rfl)) (fun _ _ _ h => h) (Or.inl ⟨by rfl, ?_⟩) ?_ ?_
      rotate_left
      · intro w'
        go_simp
        with_reducible rfl
      rotate_left
      · simp only [Act.put, List.setIfInBounds_toArray, List.set_cons_zero, List.set_cons_succ, i64_w, i32_w]
        rfl
      refine pure_ (i := 4) (N := some 81) (v := ?_) (a' := ?_) #[true, true, true, true, true, false, false, false, false, false, false, false, false, false, false, false, false, false] rfl rfl (any_of HT_.out (by kernel_rfl)) (fun _ _ _ h => h) (Or.inl ⟨by rfl, ?_⟩) ?_ ?_
      rotate_left
      · intro w'
        go_simp
        with_reducible rfl
      rotate_left
      · simp only [Act.put, List.setIfInBounds_toArray, List.set_cons_zero, List.set_cons_succ, i64_w, i32_w]
        rfl
      refine take_ (i := 5) (N := some 82) (v := ?_) (a' := ?_) #[true, true, true, true, true, true, false, false, false, false, false, false, false, false, false, false, false, false] rfl rfl (take_ofW HT_.out HW_.out (by kernel_rfl)) (fun _ _ _ h => h) (Or.inl ⟨by rfl, ?_⟩) hHeld ?_ ?_
      rotate_left
      · rintro w' s0
        obtain ⟨_, e_, d0, d1, d2, d3, d4, d5⟩ := act_at HR.out s0 k _ HGK.out; cases e_; dsimp only at d0 d1 d2 d3 d4 d5
        go_simp
        with_reducible rfl
      rotate_left
      · simp only [Act.put, List.setIfInBounds_toArray, List.set_cons_zero, List.set_cons_succ, i64_w, i32_w]
        rfl
      refine one_ (i := 6) (N := some 83) #[true, true, true, true, true, true, true, false, false, false, false, false, false, false, false, false, false, false] rfl rfl (one_of HT_.out (by kernel_rfl)) (by decide) (fun K hK => ?_)
      refine goes_ Try.func17 (by kernel_rfl) rfl #[.pointer (some ⟨gx, 0, none⟩), .pointer (some ⟨gw, 0, none⟩), .agg #[.int .i64 y0, .int .i64 p0, .int .i64 p1, .string p2, .int .i64 y2, .int .u8 y3]] (by rfl) rfl rfl (by (try simp only [List.map_toArray, List.map_cons, List.map_nil]); first | done | rfl) ?_
      with_reducible refine (does_calls HD.out y0 p0 p1 p2 y2 y3 HT0.out HN0.out HL0.out).mono ?_
      rintro e w12 ⟨rfl, h⟩
      rw [PS.out] at h
      have H12 := Aside0.mk h
      clear h
      refine ⟨_, rfl, ?_⟩
      refine hK.out _ _ H12.out.bel (fun hHeld => ?_)
      clear hK K
      refine norm_ (a' := ?_) ?_ ?_
      rotate_left
      · simp only [Act.put, List.setIfInBounds_toArray, List.set_cons_zero, List.set_cons_succ, i64_w, i32_w]
        rfl
      obtain ⟨A9, c9, h9⟩ := ref_open H12.out.r1
      have H13 := Aside0.mk h9
      have u0 : w12.cell? ⟨gw, 0, none⟩ = some (.slice A9 wy.length c9) := (blk_cell h9.at0 0).trans rfl
      clear h9
      refine pure_ (i := 7) (N := some 84) (v := ?_) (a' := ?_) #[true, true, true, true, true, true, true, true, false, false, false, false, false, false, false, false, false, false] rfl rfl (any_of HT_.out (by kernel_rfl)) (fun _ _ _ h => h) (Or.inl ⟨by rfl, ?_⟩) ?_ ?_
      rotate_left
      · intro w'
        go_simp
        with_reducible rfl
      rotate_left
      · simp only [Act.put, List.setIfInBounds_toArray, List.set_cons_zero, List.set_cons_succ, i64_w, i32_w]
        rfl
      refine pure_ (i := 8) (N := some 85) (v := ?_) (a' := ?_) #[true, true, true, true, true, true, true, true, true, false, false, false, false, false, false, false, false, false] rfl rfl (any_of HT_.out (by kernel_rfl)) (fun _ _ _ h => h) (Or.inl ⟨by rfl, ?_⟩) ?_ ?_
      rotate_left
      · intro w'
        go_simp
        with_reducible rfl
      rotate_left
      · simp only [Act.put, List.setIfInBounds_toArray, List.set_cons_zero, List.set_cons_succ, i64_w, i32_w]
        rfl
      refine pure_ (i := 9) (N := some 86) (v := ?_) (a' := ?_) #[true, true, true, true, true, true, true, true, true, true, false, false, false, false, false, false, false, false] rfl rfl (any_of HT_.out (by kernel_rfl)) (fun _ _ _ h => h) (Or.inl ⟨by rfl, ?_⟩) ?_ ?_
      rotate_left
      · intro w'
        go_simp
        with_reducible rfl
      rotate_left
      · simp only [Act.put, List.setIfInBounds_toArray, List.set_cons_zero, List.set_cons_succ, i64_w, i32_w]
        rfl
      refine pure_ (i := 11) (N := some 88) (v := ?_) (a' := ?_) #[true, true, true, true, true, true, true, true, true, true, false, true, false, false, false, false, false, false] rfl rfl (any_of HT_.out (by kernel_rfl)) (fun _ _ _ h => h) (Or.inl ⟨by rfl, ?_⟩) ?_ ?_
      rotate_left
      · intro w'
        go_simp
        with_reducible rfl
      rotate_left
      · simp only [Act.put, List.setIfInBounds_toArray, List.set_cons_zero, List.set_cons_succ, i64_w, i32_w]
        rfl
      refine pure_ (i := 12) (N := some 89) (v := ?_) (a' := ?_) #[true, true, true, true, true, true, true, true, true, true, false, true, true, false, false, false, false, false] rfl rfl (any_of HT_.out (by kernel_rfl)) (fun _ _ _ h => h) (Or.inl ⟨by rfl, ?_⟩) ?_ ?_
      rotate_left
      · intro w'
        go_simp
        with_reducible rfl
      rotate_left
      · simp only [Act.put, List.setIfInBounds_toArray, List.set_cons_zero, List.set_cons_succ, i64_w, i32_w]
        rfl
      refine pure_ (i := 13) (N := some 90) (v := ?_) (a' := ?_) #[true, true, true, true, true, true, true, true, true, true, false, true, true, true, false, false, false, false] rfl rfl (any_of HT_.out (by kernel_rfl)) (fun _ _ _ h => h) (Or.inl ⟨by rfl, ?_⟩) ?_ ?_
      rotate_left
      · intro w'
        go_simp
        with_reducible rfl
      rotate_left
      · simp only [Act.put, List.setIfInBounds_toArray, List.set_cons_zero, List.set_cons_succ, i64_w, i32_w]
        rfl
      refine two_ (i := 10) (j := 14) (Ni := some 87) (Nj := some 91) #[true, true, true, true, true, true, true, true, true, true, true, true, true, true, false, false, false, false] #[true, true, true, true, true, true, true, true, true, true, false, true, true, true, true, false, false, false] rfl rfl rfl rfl (by kernel_rfl) (by decide) (by decide) (fun K hK => ?_) (fun K hK => ?_)
      · refine goes_ Try.func12 (by kernel_rfl) rfl #[.pointer (some ⟨gx, 0, none⟩)] (by rfl) rfl rfl (by (try simp only [List.map_toArray, List.map_cons, List.map_nil]); first | done | rfl) ?_
        with_reducible refine (NetLen H12.out m HM.out).mono ?_
        rintro e w13 ⟨rfl, rfl⟩
        refine ⟨_, rfl, ?_⟩
        refine hK.out _ _ H12.out.bel (fun hHeld => ?_)
        clear hK K
        refine norm_ (a' := ?_) ?_ ?_
        rotate_left
        · simp only [Act.put, List.setIfInBounds_toArray, List.set_cons_zero, List.set_cons_succ, i64_w, i32_w]
          rfl
        refine one_ (i := 14) (N := some 91) #[true, true, true, true, true, true, true, true, true, true, true, true, true, true, true, false, false, false] rfl rfl (one_of HT_.out (by kernel_rfl)) (by decide) (fun K hK => ?_)
        refine value_ (w1 := ?_) (v := ?_) (by rfl) rfl ?_ ?_
        rotate_left 2
        · go_simp
          constructor
          · rfl
          · rfl
        refine hK.out _ _ H12.out.bel (fun hHeld => ?_)
        clear hK K
        refine norm_ (a' := ?_) ?_ ?_
        rotate_left
        · simp only [Act.put, List.setIfInBounds_toArray, List.set_cons_zero, List.set_cons_succ, i64_w, i32_w]
          rfl
        refine pure_ (i := 15) (N := some 92) (v := ?_) (a' := ?_) #[true, true, true, true, true, true, true, true, true, true, true, true, true, true, true, true, false, false] rfl rfl (any_of HT_.out (by kernel_rfl)) (fun _ _ _ h => h) (Or.inl ⟨by rfl, ?_⟩) ?_ ?_
        rotate_left
        · intro w'
          go_simp
          with_reducible rfl
        rotate_left
        · simp only [Act.put, List.setIfInBounds_toArray, List.set_cons_zero, List.set_cons_succ, i64_w, i32_w]
          rfl
        have hmm : ((m : Int) != (m : Int)) = false := by simp
        have HM2 := HM.out
        refine pure_ (i := 16) (N := some 93) (v := ?_) (a' := ?_) #[true, true, true, true, true, true, true, true, true, true, true, true, true, true, true, true, true, false] rfl rfl (any_of HT_.out (by kernel_rfl)) (fun _ _ _ h => h) (Or.inl ⟨by rfl, ?_⟩) ?_ ?_
        rotate_left
        · intro w'
          go_simp
          with_reducible rfl
        rotate_left
        · simp only [Act.put, List.setIfInBounds_toArray, List.set_cons_zero, List.set_cons_succ, i64_w, i32_w]
          rfl
        refine pure_ (i := 17) (N := some 94) (v := ?_) (a' := ?_) #[true, true, true, true, true, true, true, true, true, true, true, true, true, true, true, true, true, true] rfl rfl (any_of HT_.out (by kernel_rfl)) (fun _ _ _ h => h) (Or.inl ⟨by rfl, ?_⟩) ?_ ?_
        rotate_left
        · intro w'
          go_simp
          with_reducible rfl
        rotate_left
        · simp only [Act.put, List.setIfInBounds_toArray, List.set_cons_zero, List.set_cons_succ, i64_w, i32_w]
          rfl
        refine done_ (done_of HT_.out (by kernel_rfl)) ?_
        clear hmm
        go_wp2_with (go_at_call 16; ((with_reducible refine (NetAll H12.out m HM.out HML.out).mono ?_)); rintro e w14 ⟨A5, c5, rfl, h⟩; obtain ⟨A7, c7, h15⟩ := ref_open h.r2; rw [HM.out] at h15; have H15 := Aside0.mk (show Own w w14 (Row k25 25 (.slice A5 m c5) wy :: Blk gw (.cells #[.slice A7 m c7] 38 (0, 0)) :: Row k25 25 (.slice A7 m c7) wy :: NetA gx wy (80 * k + 80) :: []) from h15.r2); have y7 : w14.cell? ⟨gw, 0, none⟩ = some (.slice A7 m c7) := (blk_cell h15.at0 0).trans rfl; clear h h15)
        clear HM2
        go_loopw [10] (fun v10 wr => ∃ (i : Nat) (X : Asn), i ≤ m ∧ v10 = .int .i64 i ∧ Aside0 (Own w wr (X :: Blk gw (.cells #[.slice A7 m c7] 38 (0, 0)) :: Row k25 25 (.slice A7 m c7) wy :: NetA gx wy (80 * k + 80) :: [])) ∧ Aside0 (i < m → ∃ b cs, A5 = some ⟨b, 0, none⟩ ∧ X = Blk b (.cells cs 25 (0, 0)) ∧ ∀ j x, i ≤ j → wy[j]? = some x → ∀ t u, (pkV x)[t]? = some u → cs[j * 3 + t]? = some u)) (fun v10 _ => m - (RowKit.intOf v10).toNat)
        case atStart =>
          by_cases h0 : 0 < m
          · obtain ⟨b1, c1, e1⟩ := row_form' H15.out (by rw [HM.out]; exact h0)
            injection e1 with e1 _ _
            subst e1
            obtain ⟨cs, _, _, _, h2, h1⟩ := pk_open H15.out
            exact ⟨0, _, Nat.zero_le _, rfl, ⟨h1⟩, ⟨fun _ => ⟨b1, cs, rfl, rfl, fun j x _ hx => h2 j x hx⟩⟩⟩
          · exact ⟨0, _, Nat.zero_le _, rfl, H15, ⟨fun q => absurd q h0⟩⟩
        case round =>
          obtain ⟨i, X, hi, rfl, HJ, HXX⟩ := hrel
          by_cases hlt2 : i < m
          · obtain ⟨b1, cs, e1, e2, hcs⟩ := HXX.out hlt2
            subst e1
            subst e2
            have HCS := Aside0.mk hcs
            have hiw : i < wy.length := by rw [HM.out]; exact hlt2
            have hgi := List.getElem?_eq_getElem hiw
            generalize wy[i] = q at hgi
            obtain ⟨x0, x1, x2⟩ := q
            obtain ⟨b7, c8, e7⟩ := row_form' HJ.out.r2 (by omega)
            injection e7 with e7 e8 e9
            clear e8 e9
            subst e7
            have hfb1 := add_at b1
            have hfb7 := add_at b7
            have q0 := (blk_cell HJ.out.at0 (i * 3 + 0)).trans (hcs i _ (Nat.le_refl _) hgi 0 _ rfl)
            have q1 := (blk_cell HJ.out.at0 (i * 3 + 1)).trans (hcs i _ (Nat.le_refl _) hgi 1 _ rfl)
            have q2 := (blk_cell HJ.out.at0 (i * 3 + 2)).trans (hcs i _ (Nat.le_refl _) hgi 2 _ rfl)
            have r0 := pk_cell HJ.out.r2 i _ hgi 0 _ rfl
            have r1 := pk_cell HJ.out.r2 i _ hgi 1 _ rfl
            have r2 := pk_cell HJ.out.r2 i _ hgi 2 _ rfl
            rw [Nat.add_zero] at q0 r0
            have g0 := (blk_cell HJ.out.at1 0).trans rfl
            have hq := fun W => (neqPk x0 x0 x1 x1 x2 x2 W).trans (by rw [samePk_self]; try rfl)
            clear hcs hgi hiw
            go_wp2
            go_quiet (fail)
            have hB := HJ.out.drewN nq
            have hfz := blk_frozen hB.at0 (i * 3 + 2)
            have hce : (wr.drewN nq).cell? ⟨b1, i * 3 + 2, none⟩ = some (.string x2) := q2
            clear hB
            go_wp2
            go_roundw
            case rel => exact ⟨i + 1, _, by omega, by first | rfl | go_num, ⟨(HJ.out.drewN nq).set (i * 3 + 2) _⟩, ⟨fun _ => ⟨b1, _, rfl, rfl, fun j x hj hx t u hu => by
              rw [Array.getElem?_setIfInBounds_ne (by have ht : t < 3 := (List.getElem?_eq_some_iff.1 hu).1; omega)]
              exact HCS.out j x (by omega) hx t u hu⟩⟩⟩
            case measure => first | (simp [RowKit.intOf]; done) | (simp [RowKit.intOf]; omega)
          · clear HXX
            go_wp2
            go_roundw
            case rel => exact ⟨k + 1, by omega, by first | rfl | go_num, ⟨by rw [S1.out, PS.out]; exact (ref_shut HJ.out.tail).r1⟩⟩
            case measure => first | (simp [RowKit.intOf]; done) | (simp [RowKit.intOf]; omega)
      · refine value_ (w1 := ?_) (v := ?_) (by rfl) rfl ?_ ?_
        rotate_left 2
        · go_simp
          constructor
          · rfl
          · rfl
        refine hK.out _ _ H12.out.bel (fun hHeld => ?_)
        clear hK K
        refine norm_ (a' := ?_) ?_ ?_
        rotate_left
        · simp only [Act.put, List.setIfInBounds_toArray, List.set_cons_zero, List.set_cons_succ, i64_w, i32_w]
          rfl
        refine pure_ (i := 15) (N := some 92) (v := ?_) (a' := ?_) #[true, true, true, true, true, true, true, true, true, true, false, true, true, true, true, true, false, false] rfl rfl (any_of HT_.out (by kernel_rfl)) (fun _ _ _ h => h) (Or.inl ⟨by rfl, ?_⟩) ?_ ?_
        rotate_left
        · intro w'
          go_simp
          with_reducible rfl
        rotate_left
        · simp only [Act.put, List.setIfInBounds_toArray, List.set_cons_zero, List.set_cons_succ, i64_w, i32_w]
          rfl
        refine one_ (i := 10) (N := some 87) #[true, true, true, true, true, true, true, true, true, true, true, true, true, true, true, true, false, false] rfl rfl (one_of HT_.out (by kernel_rfl)) (by decide) (fun K hK => ?_)
        refine goes_ Try.func12 (by kernel_rfl) rfl #[.pointer (some ⟨gx, 0, none⟩)] (by rfl) rfl rfl (by (try simp only [List.map_toArray, List.map_cons, List.map_nil]); first | done | rfl) ?_
        with_reducible refine (NetLen H12.out m HM.out).mono ?_
        rintro e w13 ⟨rfl, rfl⟩
        refine ⟨_, rfl, ?_⟩
        refine hK.out _ _ H12.out.bel (fun hHeld => ?_)
        clear hK K
        refine norm_ (a' := ?_) ?_ ?_
        rotate_left
        · simp only [Act.put, List.setIfInBounds_toArray, List.set_cons_zero, List.set_cons_succ, i64_w, i32_w]
          rfl
        have hmm : ((m : Int) != (m : Int)) = false := by simp
        have HM2 := HM.out
        refine pure_ (i := 16) (N := some 93) (v := ?_) (a' := ?_) #[true, true, true, true, true, true, true, true, true, true, true, true, true, true, true, true, true, false] rfl rfl (any_of HT_.out (by kernel_rfl)) (fun _ _ _ h => h) (Or.inl ⟨by rfl, ?_⟩) ?_ ?_
        rotate_left
        · intro w'
          go_simp
          with_reducible rfl
        rotate_left
        · simp only [Act.put, List.setIfInBounds_toArray, List.set_cons_zero, List.set_cons_succ, i64_w, i32_w]
          rfl
        refine pure_ (i := 17) (N := some 94) (v := ?_) (a' := ?_) #[true, true, true, true, true, true, true, true, true, true, true, true, true, true, true, true, true, true] rfl rfl (any_of HT_.out (by kernel_rfl)) (fun _ _ _ h => h) (Or.inl ⟨by rfl, ?_⟩) ?_ ?_
        rotate_left
        · intro w'
          go_simp
          with_reducible rfl
        rotate_left
        · simp only [Act.put, List.setIfInBounds_toArray, List.set_cons_zero, List.set_cons_succ, i64_w, i32_w]
          rfl
        refine done_ (done_of HT_.out (by kernel_rfl)) ?_
        clear hmm
        go_wp2_with (go_at_call 16; ((with_reducible refine (NetAll H12.out m HM.out HML.out).mono ?_)); rintro e w14 ⟨A5, c5, rfl, h⟩; obtain ⟨A7, c7, h15⟩ := ref_open h.r2; rw [HM.out] at h15; have H15 := Aside0.mk (show Own w w14 (Row k25 25 (.slice A5 m c5) wy :: Blk gw (.cells #[.slice A7 m c7] 38 (0, 0)) :: Row k25 25 (.slice A7 m c7) wy :: NetA gx wy (80 * k + 80) :: []) from h15.r2); have y7 : w14.cell? ⟨gw, 0, none⟩ = some (.slice A7 m c7) := (blk_cell h15.at0 0).trans rfl; clear h h15)
        clear HM2
        go_loopw [10] (fun v10 wr => ∃ (i : Nat) (X : Asn), i ≤ m ∧ v10 = .int .i64 i ∧ Aside0 (Own w wr (X :: Blk gw (.cells #[.slice A7 m c7] 38 (0, 0)) :: Row k25 25 (.slice A7 m c7) wy :: NetA gx wy (80 * k + 80) :: [])) ∧ Aside0 (i < m → ∃ b cs, A5 = some ⟨b, 0, none⟩ ∧ X = Blk b (.cells cs 25 (0, 0)) ∧ ∀ j x, i ≤ j → wy[j]? = some x → ∀ t u, (pkV x)[t]? = some u → cs[j * 3 + t]? = some u)) (fun v10 _ => m - (RowKit.intOf v10).toNat)
        case atStart =>
          by_cases h0 : 0 < m
          · obtain ⟨b1, c1, e1⟩ := row_form' H15.out (by rw [HM.out]; exact h0)
            injection e1 with e1 _ _
            subst e1
            obtain ⟨cs, _, _, _, h2, h1⟩ := pk_open H15.out
            exact ⟨0, _, Nat.zero_le _, rfl, ⟨h1⟩, ⟨fun _ => ⟨b1, cs, rfl, rfl, fun j x _ hx => h2 j x hx⟩⟩⟩
          · exact ⟨0, _, Nat.zero_le _, rfl, H15, ⟨fun q => absurd q h0⟩⟩
        case round =>
          obtain ⟨i, X, hi, rfl, HJ, HXX⟩ := hrel
          by_cases hlt2 : i < m
          · obtain ⟨b1, cs, e1, e2, hcs⟩ := HXX.out hlt2
            subst e1
            subst e2
            have HCS := Aside0.mk hcs
            have hiw : i < wy.length := by rw [HM.out]; exact hlt2
            have hgi := List.getElem?_eq_getElem hiw
            generalize wy[i] = q at hgi
            obtain ⟨x0, x1, x2⟩ := q
            obtain ⟨b7, c8, e7⟩ := row_form' HJ.out.r2 (by omega)
            injection e7 with e7 e8 e9
            clear e8 e9
            subst e7
            have hfb1 := add_at b1
            have hfb7 := add_at b7
            have q0 := (blk_cell HJ.out.at0 (i * 3 + 0)).trans (hcs i _ (Nat.le_refl _) hgi 0 _ rfl)
            have q1 := (blk_cell HJ.out.at0 (i * 3 + 1)).trans (hcs i _ (Nat.le_refl _) hgi 1 _ rfl)
            have q2 := (blk_cell HJ.out.at0 (i * 3 + 2)).trans (hcs i _ (Nat.le_refl _) hgi 2 _ rfl)
            have r0 := pk_cell HJ.out.r2 i _ hgi 0 _ rfl
            have r1 := pk_cell HJ.out.r2 i _ hgi 1 _ rfl
            have r2 := pk_cell HJ.out.r2 i _ hgi 2 _ rfl
            rw [Nat.add_zero] at q0 r0
            have g0 := (blk_cell HJ.out.at1 0).trans rfl
            have hq := fun W => (neqPk x0 x0 x1 x1 x2 x2 W).trans (by rw [samePk_self]; try rfl)
            clear hcs hgi hiw
            go_wp2
            go_quiet (fail)
            have hB := HJ.out.drewN nq
            have hfz := blk_frozen hB.at0 (i * 3 + 2)
            have hce : (wr.drewN nq).cell? ⟨b1, i * 3 + 2, none⟩ = some (.string x2) := q2
            clear hB
            go_wp2
            go_roundw
            case rel => exact ⟨i + 1, _, by omega, by first | rfl | go_num, ⟨(HJ.out.drewN nq).set (i * 3 + 2) _⟩, ⟨fun _ => ⟨b1, _, rfl, rfl, fun j x hj hx t u hu => by
              rw [Array.getElem?_setIfInBounds_ne (by have ht : t < 3 := (List.getElem?_eq_some_iff.1 hu).1; omega)]
              exact HCS.out j x (by omega) hx t u hu⟩⟩⟩
            case measure => first | (simp [RowKit.intOf]; done) | (simp [RowKit.intOf]; omega)
          · clear HXX
            go_wp2
            go_roundw
            case rel => exact ⟨k + 1, by omega, by first | rfl | go_num, ⟨by rw [S1.out, PS.out]; exact (ref_shut HJ.out.tail).r1⟩⟩
            case measure => first | (simp [RowKit.intOf]; done) | (simp [RowKit.intOf]; omega)
    · have hk2 : k = l.length := by omega
      subst hk2
      clear hk hlt
      go_wp2
      go_ret
      exact ⟨rfl, HO.out.bel⟩
theorem NetPlays_law (A : Option Addr) (c : Nat) (l : List ACT) (w : World) (hr : Kd.C k40 w A l.length l) (hc : l.length ≤ c) (hq : l.length ≤ 9223372036854775807 ∧ ∀ x ∈ l, Q40 x) :
    Calls Try.prog 4 #[.slice A l.length c] w fun e w' => e = .returned (.bool true) ∧ Below w.heap.size w w' := by
  obtain ⟨k, r, hg, h5⟩ := great_f l
  cases r with
  | true => exact NetPlays_great A c l w hr hc k hg
  | false => exact NetPlays_small A c l w hr hc k hg (h5 rfl) hq.2
end Go.Proofs.Ytdnpodpmicllgaa.PNetPlays
