/- The law ScriptCut, walked. -/
import Derived.Test.YtapkoiaeghjpdaaScr17
import Derived.Test.YtapkoiaeghjpdaaHScriptBack
namespace Go.Proofs.Ytapkoiaeghjpdaa.PScriptWrites
open Go.RowKit Go.Proofs.YtapkoiaeghjpdaaW.PrintWords Go.Proofs.YtapkoiaeghjpdaaW.PrintLast Go.Proofs.YtapkoiaeghjpdaaW.PrintMore
open Go.Proofs.YtapkoiaeghjpdaaO
attribute [local go_sem] max2_int min2_int max_two min_two max_three min_three max_four min_four
set_option linter.unusedVariables false
set_option linter.unusedSimpArgs false
theorem own_C {w0 w : World} {R : List Asn} {α : Type} {d : Kd α} {A : Option Addr} {n c : Nat} {l : List α} {e : TypeId} (h : Own w0 w (Row d e (.slice A n c) l :: R)) : d.C w A n l := by
  obtain ⟨h1, _, h3⟩ := own_reads h
  rw [h1]
  exact h3
theorem encR_one {a : ActS} (ha : actIn a) : encR [a] = if okA a = true then (encA a, 0) else ([], 1) := by
  have e : encL [a] = encA a := by rw [encL_cons]; simp [encL]
  unfold encR
  by_cases h : okA a = true
  · have h1 := encA_len a ha h
    rw [if_pos (by simp [h]), if_pos h, if_neg (by rw [e]; simp; omega), e]
  · rw [if_neg (by simpa using h), if_neg h]
theorem EncodeOne {w0 w : World} {R : List Asn} (h : Own w0 w R) (A : Option Addr) (c : Nat) (x : ActS) (hr : Kd.C k33 w A [x].length [x]) (hQ : actIn x) (rl : List Int) (code : Int) (he : encR [x] = (rl, code)) :
    Calls Try.prog 14 #[.slice A 1 c] w fun e w' => ∃ A' c', e = .returned (.tuple #[.slice A' rl.length c', .int .i64 code]) ∧ Own w0 w' (Row (Kd.int .u8) 5 (.slice A' rl.length c') rl :: R) :=
  EncodeB h A c [x] hr (fun y hy => by rw [List.mem_singleton.1 hy]; exact hQ) (by simp) rl code he
theorem quiet_same {w : World} {n : Nat} (A1 A2 : Option Addr) (n1 n2 c1 c2 : Nat) (l : List ActS) (hn1 : n1 = l.length) (hn2 : n2 = l.length) (h1 : Kd.C k33 w A1 l.length l) (h2 : Kd.C k33 w A2 l.length l) (k1 : l.length ≤ c1) (k2 : l.length ≤ c2) (hl : l.length ≤ 1000000) :
    Calls Try.prog 12 #[.slice A1 n1 c1, .slice A2 n2 c2] (w.drewN n) fun e w' => e = .returned (.bool true) ∧ ∃ m, w' = w.drewN m := by
  subst hn1 hn2
  exact Calls.quiet_of ((meterlaw27_same.calls (l.length + 1) A1 c1 l A2 c2 l true (w.drewN n) (Kd.C_drewN h1 n) k1 (Kd.C_drewN h2 n) k2 (same_f l (by omega))).mono fun e w' ⟨he, hb⟩ => ⟨he, hb.out⟩)
set_option maxHeartbeats 8000000 in
set_option maxRecDepth 100000 in
theorem ScriptCut_great (A : Option Addr) (c : Nat) (l : List ActS) (a : Int) (w : World) (hr : Kd.C k33 w A l.length l) (hc : l.length ≤ c) {k : Nat} (hf : meterlaw27_Great.f k l = some true) :
    Calls Try.prog 7 #[.slice A l.length c, .int .i64 a] w fun e w' => e = .returned (.bool true) ∧ Below w.heap.size w w' := by
  have HR := Aside0.mk hr
  have HC := Aside0.mk hc
  have HF := Aside0.mk hf
  have H0 := Aside0.mk (Own.nil w)
  clear hr hc hf
  go_enter Try.func7, Try.ntmps7
  go_wp2_with (first
    | (go_at_call 10; ((with_reducible refine (awake_calls H0.out).mono ?_)); rintro e w1 ⟨rfl, h⟩; have H1 := Aside0.mk h; clear h)
    | (go_at_call 15; ((with_reducible refine (great_calls H1.out HF.out A c (C_of_own H1.out HR.out) HC.out).mono ?_)); rintro e w2 ⟨rfl, h⟩; have H2 := Aside0.mk h; clear h))
  go_ret
  exact ⟨rfl, H2.out.bel⟩
set_option maxHeartbeats 8000000 in
set_option maxRecDepth 100000 in
theorem ScriptCut_bad1 (A : Option Addr) (c : Nat) (l : List ActS) (a : Int) (w : World) (hr : Kd.C k33 w A l.length l) (hc : l.length ≤ c) {k : Nat} (hf : meterlaw27_Great.f k l = some false) (hq : Small l) (x : List Int) (he : encR l = (x, 1)) :
    Calls Try.prog 7 #[.slice A l.length c, .int .i64 a] w fun e w' => e = .returned (.bool true) ∧ Below w.heap.size w w' := by
  have HR := Aside0.mk hr
  have HC := Aside0.mk hc
  have HF := Aside0.mk hf
  have H0 := Aside0.mk (Own.nil w)
  have HQ := Aside0.mk hq.2
  have HL := Aside0.mk (show l.length ≤ 10000000 from by have := hq.1; omega)
  have HLL := Aside0.mk (show l.length ≤ 1000000 from by have := hq.1; omega)
  have hl5 := hq.1
  have HE := Aside0.mk he
  clear hr hc hf hq he
  go_enter Try.func7, Try.ntmps7
  go_wp2_with (first
    | (go_at_call 10; ((with_reducible refine (awake_calls H0.out).mono ?_)); rintro e w1 ⟨rfl, h⟩; have H1 := Aside0.mk h; clear h)
    | (go_at_call 15; ((with_reducible refine (great_calls H1.out HF.out A c (C_of_own H1.out HR.out) HC.out).mono ?_)); rintro e w2 ⟨rfl, h⟩; have H2 := Aside0.mk h; clear h)
    | (go_at_call 14; ((with_reducible refine (EncodeB H2.out A c l (C_of_own H2.out HR.out) HQ.out HL.out x 1 HE.out).mono ?_)); rintro e w3 ⟨A1, c1, rfl, h⟩; have H3 := Aside0.mk h; clear h))
  go_ret
  exact ⟨rfl, H3.out.bel⟩
set_option maxHeartbeats 8000000 in
set_option maxRecDepth 100000 in
theorem ScriptCut_bad3 (A : Option Addr) (c : Nat) (l : List ActS) (a : Int) (w : World) (hr : Kd.C k33 w A l.length l) (hc : l.length ≤ c) {k : Nat} (hf : meterlaw27_Great.f k l = some false) (hq : Small l) (x : List Int) (he : encR l = (x, 3)) :
    Calls Try.prog 7 #[.slice A l.length c, .int .i64 a] w fun e w' => e = .returned (.bool true) ∧ Below w.heap.size w w' := by
  have HR := Aside0.mk hr
  have HC := Aside0.mk hc
  have HF := Aside0.mk hf
  have H0 := Aside0.mk (Own.nil w)
  have HQ := Aside0.mk hq.2
  have HL := Aside0.mk (show l.length ≤ 10000000 from by have := hq.1; omega)
  have HLL := Aside0.mk (show l.length ≤ 1000000 from by have := hq.1; omega)
  have hl5 := hq.1
  have HE := Aside0.mk he
  clear hr hc hf hq he
  go_enter Try.func7, Try.ntmps7
  go_wp2_with (first
    | (go_at_call 10; ((with_reducible refine (awake_calls H0.out).mono ?_)); rintro e w1 ⟨rfl, h⟩; have H1 := Aside0.mk h; clear h)
    | (go_at_call 15; ((with_reducible refine (great_calls H1.out HF.out A c (C_of_own H1.out HR.out) HC.out).mono ?_)); rintro e w2 ⟨rfl, h⟩; have H2 := Aside0.mk h; clear h)
    | (go_at_call 14; ((with_reducible refine (EncodeB H2.out A c l (C_of_own H2.out HR.out) HQ.out HL.out x 3 HE.out).mono ?_)); rintro e w3 ⟨A1, c1, rfl, h⟩; have H3 := Aside0.mk h; clear h))
  go_ret
  exact ⟨rfl, H3.out.bel⟩
set_option maxHeartbeats 8000000 in
set_option maxRecDepth 100000 in
theorem ScriptCut_neg (A : Option Addr) (c : Nat) (l : List ActS) (a : Int) (w : World) (hr : Kd.C k33 w A l.length l) (hc : l.length ≤ c) {k : Nat} (hf : meterlaw27_Great.f k l = some false) (hq : Small l) (x : List Int) (he : encR l = (x, 0)) (ha : a < 0) :
    Calls Try.prog 7 #[.slice A l.length c, .int .i64 a] w fun e w' => e = .returned (.bool true) ∧ Below w.heap.size w w' := by
  have HR := Aside0.mk hr
  have HC := Aside0.mk hc
  have HF := Aside0.mk hf
  have H0 := Aside0.mk (Own.nil w)
  have HQ := Aside0.mk hq.2
  have HL := Aside0.mk (show l.length ≤ 10000000 from by have := hq.1; omega)
  have HLL := Aside0.mk (show l.length ≤ 1000000 from by have := hq.1; omega)
  have hl5 := hq.1
  have HE := Aside0.mk he
  have d4 : decide (a < 0) = true := decide_eq_true ha
  clear hr hc hf hq he ha
  go_enter Try.func7, Try.ntmps7
  go_wp2_with (first
    | (go_at_call 10; ((with_reducible refine (awake_calls H0.out).mono ?_)); rintro e w1 ⟨rfl, h⟩; have H1 := Aside0.mk h; clear h)
    | (go_at_call 15; ((with_reducible refine (great_calls H1.out HF.out A c (C_of_own H1.out HR.out) HC.out).mono ?_)); rintro e w2 ⟨rfl, h⟩; have H2 := Aside0.mk h; clear h)
    | (go_at_call 14; ((with_reducible refine (EncodeB H2.out A c l (C_of_own H2.out HR.out) HQ.out HL.out x 0 HE.out).mono ?_)); rintro e w3 ⟨A1, c1, rfl, h⟩; have H3 := Aside0.mk h; clear h))
  go_ret
  exact ⟨rfl, H3.out.bel⟩
set_option maxHeartbeats 8000000 in
set_option maxRecDepth 100000 in
theorem ScriptCut_far (A : Option Addr) (c : Nat) (l : List ActS) (a : Int) (w : World) (hr : Kd.C k33 w A l.length l) (hc : l.length ≤ c) {k : Nat} (hf : meterlaw27_Great.f k l = some false) (hq : Small l) (x : List Int) (he : encR l = (x, 0)) (ha : ¬ a < 0) (ha2 : a > x.length) :
    Calls Try.prog 7 #[.slice A l.length c, .int .i64 a] w fun e w' => e = .returned (.bool true) ∧ Below w.heap.size w w' := by
  have HR := Aside0.mk hr
  have HC := Aside0.mk hc
  have HF := Aside0.mk hf
  have H0 := Aside0.mk (Own.nil w)
  have HQ := Aside0.mk hq.2
  have HL := Aside0.mk (show l.length ≤ 10000000 from by have := hq.1; omega)
  have HLL := Aside0.mk (show l.length ≤ 1000000 from by have := hq.1; omega)
  have hl5 := hq.1
  have HE := Aside0.mk he
  have d4 : decide (a < 0) = false := decide_eq_false ha
  have d5 : decide (a > (x.length : Int)) = true := decide_eq_true ha2
  have d5' : decide ((x.length : Int) < a) = true := decide_eq_true ha2
  clear hr hc hf hq he ha ha2
  go_enter Try.func7, Try.ntmps7
  go_wp2_with (first
    | (go_at_call 10; ((with_reducible refine (awake_calls H0.out).mono ?_)); rintro e w1 ⟨rfl, h⟩; have H1 := Aside0.mk h; clear h)
    | (go_at_call 15; ((with_reducible refine (great_calls H1.out HF.out A c (C_of_own H1.out HR.out) HC.out).mono ?_)); rintro e w2 ⟨rfl, h⟩; have H2 := Aside0.mk h; clear h)
    | (go_at_call 14; ((with_reducible refine (EncodeB H2.out A c l (C_of_own H2.out HR.out) HQ.out HL.out x 0 HE.out).mono ?_)); rintro e w3 ⟨A1, c1, rfl, h⟩; have H3 := Aside0.mk h; clear h))
  go_ret
  exact ⟨rfl, H3.out.bel⟩
theorem DecodeN {w0 w : World} {R : List Asn} (h : Own w0 w R) (A : Option Addr) (n c : Nat) (l : List Int) (hn : l.length = n) (hr : Kd.C (Kd.int .u8) w A n l) (hc : n ≤ c) (hg : rg l) (dl : List ActS) (hd : decR l = dl) :
    Calls Try.prog 11 #[.slice A n c] w fun e w' => ∃ A' c', e = .returned (.slice A' dl.length c') ∧ Own w0 w' (Row k33 33 (.slice A' dl.length c') dl :: R) := by
  subst hn
  exact DecodeB h A c l hr hc hg dl hd
set_option maxHeartbeats 8000000 in
set_option maxRecDepth 100000 in
theorem ScriptCut_main (A : Option Addr) (c : Nat) (l : List ActS) (n : Nat) (w : World) (hr : Kd.C k33 w A l.length l) (hc : l.length ≤ c) {k : Nat} (hf : meterlaw27_Great.f k l = some false) (hq : Small l) (x : List Int) (hx : encL l = x) (ho : l.all okA = true) (h4 : l.length ≤ 4096) (h6 : x.length ≤ 65536) (hn : n ≤ x.length) :
    Calls Try.prog 7 #[.slice A l.length c, .int .i64 (n : Int)] w fun e w' => e = .returned (.bool true) ∧ Below w.heap.size w w' := by
  have HR := Aside0.mk hr
  have HC := Aside0.mk hc
  have HF := Aside0.mk hf
  have H0 := Aside0.mk (Own.nil w)
  have HQ := Aside0.mk hq.2
  have HL := Aside0.mk (show l.length ≤ 10000000 from by have := hq.1; omega)
  have HLL := Aside0.mk (show l.length ≤ 1000000 from by have := hq.1; omega)
  have hl5 := hq.1
  have HE := Aside0.mk (show encR l = (x, 0) by rw [← hx]; exact encR_yes ho h4 (hx ▸ h6))
  have HOK := Aside0.mk ho
  have HX6 := Aside0.mk (show (encL l).length ≤ 65536 by rw [hx]; exact h6)
  have HL4 := Aside0.mk h4
  have HXL := Aside0.mk hx
  have HNX := Aside0.mk hn
  have HGX := Aside0.mk (show rg x by rw [← hx]; exact rg_encL l)
  obtain ⟨i0, hi0, _⟩ := Option.map_eq_some_iff.1 infoAct
  have HI := Aside0.mk hi0
  obtain ⟨i5, hi5, _⟩ := Option.map_eq_some_iff.1 info5
  have HI5 := Aside0.mk hi5
  clear hi0 hi5
  have d4 : decide ((n : Int) < 0) = false := decide_eq_false (by omega)
  have d5 : decide ((n : Int) > (x.length : Int)) = false := decide_eq_false (by omega)
  have d5' : decide ((x.length : Int) < (n : Int)) = false := decide_eq_false (by omega)
  have d5'' : decide (x.length < n) = false := decide_eq_false (by omega)
  clear hr hc hf hq ho hx
  go_enter Try.func7, Try.ntmps7
  go_wp2_with (first
    | (go_at_call 10; ((with_reducible refine (awake_calls H0.out).mono ?_)); rintro e w1 ⟨rfl, h⟩; have H1 := Aside0.mk h; clear h)
    | (go_at_call 15; ((with_reducible refine (great_calls H1.out HF.out A c (C_of_own H1.out HR.out) HC.out).mono ?_)); rintro e w2 ⟨rfl, h⟩; have H2 := Aside0.mk h; clear h)
    | (go_at_call 14; ((with_reducible refine (EncodeB H2.out A c l (C_of_own H2.out HR.out) HQ.out HL.out x 0 HE.out).mono ?_)); rintro e w3 ⟨A1, c1, rfl, h⟩; have H3 := Aside0.mk h; clear h))
  rename World => wo
  go_loopw [7, 8, 9] (fun v7 v8 v9 wr => ∃ i : Nat, i ≤ l.length ∧ (encL (l.take i)).length ≤ n ∧ v7 = .int .i64 i ∧ v8 = .int .i64 (encL (l.take i)).length ∧ v9 = .int .i64 i ∧ Aside0 (Own w wr (Row (Kd.int .u8) 5 (.slice A1 x.length c1) x :: []))) (fun _ _ v9 _ => l.length - (RowKit.intOf v9).toNat)
  case atStart => exact ⟨0, Nat.zero_le _, Nat.zero_le _, rfl, rfl, rfl, H3⟩
  case round =>
    obtain ⟨i, hi, hin, rfl, rfl, rfl, HO⟩ := hrel
    by_cases hlt : i < l.length
    · have hgx := List.getElem?_eq_getElem hlt
      obtain ⟨xi, hxi⟩ : ∃ xi, l[i] = xi := ⟨_, rfl⟩
      rw [hxi] at hgx
      have hmem := List.mem_of_getElem? hgx
      have hqx := HQ.out xi hmem
      have hokx := List.all_eq_true.1 HOK.out xi hmem
      clear hmem
      have hsn := encL_snoc l i xi hgx
      have hsl := congrArg List.length hsn
      rw [List.length_append] at hsl
      obtain ⟨A9, ks, hC9⟩ := cut_act (C_of_own HO.out HR.out) HC.out i _ hgx
      have HC9 := Aside0.mk hC9
      have HQX := Aside0.mk hqx
      have HEX := Aside0.mk (show encR [xi] = (encA xi, 0) by rw [encR_one hqx, if_pos hokx])
      have hxl := encA_len xi hqx hokx
      obtain ⟨ex, hex⟩ : ∃ ex, encA xi = ex := ⟨_, rfl⟩
      rw [hex] at HEX hsl hxl
      obtain ⟨s, hs⟩ : ∃ s, (encL (l.take i)).length = s := ⟨_, rfl⟩
      rw [hs] at hsl hin ⊢
      have HSL := Lib.hid hsl
      have HS := Lib.hid hs
      clear hxi hgx hC9 hqx hokx hsn hsl hex hs
      by_cases hgt : s + ex.length > n
      · have d8 : decide ((s : Int) + (ex.length : Int) > (n : Int)) = true := decide_eq_true (by omega)
        have d8' : decide ((n : Int) < (s : Int) + (ex.length : Int)) = true := decide_eq_true (by omega)
        have d8'' : decide (n < s + ex.length) = true := decide_eq_true (by omega)
        have hin2 : (encL (l.take i)).length ≤ n := by rw [HS.out]; exact hin
        obtain ⟨t, ht⟩ := decR_cut HQ.out HOK.out HX6.out HL4.out (j := i) (n := n) hin2
        obtain ⟨q, hq⟩ : ∃ q, decR (x.take n) = q := ⟨_, rfl⟩
        rw [HXL.out, hq] at ht
        obtain ⟨p, hp⟩ : ∃ p, l.take i = p := ⟨_, rfl⟩
        rw [hp] at ht
        have hpl : p.length = i := by rw [← hp, List.length_take]; omega
        have HPL := Aside0.mk hpl
        have HP := Aside0.mk hp
        have hql : i ≤ q.length := by rw [ht, List.length_append]; omega
        have HTK := Aside0.mk (show q.take i = p by rw [ht, ← hpl, List.take_left])
        have HDQ := Aside0.mk hq
        have HQL := Aside0.mk hql
        have HIL := Aside0.mk hi
        have HP1 := Aside0.mk (show p.length ≤ 1000000 by omega)
        have d7 : decide ((q.length : Int) ≥ (i : Int)) = true := decide_eq_true (by omega)
        have d7' : decide ((i : Int) ≤ (q.length : Int)) = true := decide_eq_true (by omega)
        have d7'' : decide (i ≤ q.length) = true := decide_eq_true (by omega)
        have hCx := Kd.C_take (own_reads HO.out).2.2 (m := n) HNX.out
        have HGT := Aside0.mk (rg_take HGX.out n)
        have hxn : (x.take n).length = n := by rw [List.length_take]; have := HNX.out; omega
        rw [hxn] at hCx
        have HCX := Aside0.mk hCx
        have HCX2 := Aside0.mk (Nat.le_trans HNX.out (own_reads HO.out).2.1)
        have HXN := Aside0.mk hxn
        have hkb := cut_to (P := Try.prog) 22 5 .i64 Try.underlying22 HI5.out A1 x.length c1 (n : Int) (Int.natCast_nonneg _) (Int.ofNat_le.2 HNX.out) (own_reads HO.out).2.1
        rw [Int.toNat_natCast] at hkb
        have hkl := cut_to (P := Try.prog) 24 33 .i64 Try.underlying24 HI.out A l.length c (i : Int) (Int.natCast_nonneg _) (Int.ofNat_le.2 HIL.out) HC.out
        rw [Int.toNat_natCast] at hkl
        clear ht hq hp hpl hql hCx hxn
        go_wp2_with (first
          | (go_at_call 14; ((with_reducible refine (EncodeOne HO.out A9 (c - i) xi HC9.out HQX.out ex 0 HEX.out).mono ?_)); rintro e w6 ⟨A6, c6, rfl, h⟩; have hcx6 := Kd.C_take (own_reads h.tail).2.2 (m := n) HNX.out; rw [HXN.out] at hcx6; have HCX := Aside0.mk hcx6; clear hcx6; have H6 := Aside0.mk h.tail; clear h)
          | (go_at_call 11; ((with_reducible refine (DecodeN H6.out A1 n c1 (x.take n) HXN.out HCX.out HCX2.out HGT.out q HDQ.out).mono ?_)); rintro e w8 ⟨A8, c8, rfl, h⟩; have hcn := (own_reads h).2.1; have hkt := cut_to (P := Try.prog) 24 33 .i64 Try.underlying24 HI.out A8 q.length c8 (i : Int) (Int.natCast_nonneg _) (Int.ofNat_le.2 HQL.out) hcn; rw [Int.toNat_natCast] at hkt; have HC8 := Aside0.mk (Kd.C_take (own_reads h).2.2 (m := i) HQL.out); rw [HTK.out] at HC8; have HCN := Aside0.mk (Nat.le_trans HQL.out hcn); have HCL := Aside0.mk (Kd.C_take (C_of_own h HR.out) (m := i) HIL.out); rw [HP.out] at HCL; have H8 := Aside0.mk h; clear h hcn))
        go_quiet (exact quiet_same A8 A _ _ c8 c p HPL.out.symm HPL.out.symm HC8.out HCL.out (by rw [HPL.out]; exact HCN.out) (by rw [HPL.out]; exact Nat.le_trans HIL.out HC.out) HP1.out)
        go_wp2
        go_ret
        exact ⟨rfl, (H8.out.drewN _).bel⟩
      · have d8 : decide ((s : Int) + (ex.length : Int) > (n : Int)) = false := decide_eq_false (by omega)
        have d8' : decide ((n : Int) < (s : Int) + (ex.length : Int)) = false := decide_eq_false (by omega)
        have d8'' : decide (n < s + ex.length) = false := decide_eq_false (by omega)
        go_wp2_with (first
          | (go_at_call 14; ((with_reducible refine (EncodeOne HO.out A9 (c - i) xi HC9.out HQX.out ex 0 HEX.out).mono ?_)); rintro e w6 ⟨A6, c6, rfl, h⟩; have H6 := Aside0.mk h.tail; clear h))
        go_roundw
        case rel => exact ⟨i + 1, by omega, by rw [HSL.out]; omega, by first | rfl | go_num, by rw [HSL.out]; first | rfl | go_num, by first | rfl | go_num, H6⟩
        case measure => first | (simp [RowKit.intOf]; done) | (simp [RowKit.intOf]; omega)
    · have hlt2 : decide ((i : Int) < (l.length : Int)) = false := decide_eq_false (by omega)
      have hin2 := hin
      obtain ⟨t, ht⟩ := decR_cut HQ.out HOK.out HX6.out HL4.out (j := i) (n := n) hin2
      obtain ⟨q, hq⟩ : ∃ q, decR (x.take n) = q := ⟨_, rfl⟩
      rw [HXL.out, hq] at ht
      obtain ⟨p, hp⟩ : ∃ p, l.take i = p := ⟨_, rfl⟩
      rw [hp] at ht
      have hpl : p.length = i := by rw [← hp, List.length_take]; omega
      have HPL := Aside0.mk hpl
      have HP := Aside0.mk hp
      have hql : i ≤ q.length := by rw [ht, List.length_append]; omega
      have HTK := Aside0.mk (show q.take i = p by rw [ht, ← hpl, List.take_left])
      have HDQ := Aside0.mk hq
      have HQL := Aside0.mk hql
      have HIL := Aside0.mk hi
      have HP1 := Aside0.mk (show p.length ≤ 1000000 by omega)
      have d7 : decide ((q.length : Int) ≥ (i : Int)) = true := decide_eq_true (by omega)
      have d7' : decide ((i : Int) ≤ (q.length : Int)) = true := decide_eq_true (by omega)
      have d7'' : decide (i ≤ q.length) = true := decide_eq_true (by omega)
      have hCx := Kd.C_take (own_reads HO.out).2.2 (m := n) HNX.out
      have HGT := Aside0.mk (rg_take HGX.out n)
      have hxn : (x.take n).length = n := by rw [List.length_take]; have := HNX.out; omega
      rw [hxn] at hCx
      have HCX := Aside0.mk hCx
      have HCX2 := Aside0.mk (Nat.le_trans HNX.out (own_reads HO.out).2.1)
      have HXN := Aside0.mk hxn
      have hkb := cut_to (P := Try.prog) 22 5 .i64 Try.underlying22 HI5.out A1 x.length c1 (n : Int) (Int.natCast_nonneg _) (Int.ofNat_le.2 HNX.out) (own_reads HO.out).2.1
      rw [Int.toNat_natCast] at hkb
      have hkl := cut_to (P := Try.prog) 24 33 .i64 Try.underlying24 HI.out A l.length c (i : Int) (Int.natCast_nonneg _) (Int.ofNat_le.2 HIL.out) HC.out
      rw [Int.toNat_natCast] at hkl
      clear ht hq hp hpl hql hCx hxn
      go_wp2_with (first
        | (go_at_call 11; ((with_reducible refine (DecodeN HO.out A1 n c1 (x.take n) HXN.out HCX.out HCX2.out HGT.out q HDQ.out).mono ?_)); rintro e w8 ⟨A8, c8, rfl, h⟩; have hcn := (own_reads h).2.1; have hkt := cut_to (P := Try.prog) 24 33 .i64 Try.underlying24 HI.out A8 q.length c8 (i : Int) (Int.natCast_nonneg _) (Int.ofNat_le.2 HQL.out) hcn; rw [Int.toNat_natCast] at hkt; have HC8 := Aside0.mk (Kd.C_take (own_reads h).2.2 (m := i) HQL.out); rw [HTK.out] at HC8; have HCN := Aside0.mk (Nat.le_trans HQL.out hcn); have HCL := Aside0.mk (Kd.C_take (C_of_own h HR.out) (m := i) HIL.out); rw [HP.out] at HCL; have H8 := Aside0.mk h; clear h hcn))
      go_quiet (exact quiet_same A8 A _ _ c8 c p HPL.out.symm HPL.out.symm HC8.out HCL.out (by rw [HPL.out]; exact HCN.out) (by rw [HPL.out]; exact Nat.le_trans HIL.out HC.out) HP1.out)
      go_wp2
      go_ret
      exact ⟨rfl, (H8.out.drewN _).bel⟩
theorem ScriptCut_law (A : Option Addr) (c : Nat) (l : List ActS) (a : Int) (w : World) (hr : Kd.C k33 w A l.length l) (hc : l.length ≤ c) (hq : l.length ≤ 9223372036854775807 ∧ ∀ x ∈ l, Q33 x) (wa : (Lit.int .i64 a).wf = true) :
    Calls Try.prog 7 #[.slice A l.length c, .int .i64 a] w fun e w' => e = .returned (.bool true) ∧ Below w.heap.size w w' := by
  obtain ⟨k, r, hf, hg⟩ := great_f l
  cases r with
  | true => exact ScriptCut_great A c l a w hr hc hf
  | false =>
  have hsm := small_of hq.2 (hg rfl)
  rcases encR_cases l with ⟨h1, h2, h3, h4⟩ | h | h
  · by_cases ha : a < 0
    · exact ScriptCut_neg A c l a w hr hc hf hsm _ h4 ha
    · by_cases ha2 : a > (encL l).length
      · exact ScriptCut_far A c l a w hr hc hf hsm _ h4 ha ha2
      · obtain ⟨n, rfl⟩ := Int.eq_ofNat_of_zero_le (show 0 ≤ a by omega)
        exact ScriptCut_main A c l n w hr hc hf hsm _ rfl h1 h2 h3 (by omega)
  · exact ScriptCut_bad1 A c l a w hr hc hf hsm _ h
  · exact ScriptCut_bad3 A c l a w hr hc hf hsm _ h
end Go.Proofs.Ytapkoiaeghjpdaa.PScriptWrites
