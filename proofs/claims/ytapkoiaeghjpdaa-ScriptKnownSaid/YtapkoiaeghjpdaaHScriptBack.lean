/- The law ScriptBack, walked. -/
import Derived.Test.YtapkoiaeghjpdaaScr17
namespace Go.Proofs.Ytapkoiaeghjpdaa.PScriptWrites
open Go.RowKit Go.Proofs.YtapkoiaeghjpdaaW.PrintWords Go.Proofs.YtapkoiaeghjpdaaW.PrintLast Go.Proofs.YtapkoiaeghjpdaaW.PrintMore
open Go.Proofs.YtapkoiaeghjpdaaO
attribute [local go_sem] max2_int min2_int max_two min_two max_three min_three max_four min_four
set_option linter.unusedVariables false
set_option linter.unusedSimpArgs false
theorem encR_cases (l : List ActS) : (l.all okA = true ∧ l.length ≤ 4096 ∧ (encL l).length ≤ 65536 ∧ encR l = (encL l, 0)) ∨ encR l = ([], 1) ∨ encR l = ([], 3) := by
  unfold encR
  by_cases h1 : l.all okA = true
  · rw [if_pos h1]
    by_cases h2 : 4096 < l.length ∨ 65536 < (encL l).length
    · rw [if_pos h2]; exact .inr (.inr rfl)
    · rw [if_neg h2]; exact .inl ⟨h1, by omega, by omega, rfl⟩
  · rw [if_neg h1]; exact .inr (.inl rfl)
theorem rg_of {b : List Int} (h : ∀ x ∈ b, (Lit.int .u8 x).wf = true) : rg b := fun x hx => by
  have := h x hx
  simp [Lit.wf, IntKind.min, IntKind.max, IntKind.signed, IntKind.bits] at this
  omega
set_option maxHeartbeats 8000000 in
set_option maxRecDepth 100000 in
theorem ScriptBack_great (A : Option Addr) (c : Nat) (l : List ActS) (B : Option Addr) (d : Nat) (b : List Int) (w : World) (hr : Kd.C k33 w A l.length l) (hc : l.length ≤ c) (hs : Kd.C (Kd.int .u8) w B b.length b) (hd : b.length ≤ d) {k : Nat} (hf : meterlaw27_Great.f k l = some true) :
    Calls Try.prog 5 #[.slice A l.length c, .slice B b.length d] w fun e w' => e = .returned (.bool true) ∧ Below w.heap.size w w' := by
  have HR := Aside0.mk hr
  have HC := Aside0.mk hc
  have HS := Aside0.mk hs
  have HD := Aside0.mk hd
  have HF := Aside0.mk hf
  have H0 := Aside0.mk (Own.nil w)
  clear hr hc hs hd hf
  go_enter Try.func5, Try.ntmps5
  go_wp2_with (first
    | (go_at_call 10; ((with_reducible refine (awake_calls H0.out).mono ?_)); rintro e w1 ⟨rfl, h⟩; have H1 := Aside0.mk h; clear h)
    | (go_at_call 15; ((with_reducible refine (great_calls H1.out HF.out A c (C_of_own H1.out HR.out) HC.out).mono ?_)); rintro e w2 ⟨rfl, h⟩; have H2 := Aside0.mk h; clear h))
  go_ret
  exact ⟨rfl, H2.out.bel⟩
set_option maxHeartbeats 8000000 in
set_option maxRecDepth 100000 in
theorem ScriptBack_long (A : Option Addr) (c : Nat) (l : List ActS) (B : Option Addr) (d : Nat) (b : List Int) (w : World) (hr : Kd.C k33 w A l.length l) (hc : l.length ≤ c) (hs : Kd.C (Kd.int .u8) w B b.length b) (hd : b.length ≤ d) {k : Nat} (hf : meterlaw27_Great.f k l = some false) (hg : b.length > 70000) :
    Calls Try.prog 5 #[.slice A l.length c, .slice B b.length d] w fun e w' => e = .returned (.bool true) ∧ Below w.heap.size w w' := by
  have HR := Aside0.mk hr
  have HC := Aside0.mk hc
  have HS := Aside0.mk hs
  have HD := Aside0.mk hd
  have HF := Aside0.mk hf
  have H0 := Aside0.mk (Own.nil w)
  have d1 : decide ((b.length : Int) > 70000) = true := decide_eq_true (by omega)
  have d1' : decide (70000 < (b.length : Int)) = true := decide_eq_true (by omega)
  have d1'' : decide (70000 < b.length) = true := decide_eq_true (by omega)
  clear hr hc hs hd hf hg
  go_enter Try.func5, Try.ntmps5
  go_wp2_with (first
    | (go_at_call 10; ((with_reducible refine (awake_calls H0.out).mono ?_)); rintro e w1 ⟨rfl, h⟩; have H1 := Aside0.mk h; clear h)
    | (go_at_call 15; ((with_reducible refine (great_calls H1.out HF.out A c (C_of_own H1.out HR.out) HC.out).mono ?_)); rintro e w2 ⟨rfl, h⟩; have H2 := Aside0.mk h; clear h))
  go_ret
  exact ⟨rfl, H2.out.bel⟩
set_option maxHeartbeats 8000000 in
set_option maxRecDepth 100000 in
theorem ScriptBack_bad1 (A : Option Addr) (c : Nat) (l : List ActS) (B : Option Addr) (d : Nat) (b : List Int) (w : World) (hr : Kd.C k33 w A l.length l) (hc : l.length ≤ c) (hs : Kd.C (Kd.int .u8) w B b.length b) (hd : b.length ≤ d) (hb : b.length ≤ 70000) (hgb : rg b) (hq : Small l) {k : Nat} (hf : meterlaw27_Great.f k l = some false) (x : List Int) (he : encR l = (x, 1)) :
    Calls Try.prog 5 #[.slice A l.length c, .slice B b.length d] w fun e w' => e = .returned (.bool true) ∧ Below w.heap.size w w' := by
  have HR := Aside0.mk hr
  have HC := Aside0.mk hc
  have HS := Aside0.mk hs
  have HD := Aside0.mk hd
  have HF := Aside0.mk hf
  have H0 := Aside0.mk (Own.nil w)
  have HQ := Aside0.mk hq.2
  have HL := Aside0.mk (show l.length ≤ 10000000 from by have := hq.1; omega)
  have HLL := Aside0.mk (show l.length ≤ 1000000 from by have := hq.1; omega)
  have HGB := Aside0.mk hgb
  obtain ⟨m, hm⟩ : ∃ m, decR b = m := ⟨_, rfl⟩
  have hm1 : m.length ≤ 4096 := hm ▸ decR_len b
  obtain ⟨y, hy⟩ : ∃ y, encL m = y := ⟨_, rfl⟩
  have hy1 : y.length ≤ b.length := by rw [← hy, ← hm]; exact (decR_bytes hgb).1
  have HEM := Aside0.mk (show encR m = (y, 0) by rw [← hy, ← hm]; exact encR_dec hgb)
  have HDY := Aside0.mk (show decR y = m by rw [← hy, ← hm]; exact decR_dec hgb)
  have HGY := Aside0.mk (show rg y by rw [← hy]; exact rg_encL m)
  have HQM := Aside0.mk (show ∀ x ∈ m, actIn x by rw [← hm]; exact decR_in hgb)
  have HLM := Aside0.mk (show m.length ≤ 10000000 by omega)
  have HLMM := Aside0.mk (show m.length ≤ 1000000 by omega)
  have HDM := Aside0.mk hm
  have d1 : decide ((b.length : Int) > 70000) = false := decide_eq_false (by omega)
  have d1' : decide (70000 < (b.length : Int)) = false := decide_eq_false (by omega)
  have d1'' : decide (70000 < b.length) = false := decide_eq_false (by omega)
  have d2 : decide ((y.length : Int) > (b.length : Int)) = false := decide_eq_false (by omega)
  have d2' : decide ((b.length : Int) < (y.length : Int)) = false := decide_eq_false (by omega)
  have d2'' : decide (b.length < y.length) = false := decide_eq_false (by omega)
  have d3 : decide ((m.length : Int) > 4096) = false := decide_eq_false (by omega)
  have d3' : decide (4096 < (m.length : Int)) = false := decide_eq_false (by omega)
  have d3'' : decide (4096 < m.length) = false := decide_eq_false (by omega)
  have HE := Aside0.mk he
  clear hr hc hs hd hf hq hgb hm hy hm1 hy1 he hb
  go_enter Try.func5, Try.ntmps5
  go_wp2_with (first
    | (go_at_call 10; ((with_reducible refine (awake_calls H0.out).mono ?_)); rintro e w1 ⟨rfl, h⟩; have H1 := Aside0.mk h; clear h)
    | (go_at_call 15; ((with_reducible refine (great_calls H1.out HF.out A c (C_of_own H1.out HR.out) HC.out).mono ?_)); rintro e w2 ⟨rfl, h⟩; have H2 := Aside0.mk h; clear h)
    | (go_at_call 14; ((with_reducible refine (EncodeB H2.out A c l (C_of_own H2.out HR.out) HQ.out HL.out x 1 HE.out).mono ?_)); rintro e w3 ⟨A1, c1, rfl, h⟩; have H3 := Aside0.mk h; clear h)
    | (go_at_call 11; ((with_reducible refine (DecodeB H3.out B d b (C_of_own H3.out HS.out) HD.out HGB.out m HDM.out).mono ?_)); rintro e w6 ⟨A3, c3, rfl, h⟩; have H6 := Aside0.mk h; clear h)
    | (go_at_call 14; ((with_reducible refine (EncodeB H6.out A3 c3 m (own_reads H6.out).2.2 HQM.out HLM.out y 0 HEM.out).mono ?_)); rintro e w7 ⟨A4, c4, rfl, h⟩; have H7 := Aside0.mk h; clear h)
    | (go_at_call 11; ((with_reducible refine (DecodeB H7.out A4 c4 y (own_reads H7.out).2.2 (own_reads H7.out).2.1 HGY.out m HDY.out).mono ?_)); rintro e w8 ⟨A5, c5, rfl, h⟩; have H8 := Aside0.mk h; clear h)
    | (go_at_call 12; ((with_reducible refine (same_calls H8.out A5 A3 _ _ c5 c3 m rfl rfl (own_reads H8.out).2.2 (own_reads H8.out.r2).2.2 (own_reads H8.out).2.1 (own_reads H8.out.r2).2.1 HLMM.out).mono ?_)); rintro e w9 ⟨rfl, h⟩; have H9 := Aside0.mk h; clear h))
  go_ret
  exact ⟨rfl, H9.out.bel⟩
set_option maxHeartbeats 8000000 in
set_option maxRecDepth 100000 in
theorem ScriptBack_bad3 (A : Option Addr) (c : Nat) (l : List ActS) (B : Option Addr) (d : Nat) (b : List Int) (w : World) (hr : Kd.C k33 w A l.length l) (hc : l.length ≤ c) (hs : Kd.C (Kd.int .u8) w B b.length b) (hd : b.length ≤ d) (hb : b.length ≤ 70000) (hgb : rg b) (hq : Small l) {k : Nat} (hf : meterlaw27_Great.f k l = some false) (x : List Int) (he : encR l = (x, 3)) :
    Calls Try.prog 5 #[.slice A l.length c, .slice B b.length d] w fun e w' => e = .returned (.bool true) ∧ Below w.heap.size w w' := by
  have HR := Aside0.mk hr
  have HC := Aside0.mk hc
  have HS := Aside0.mk hs
  have HD := Aside0.mk hd
  have HF := Aside0.mk hf
  have H0 := Aside0.mk (Own.nil w)
  have HQ := Aside0.mk hq.2
  have HL := Aside0.mk (show l.length ≤ 10000000 from by have := hq.1; omega)
  have HLL := Aside0.mk (show l.length ≤ 1000000 from by have := hq.1; omega)
  have HGB := Aside0.mk hgb
  obtain ⟨m, hm⟩ : ∃ m, decR b = m := ⟨_, rfl⟩
  have hm1 : m.length ≤ 4096 := hm ▸ decR_len b
  obtain ⟨y, hy⟩ : ∃ y, encL m = y := ⟨_, rfl⟩
  have hy1 : y.length ≤ b.length := by rw [← hy, ← hm]; exact (decR_bytes hgb).1
  have HEM := Aside0.mk (show encR m = (y, 0) by rw [← hy, ← hm]; exact encR_dec hgb)
  have HDY := Aside0.mk (show decR y = m by rw [← hy, ← hm]; exact decR_dec hgb)
  have HGY := Aside0.mk (show rg y by rw [← hy]; exact rg_encL m)
  have HQM := Aside0.mk (show ∀ x ∈ m, actIn x by rw [← hm]; exact decR_in hgb)
  have HLM := Aside0.mk (show m.length ≤ 10000000 by omega)
  have HLMM := Aside0.mk (show m.length ≤ 1000000 by omega)
  have HDM := Aside0.mk hm
  have d1 : decide ((b.length : Int) > 70000) = false := decide_eq_false (by omega)
  have d1' : decide (70000 < (b.length : Int)) = false := decide_eq_false (by omega)
  have d1'' : decide (70000 < b.length) = false := decide_eq_false (by omega)
  have d2 : decide ((y.length : Int) > (b.length : Int)) = false := decide_eq_false (by omega)
  have d2' : decide ((b.length : Int) < (y.length : Int)) = false := decide_eq_false (by omega)
  have d2'' : decide (b.length < y.length) = false := decide_eq_false (by omega)
  have d3 : decide ((m.length : Int) > 4096) = false := decide_eq_false (by omega)
  have d3' : decide (4096 < (m.length : Int)) = false := decide_eq_false (by omega)
  have d3'' : decide (4096 < m.length) = false := decide_eq_false (by omega)
  have HE := Aside0.mk he
  clear hr hc hs hd hf hq hgb hm hy hm1 hy1 he hb
  go_enter Try.func5, Try.ntmps5
  go_wp2_with (first
    | (go_at_call 10; ((with_reducible refine (awake_calls H0.out).mono ?_)); rintro e w1 ⟨rfl, h⟩; have H1 := Aside0.mk h; clear h)
    | (go_at_call 15; ((with_reducible refine (great_calls H1.out HF.out A c (C_of_own H1.out HR.out) HC.out).mono ?_)); rintro e w2 ⟨rfl, h⟩; have H2 := Aside0.mk h; clear h)
    | (go_at_call 14; ((with_reducible refine (EncodeB H2.out A c l (C_of_own H2.out HR.out) HQ.out HL.out x 3 HE.out).mono ?_)); rintro e w3 ⟨A1, c1, rfl, h⟩; have H3 := Aside0.mk h; clear h)
    | (go_at_call 11; ((with_reducible refine (DecodeB H3.out B d b (C_of_own H3.out HS.out) HD.out HGB.out m HDM.out).mono ?_)); rintro e w6 ⟨A3, c3, rfl, h⟩; have H6 := Aside0.mk h; clear h)
    | (go_at_call 14; ((with_reducible refine (EncodeB H6.out A3 c3 m (own_reads H6.out).2.2 HQM.out HLM.out y 0 HEM.out).mono ?_)); rintro e w7 ⟨A4, c4, rfl, h⟩; have H7 := Aside0.mk h; clear h)
    | (go_at_call 11; ((with_reducible refine (DecodeB H7.out A4 c4 y (own_reads H7.out).2.2 (own_reads H7.out).2.1 HGY.out m HDY.out).mono ?_)); rintro e w8 ⟨A5, c5, rfl, h⟩; have H8 := Aside0.mk h; clear h)
    | (go_at_call 12; ((with_reducible refine (same_calls H8.out A5 A3 _ _ c5 c3 m rfl rfl (own_reads H8.out).2.2 (own_reads H8.out.r2).2.2 (own_reads H8.out).2.1 (own_reads H8.out.r2).2.1 HLMM.out).mono ?_)); rintro e w9 ⟨rfl, h⟩; have H9 := Aside0.mk h; clear h))
  go_ret
  exact ⟨rfl, H9.out.bel⟩
set_option maxHeartbeats 8000000 in
set_option maxRecDepth 100000 in
theorem ScriptBack_over (A : Option Addr) (c : Nat) (l : List ActS) (B : Option Addr) (d : Nat) (b : List Int) (w : World) (hr : Kd.C k33 w A l.length l) (hc : l.length ≤ c) (hs : Kd.C (Kd.int .u8) w B b.length b) (hd : b.length ≤ d) (hb : b.length ≤ 70000) (hgb : rg b) (hq : Small l) {k : Nat} (hf : meterlaw27_Great.f k l = some false) (ho : l.all okA = true) (hl4 : l.length ≤ 4096) (x : List Int) (hx : encL l = x) (hx6 : x.length ≤ 65536) (hov : x.length + b.length > 65536) :
    Calls Try.prog 5 #[.slice A l.length c, .slice B b.length d] w fun e w' => e = .returned (.bool true) ∧ Below w.heap.size w w' := by
  have HR := Aside0.mk hr
  have HC := Aside0.mk hc
  have HS := Aside0.mk hs
  have HD := Aside0.mk hd
  have HF := Aside0.mk hf
  have H0 := Aside0.mk (Own.nil w)
  have HQ := Aside0.mk hq.2
  have HL := Aside0.mk (show l.length ≤ 10000000 from by have := hq.1; omega)
  have HLL := Aside0.mk (show l.length ≤ 1000000 from by have := hq.1; omega)
  have HGB := Aside0.mk hgb
  obtain ⟨m, hm⟩ : ∃ m, decR b = m := ⟨_, rfl⟩
  have hm1 : m.length ≤ 4096 := hm ▸ decR_len b
  obtain ⟨y, hy⟩ : ∃ y, encL m = y := ⟨_, rfl⟩
  have hy1 : y.length ≤ b.length := by rw [← hy, ← hm]; exact (decR_bytes hgb).1
  have HEM := Aside0.mk (show encR m = (y, 0) by rw [← hy, ← hm]; exact encR_dec hgb)
  have HDY := Aside0.mk (show decR y = m by rw [← hy, ← hm]; exact decR_dec hgb)
  have HGY := Aside0.mk (show rg y by rw [← hy]; exact rg_encL m)
  have HQM := Aside0.mk (show ∀ x ∈ m, actIn x by rw [← hm]; exact decR_in hgb)
  have HLM := Aside0.mk (show m.length ≤ 10000000 by omega)
  have HLMM := Aside0.mk (show m.length ≤ 1000000 by omega)
  have HDM := Aside0.mk hm
  have d1 : decide ((b.length : Int) > 70000) = false := decide_eq_false (by omega)
  have d1' : decide (70000 < (b.length : Int)) = false := decide_eq_false (by omega)
  have d1'' : decide (70000 < b.length) = false := decide_eq_false (by omega)
  have d2 : decide ((y.length : Int) > (b.length : Int)) = false := decide_eq_false (by omega)
  have d2' : decide ((b.length : Int) < (y.length : Int)) = false := decide_eq_false (by omega)
  have d2'' : decide (b.length < y.length) = false := decide_eq_false (by omega)
  have d3 : decide ((m.length : Int) > 4096) = false := decide_eq_false (by omega)
  have d3' : decide (4096 < (m.length : Int)) = false := decide_eq_false (by omega)
  have d3'' : decide (4096 < m.length) = false := decide_eq_false (by omega)
  have HE := Aside0.mk (show encR l = (x, 0) by rw [← hx]; exact encR_yes ho hl4 (hx ▸ hx6))
  have HDX := Aside0.mk (show decR x = l by rw [← hx]; exact decR_enc hq.2 ho hl4 (hx ▸ hx6))
  have HGX := Aside0.mk (show rg x by rw [← hx]; exact rg_encL l)
  have d4 : decide ((x.length : Int) + (b.length : Int) > 65536) = true := decide_eq_true (by omega)
  have d4' : decide (65536 < (x.length : Int) + (b.length : Int)) = true := decide_eq_true (by omega)
  have d4'' : decide (65536 < x.length + b.length) = true := decide_eq_true (by omega)
  clear hr hc hs hd hf hq hgb hm hy hy1 ho hx hov
  go_enter Try.func5, Try.ntmps5
  go_wp2_with (first
    | (go_at_call 10; ((with_reducible refine (awake_calls H0.out).mono ?_)); rintro e w1 ⟨rfl, h⟩; have H1 := Aside0.mk h; clear h)
    | (go_at_call 15; ((with_reducible refine (great_calls H1.out HF.out A c (C_of_own H1.out HR.out) HC.out).mono ?_)); rintro e w2 ⟨rfl, h⟩; have H2 := Aside0.mk h; clear h)
    | (go_at_call 14; ((with_reducible refine (EncodeB H2.out A c l (C_of_own H2.out HR.out) HQ.out HL.out x 0 HE.out).mono ?_)); rintro e w3 ⟨A1, c1, rfl, h⟩; have H3 := Aside0.mk h; clear h)
    | (go_at_call 11; ((with_reducible refine (DecodeB H3.out A1 c1 x (own_reads H3.out).2.2 (own_reads H3.out).2.1 HGX.out l HDX.out).mono ?_)); rintro e w4 ⟨A2, c2, rfl, h⟩; have H4 := Aside0.mk h; clear h)
    | (go_at_call 12; ((with_reducible refine (same_calls H4.out A2 A _ _ c2 c l rfl rfl (own_reads H4.out).2.2 (C_of_own H4.out HR.out) (own_reads H4.out).2.1 HC.out HLL.out).mono ?_)); rintro e w5 ⟨rfl, h⟩; have H5 := Aside0.mk h; clear h)
    | (go_at_call 11; ((with_reducible refine (DecodeB H5.out B d b (C_of_own H5.out HS.out) HD.out HGB.out m HDM.out).mono ?_)); rintro e w6 ⟨A3, c3, rfl, h⟩; have H6 := Aside0.mk h; clear h)
    | (go_at_call 14; ((with_reducible refine (EncodeB H6.out A3 c3 m (own_reads H6.out).2.2 HQM.out HLM.out y 0 HEM.out).mono ?_)); rintro e w7 ⟨A4, c4, rfl, h⟩; have H7 := Aside0.mk h; clear h)
    | (go_at_call 11; ((with_reducible refine (DecodeB H7.out A4 c4 y (own_reads H7.out).2.2 (own_reads H7.out).2.1 HGY.out m HDY.out).mono ?_)); rintro e w8 ⟨A5, c5, rfl, h⟩; have H8 := Aside0.mk h; clear h)
    | (go_at_call 12; ((with_reducible refine (same_calls H8.out A5 A3 _ _ c5 c3 m rfl rfl (own_reads H8.out).2.2 (own_reads H8.out.r2).2.2 (own_reads H8.out).2.1 (own_reads H8.out.r2).2.1 HLMM.out).mono ?_)); rintro e w9 ⟨rfl, h⟩; have H9 := Aside0.mk h; clear h))
  go_ret
  exact ⟨rfl, H9.out.bel⟩
set_option maxHeartbeats 8000000 in
set_option maxRecDepth 100000 in
theorem ScriptBack_many (A : Option Addr) (c : Nat) (l : List ActS) (B : Option Addr) (d : Nat) (b : List Int) (w : World) (hr : Kd.C k33 w A l.length l) (hc : l.length ≤ c) (hs : Kd.C (Kd.int .u8) w B b.length b) (hd : b.length ≤ d) (hb : b.length ≤ 70000) (hgb : rg b) (hq : Small l) {k : Nat} (hf : meterlaw27_Great.f k l = some false) (ho : l.all okA = true) (hl4 : l.length ≤ 4096) (x : List Int) (hx : encL l = x) (hx6 : x.length ≤ 65536) (hov : x.length + b.length ≤ 65536) (hmn : l.length + (decR b).length > 4096) :
    Calls Try.prog 5 #[.slice A l.length c, .slice B b.length d] w fun e w' => e = .returned (.bool true) ∧ Below w.heap.size w w' := by
  have HR := Aside0.mk hr
  have HC := Aside0.mk hc
  have HS := Aside0.mk hs
  have HD := Aside0.mk hd
  have HF := Aside0.mk hf
  have H0 := Aside0.mk (Own.nil w)
  have HQ := Aside0.mk hq.2
  have HL := Aside0.mk (show l.length ≤ 10000000 from by have := hq.1; omega)
  have HLL := Aside0.mk (show l.length ≤ 1000000 from by have := hq.1; omega)
  have HGB := Aside0.mk hgb
  obtain ⟨m, hm⟩ : ∃ m, decR b = m := ⟨_, rfl⟩
  have hm1 : m.length ≤ 4096 := hm ▸ decR_len b
  obtain ⟨y, hy⟩ : ∃ y, encL m = y := ⟨_, rfl⟩
  have hy1 : y.length ≤ b.length := by rw [← hy, ← hm]; exact (decR_bytes hgb).1
  have HEM := Aside0.mk (show encR m = (y, 0) by rw [← hy, ← hm]; exact encR_dec hgb)
  have HDY := Aside0.mk (show decR y = m by rw [← hy, ← hm]; exact decR_dec hgb)
  have HGY := Aside0.mk (show rg y by rw [← hy]; exact rg_encL m)
  have HQM := Aside0.mk (show ∀ x ∈ m, actIn x by rw [← hm]; exact decR_in hgb)
  have HLM := Aside0.mk (show m.length ≤ 10000000 by omega)
  have HLMM := Aside0.mk (show m.length ≤ 1000000 by omega)
  have HDM := Aside0.mk hm
  have d1 : decide ((b.length : Int) > 70000) = false := decide_eq_false (by omega)
  have d1' : decide (70000 < (b.length : Int)) = false := decide_eq_false (by omega)
  have d1'' : decide (70000 < b.length) = false := decide_eq_false (by omega)
  have d2 : decide ((y.length : Int) > (b.length : Int)) = false := decide_eq_false (by omega)
  have d2' : decide ((b.length : Int) < (y.length : Int)) = false := decide_eq_false (by omega)
  have d2'' : decide (b.length < y.length) = false := decide_eq_false (by omega)
  have d3 : decide ((m.length : Int) > 4096) = false := decide_eq_false (by omega)
  have d3' : decide (4096 < (m.length : Int)) = false := decide_eq_false (by omega)
  have d3'' : decide (4096 < m.length) = false := decide_eq_false (by omega)
  have HE := Aside0.mk (show encR l = (x, 0) by rw [← hx]; exact encR_yes ho hl4 (hx ▸ hx6))
  have HDX := Aside0.mk (show decR x = l by rw [← hx]; exact decR_enc hq.2 ho hl4 (hx ▸ hx6))
  have HGX := Aside0.mk (show rg x by rw [← hx]; exact rg_encL l)
  rw [hm] at hmn
  have d4 : decide ((x.length : Int) + (b.length : Int) > 65536) = false := decide_eq_false (by omega)
  have d4' : decide (65536 < (x.length : Int) + (b.length : Int)) = false := decide_eq_false (by omega)
  have d4'' : decide (65536 < x.length + b.length) = false := decide_eq_false (by omega)
  have d5 : decide ((l.length : Int) + (m.length : Int) > 4096) = true := decide_eq_true (by omega)
  have d5' : decide (4096 < (l.length : Int) + (m.length : Int)) = true := decide_eq_true (by omega)
  have d5'' : decide (4096 < l.length + m.length) = true := decide_eq_true (by omega)
  clear hr hc hs hd hf hq hgb hm hy hy1 ho hx hov hmn
  go_enter Try.func5, Try.ntmps5
  go_wp2_with (first
    | (go_at_call 10; ((with_reducible refine (awake_calls H0.out).mono ?_)); rintro e w1 ⟨rfl, h⟩; have H1 := Aside0.mk h; clear h)
    | (go_at_call 15; ((with_reducible refine (great_calls H1.out HF.out A c (C_of_own H1.out HR.out) HC.out).mono ?_)); rintro e w2 ⟨rfl, h⟩; have H2 := Aside0.mk h; clear h)
    | (go_at_call 14; ((with_reducible refine (EncodeB H2.out A c l (C_of_own H2.out HR.out) HQ.out HL.out x 0 HE.out).mono ?_)); rintro e w3 ⟨A1, c1, rfl, h⟩; have H3 := Aside0.mk h; clear h)
    | (go_at_call 11; ((with_reducible refine (DecodeB H3.out A1 c1 x (own_reads H3.out).2.2 (own_reads H3.out).2.1 HGX.out l HDX.out).mono ?_)); rintro e w4 ⟨A2, c2, rfl, h⟩; have H4 := Aside0.mk h; clear h)
    | (go_at_call 12; ((with_reducible refine (same_calls H4.out A2 A _ _ c2 c l rfl rfl (own_reads H4.out).2.2 (C_of_own H4.out HR.out) (own_reads H4.out).2.1 HC.out HLL.out).mono ?_)); rintro e w5 ⟨rfl, h⟩; have H5 := Aside0.mk h; clear h)
    | (go_at_call 11; ((with_reducible refine (DecodeB H5.out B d b (C_of_own H5.out HS.out) HD.out HGB.out m HDM.out).mono ?_)); rintro e w6 ⟨A3, c3, rfl, h⟩; have H6 := Aside0.mk h; clear h)
    | (go_at_call 14; ((with_reducible refine (EncodeB H6.out A3 c3 m (own_reads H6.out).2.2 HQM.out HLM.out y 0 HEM.out).mono ?_)); rintro e w7 ⟨A4, c4, rfl, h⟩; have H7 := Aside0.mk h; clear h)
    | (go_at_call 11; ((with_reducible refine (DecodeB H7.out A4 c4 y (own_reads H7.out).2.2 (own_reads H7.out).2.1 HGY.out m HDY.out).mono ?_)); rintro e w8 ⟨A5, c5, rfl, h⟩; have H8 := Aside0.mk h; clear h)
    | (go_at_call 12; ((with_reducible refine (same_calls H8.out A5 A3 _ _ c5 c3 m rfl rfl (own_reads H8.out).2.2 (own_reads H8.out.r2).2.2 (own_reads H8.out).2.1 (own_reads H8.out.r2).2.1 HLMM.out).mono ?_)); rintro e w9 ⟨rfl, h⟩; have H9 := Aside0.mk h; clear h))
  go_ret
  exact ⟨rfl, H9.out.bel⟩
set_option maxHeartbeats 8000000 in
set_option maxRecDepth 100000 in
theorem ScriptBack_main (A : Option Addr) (c : Nat) (l : List ActS) (B : Option Addr) (d : Nat) (b : List Int) (w : World) (hr : Kd.C k33 w A l.length l) (hc : l.length ≤ c) (hs : Kd.C (Kd.int .u8) w B b.length b) (hd : b.length ≤ d) (hb : b.length ≤ 70000) (hgb : rg b) (hq : Small l) {k : Nat} (hf : meterlaw27_Great.f k l = some false) (ho : l.all okA = true) (hl4 : l.length ≤ 4096) (x : List Int) (hx : encL l = x) (hx6 : x.length ≤ 65536) (hov : x.length + b.length ≤ 65536) (hmn : l.length + (decR b).length ≤ 4096) :
    Calls Try.prog 5 #[.slice A l.length c, .slice B b.length d] w fun e w' => e = .returned (.bool true) ∧ Below w.heap.size w w' := by
  have HR := Aside0.mk hr
  have HC := Aside0.mk hc
  have HS := Aside0.mk hs
  have HD := Aside0.mk hd
  have HF := Aside0.mk hf
  have H0 := Aside0.mk (Own.nil w)
  have HQ := Aside0.mk hq.2
  have HL := Aside0.mk (show l.length ≤ 10000000 from by have := hq.1; omega)
  have HLL := Aside0.mk (show l.length ≤ 1000000 from by have := hq.1; omega)
  have HGB := Aside0.mk hgb
  obtain ⟨m, hm⟩ : ∃ m, decR b = m := ⟨_, rfl⟩
  have hm1 : m.length ≤ 4096 := hm ▸ decR_len b
  obtain ⟨y, hy⟩ : ∃ y, encL m = y := ⟨_, rfl⟩
  have hy1 : y.length ≤ b.length := by rw [← hy, ← hm]; exact (decR_bytes hgb).1
  have HEM := Aside0.mk (show encR m = (y, 0) by rw [← hy, ← hm]; exact encR_dec hgb)
  have HDY := Aside0.mk (show decR y = m by rw [← hy, ← hm]; exact decR_dec hgb)
  have HGY := Aside0.mk (show rg y by rw [← hy]; exact rg_encL m)
  have HQM := Aside0.mk (show ∀ x ∈ m, actIn x by rw [← hm]; exact decR_in hgb)
  have HLM := Aside0.mk (show m.length ≤ 10000000 by omega)
  have HLMM := Aside0.mk (show m.length ≤ 1000000 by omega)
  have HDM := Aside0.mk hm
  have d1 : decide ((b.length : Int) > 70000) = false := decide_eq_false (by omega)
  have d1' : decide (70000 < (b.length : Int)) = false := decide_eq_false (by omega)
  have d1'' : decide (70000 < b.length) = false := decide_eq_false (by omega)
  have d2 : decide ((y.length : Int) > (b.length : Int)) = false := decide_eq_false (by omega)
  have d2' : decide ((b.length : Int) < (y.length : Int)) = false := decide_eq_false (by omega)
  have d2'' : decide (b.length < y.length) = false := decide_eq_false (by omega)
  have d3 : decide ((m.length : Int) > 4096) = false := decide_eq_false (by omega)
  have d3' : decide (4096 < (m.length : Int)) = false := decide_eq_false (by omega)
  have d3'' : decide (4096 < m.length) = false := decide_eq_false (by omega)
  have HE := Aside0.mk (show encR l = (x, 0) by rw [← hx]; exact encR_yes ho hl4 (hx ▸ hx6))
  have HDX := Aside0.mk (show decR x = l by rw [← hx]; exact decR_enc hq.2 ho hl4 (hx ▸ hx6))
  have HGX := Aside0.mk (show rg x by rw [← hx]; exact rg_encL l)
  have hn0 := decR_app hgb hq.2 ho (by rw [hx]; exact hov) hmn
  rw [hm] at hmn
  rw [hx, hm] at hn0
  obtain ⟨n, hn⟩ : ∃ n, l ++ m = n := ⟨_, rfl⟩
  rw [hn] at hn0
  have hnl : n.length = l.length + m.length := by rw [← hn, List.length_append]
  have HLE := Aside0.mk (show l.length ≤ n.length by omega)
  have e1 : (((n.length : Int)) == (l.length : Int) + (m.length : Int)) = true := by rw [beq_iff_eq]; omega
  have e2 : decide ((n.length : Int) = (l.length : Int) + (m.length : Int)) = true := decide_eq_true (by omega)
  have HT1 := Aside0.mk (show n.take l.length = l by rw [← hn, List.take_left])
  have HT2 := Aside0.mk (show n.drop l.length = m by rw [← hn, List.drop_left])
  have HNL := Aside0.mk (show n.length - l.length = m.length by omega)
  have hgz := rg_app HGX.out hgb
  obtain ⟨z, hz⟩ : ∃ z, x ++ b = z := ⟨_, rfl⟩
  rw [hz] at hgz hn0
  have HZ := Aside0.mk hz
  have HDN := Aside0.mk hn0
  have HGXB := Aside0.mk hgz
  clear hz hgz
  have HLX := Aside0.mk (show ([] : List Int).length + x.length ≤ 1000000000 by simp; omega)
  have HLXB := Aside0.mk (show x.length + b.length ≤ 1000000000 by omega)
  obtain ⟨i0, hi0, _⟩ := Option.map_eq_some_iff.1 infoAct
  have HI := Aside0.mk hi0
  clear hi0
  have d4 : decide ((x.length : Int) + (b.length : Int) > 65536) = false := decide_eq_false (by omega)
  have d4' : decide (65536 < (x.length : Int) + (b.length : Int)) = false := decide_eq_false (by omega)
  have d4'' : decide (65536 < x.length + b.length) = false := decide_eq_false (by omega)
  have d5 : decide ((l.length : Int) + (m.length : Int) > 4096) = false := decide_eq_false (by omega)
  have d5' : decide (4096 < (l.length : Int) + (m.length : Int)) = false := decide_eq_false (by omega)
  have d5'' : decide (4096 < l.length + m.length) = false := decide_eq_false (by omega)
  clear hr hc hs hd hf hq hgb hm hy hy1 ho hx hov hmn hn hn0 hnl
  go_enter Try.func5, Try.ntmps5
  go_wp2_with (first
    | (go_at_call 10; ((with_reducible refine (awake_calls H0.out).mono ?_)); rintro e w1 ⟨rfl, h⟩; have H1 := Aside0.mk h; clear h)
    | (go_at_call 15; ((with_reducible refine (great_calls H1.out HF.out A c (C_of_own H1.out HR.out) HC.out).mono ?_)); rintro e w2 ⟨rfl, h⟩; have H2 := Aside0.mk h; clear h)
    | (go_at_call 14; ((with_reducible refine (EncodeB H2.out A c l (C_of_own H2.out HR.out) HQ.out HL.out x 0 HE.out).mono ?_)); rintro e w3 ⟨A1, c1, rfl, h⟩; have H3 := Aside0.mk h; clear h)
    | (go_at_call 11; ((with_reducible refine (DecodeB H3.out A1 c1 x (own_reads H3.out).2.2 (own_reads H3.out).2.1 HGX.out l HDX.out).mono ?_)); rintro e w4 ⟨A2, c2, rfl, h⟩; have H4 := Aside0.mk h; clear h)
    | (go_at_call 12; ((with_reducible refine (same_calls H4.out A2 A _ _ c2 c l rfl rfl (own_reads H4.out).2.2 (C_of_own H4.out HR.out) (own_reads H4.out).2.1 HC.out HLL.out).mono ?_)); rintro e w5 ⟨rfl, h⟩; have H5 := Aside0.mk h; clear h)
    | (go_at_call 11; ((with_reducible refine (DecodeB H5.out B d b (C_of_own H5.out HS.out) HD.out HGB.out m HDM.out).mono ?_)); rintro e w6 ⟨A3, c3, rfl, h⟩; have H6 := Aside0.mk h; clear h)
    | (go_at_call 14; ((with_reducible refine (EncodeB H6.out A3 c3 m (own_reads H6.out).2.2 HQM.out HLM.out y 0 HEM.out).mono ?_)); rintro e w7 ⟨A4, c4, rfl, h⟩; have H7 := Aside0.mk h; clear h)
    | (go_at_call 11; ((with_reducible refine (DecodeB H7.out A4 c4 y (own_reads H7.out).2.2 (own_reads H7.out).2.1 HGY.out m HDY.out).mono ?_)); rintro e w8 ⟨A5, c5, rfl, h⟩; have H8 := Aside0.mk h; clear h)
    | (go_at_call 12; ((with_reducible refine (same_calls H8.out A5 A3 _ _ c5 c3 m rfl rfl (own_reads H8.out).2.2 (own_reads H8.out.r2).2.2 (own_reads H8.out).2.1 (own_reads H8.out.r2).2.1 HLMM.out).mono ?_)); rintro e w9 ⟨rfl, h⟩; have H9 : Aside0 (Own w w9 (Row k33 33 (.slice A3 m.length c3) m :: Row (Kd.int .u8) 5 (.slice A1 x.length c1) x :: [])) := ⟨h.pick [2, 4]⟩; clear h)
    | ((with_reducible refine gate_dst (N := 82) rfl ?_); refine own_append_b rfl (.tmp 80) (.tmp 81) rfl (.slice (some ⟨w9.heap.size, 0, none⟩) 0 0) [] x A1 x.length c1 rfl rfl (row_lit0 H9.out (Kd.int .u8) 5) (own_reads (row_lit0 H9.out (Kd.int .u8) 5).r2).2.2 HLX.out ?_; intro A6 c6 w10 h; rw [List.nil_append] at h; rw [List.nil_append]; have H10 := Aside0.mk h; clear h)
    | ((with_reducible refine gate_dst (N := 84) rfl ?_); refine own_append_b rfl (.tmp 82) (.tmp 83) rfl (.slice A6 x.length c6) x b B b.length d rfl rfl H10.out (C_of_own H10.out HS.out) HLXB.out ?_; intro A7 c7 w11 h; rw [HZ.out] at h; rw [HZ.out]; have H11 := Aside0.mk h; clear h)
    | (go_at_call 11; ((with_reducible refine (DecodeB H11.out A7 c7 z (own_reads H11.out).2.2 (own_reads H11.out).2.1 HGXB.out n HDN.out).mono ?_)); rintro e w12 ⟨A8, c8, rfl, h⟩; have hcn := (own_reads h).2.1; have hkt := cut_to (P := Try.prog) 24 33 .i64 Try.underlying24 HI.out A8 n.length c8 (l.length : Int) (Int.natCast_nonneg _) (Int.ofNat_le.2 HLE.out) hcn; rw [Int.toNat_natCast] at hkt; obtain ⟨A9, hkf, hC9⟩ := cut_acts_from (own_reads h).2.2 hcn l.length HLE.out; have HC8 := Aside0.mk (Kd.C_take (own_reads h).2.2 (m := l.length) HLE.out); rw [HT1.out] at HC8; rw [HT2.out] at hC9; have HC9 := Aside0.mk hC9; have HCN := Aside0.mk (Nat.le_trans HLE.out hcn); have HCN2 := Aside0.mk (show m.length ≤ c8 - l.length from (by have h1 := HNL.out; have h2 := HLE.out; omega)); have H12 := Aside0.mk h; clear h hcn hC9)
    | (go_at_call 12; ((with_reducible refine (same_keeps H12.out A8 A _ _ c8 c l rfl rfl HC8.out (C_of_own H12.out HR.out) HCN.out HC.out HLL.out).mono ?_)); rintro e w13 ⟨rfl, h, hb⟩; have HB13 := Aside0.mk (Kd.C_below HC9.out hb); clear hb; have H13 := Aside0.mk h; clear h)
    | (go_at_call 12; ((with_reducible refine (same_calls H13.out A9 A3 _ _ (c8 - l.length) c3 m HNL.out rfl HB13.out (own_reads H13.out.r2).2.2 HCN2.out (own_reads H13.out.r2).2.1 HLMM.out).mono ?_)); rintro e w14 ⟨rfl, h⟩; have H14 := Aside0.mk h; clear h))
  go_ret
  exact ⟨rfl, H14.out.bel⟩
theorem ScriptBack_law (A : Option Addr) (c : Nat) (l : List ActS) (B : Option Addr) (d : Nat) (b : List Int) (w : World) (hr : Kd.C k33 w A l.length l) (hc : l.length ≤ c) (hq : l.length ≤ 9223372036854775807 ∧ ∀ x ∈ l, Q33 x) (hs : Kd.C (Kd.int .u8) w B b.length b) (hd : b.length ≤ d) (hq2 : b.length ≤ 9223372036854775807 ∧ ∀ x ∈ b, (Lit.int .u8 x).wf = true) :
    Calls Try.prog 5 #[.slice A l.length c, .slice B b.length d] w fun e w' => e = .returned (.bool true) ∧ Below w.heap.size w w' := by
  obtain ⟨k, r, hf, hg⟩ := great_f l
  cases r with
  | true => exact ScriptBack_great A c l B d b w hr hc hs hd hf
  | false =>
    by_cases hb : b.length > 70000
    · exact ScriptBack_long A c l B d b w hr hc hs hd hf hb
    have hsm := small_of hq.2 (hg rfl)
    have hgb := rg_of hq2.2
    rcases encR_cases l with ⟨h1, h2, h3, h4⟩ | h | h
    · by_cases hov : (encL l).length + b.length > 65536
      · exact ScriptBack_over A c l B d b w hr hc hs hd (by omega) hgb hsm hf h1 h2 _ rfl h3 hov
      · by_cases hmn : l.length + (decR b).length > 4096
        · exact ScriptBack_many A c l B d b w hr hc hs hd (by omega) hgb hsm hf h1 h2 _ rfl h3 (by omega) hmn
        · exact ScriptBack_main A c l B d b w hr hc hs hd (by omega) hgb hsm hf h1 h2 _ rfl h3 (by omega) (by omega)
    · exact ScriptBack_bad1 A c l B d b w hr hc hs hd (by omega) hgb hsm hf _ h
    · exact ScriptBack_bad3 A c l B d b w hr hc hs hd (by omega) hgb hsm hf _ h
end Go.Proofs.Ytapkoiaeghjpdaa.PScriptWrites
