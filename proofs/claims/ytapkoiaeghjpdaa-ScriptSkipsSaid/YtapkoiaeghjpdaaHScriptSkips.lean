/- The law ScriptSkips, walked. -/
import Derived.Test.YtapkoiaeghjpdaaScr17
import Derived.Test.YtapkoiaeghjpdaaHScriptBack
namespace Go.Proofs.Ytapkoiaeghjpdaa.PScriptWrites
open Go.RowKit Go.Proofs.YtapkoiaeghjpdaaW.PrintWords Go.Proofs.YtapkoiaeghjpdaaW.PrintLast Go.Proofs.YtapkoiaeghjpdaaW.PrintMore
open Go.Proofs.YtapkoiaeghjpdaaO
attribute [local go_sem] max2_int min2_int max_two min_two max_three min_three max_four min_four
set_option linter.unusedVariables false
set_option linter.unusedSimpArgs false
theorem own_C {w0 w : World} {R : List Asn} {α : Type} {d : Kd α} {A : Option Addr} {n c : Nat} {l : List α} {e : TypeId} (h : Own w0 w (Row d e (.slice A n c) l :: R)) : d.C w A n l := by
  obtain ⟨h1, _, h3⟩ := own_reads h
  rw [h1]
  exact h3
theorem u8_mod20 {t : Int} (h : (Lit.int .u8 t).wf = true) : ∃ n : Nat, n < 20 ∧ t.tmod 20 = (n : Int) := by
  simp [Lit.wf, IntKind.min, IntKind.max, IntKind.signed, IntKind.bits] at h
  refine ⟨(t % 20).toNat, by omega, ?_⟩
  rw [Int.tmod_eq_emod_of_nonneg (by omega)]
  omega
theorem skip_b {b : Int} (h : (Lit.int .u8 b).wf = true) : (1 ≤ b ∧ b ≤ 8) ∨ ((b < 1 ∨ 8 < b) ∧ 0 ≤ b ∧ b < 256) := by
  simp [Lit.wf, IntKind.min, IntKind.max, IntKind.signed, IntKind.bits] at h
  omega
set_option maxHeartbeats 8000000 in
set_option maxRecDepth 100000 in
theorem ScriptSkips_great (A : Option Addr) (c : Nat) (l : List ActS) (B : Option Addr) (d : Nat) (m : List ActS) (b times : Int) (w : World) (hr : Kd.C k33 w A l.length l) (hc : l.length ≤ c) (hs : Kd.C k33 w B m.length m) (hd : m.length ≤ d) {k : Nat} (hf : meterlaw27_Great.f k l = some true) :
    Calls Try.prog 6 #[.slice A l.length c, .slice B m.length d, .int .u8 b, .int .u8 times] w fun e w' => e = .returned (.bool true) ∧ Below w.heap.size w w' := by
  have HR := Aside0.mk hr
  have HC := Aside0.mk hc
  have HS := Aside0.mk hs
  have HD := Aside0.mk hd
  have HF := Aside0.mk hf
  have H0 := Aside0.mk (Own.nil w)
  clear hr hc hs hd hf
  go_enter Try.func6, Try.ntmps6
  go_wp2_with (first
    | (go_at_call 10; ((with_reducible refine (awake_calls H0.out).mono ?_)); rintro e w1 ⟨rfl, h⟩; have H1 := Aside0.mk h; clear h)
    | (go_at_call 15; ((with_reducible refine (great_calls H1.out HF.out A c (C_of_own H1.out HR.out) HC.out).mono ?_)); rintro e w2 ⟨rfl, h⟩; have H2 := Aside0.mk h; clear h))
  go_ret
  exact ⟨rfl, H2.out.bel⟩
set_option maxHeartbeats 8000000 in
set_option maxRecDepth 100000 in
theorem ScriptSkips_great2 (A : Option Addr) (c : Nat) (l : List ActS) (B : Option Addr) (d : Nat) (m : List ActS) (b times : Int) (w : World) (hr : Kd.C k33 w A l.length l) (hc : l.length ≤ c) (hs : Kd.C k33 w B m.length m) (hd : m.length ≤ d) {k k2 : Nat} (hf : meterlaw27_Great.f k l = some false) (hf2 : meterlaw27_Great.f k2 m = some true) :
    Calls Try.prog 6 #[.slice A l.length c, .slice B m.length d, .int .u8 b, .int .u8 times] w fun e w' => e = .returned (.bool true) ∧ Below w.heap.size w w' := by
  have HR := Aside0.mk hr
  have HC := Aside0.mk hc
  have HS := Aside0.mk hs
  have HD := Aside0.mk hd
  have HF := Aside0.mk hf
  have H0 := Aside0.mk (Own.nil w)
  have HF2 := Aside0.mk hf2
  clear hr hc hs hd hf hf2
  go_enter Try.func6, Try.ntmps6
  go_wp2_with (first
    | (go_at_call 10; ((with_reducible refine (awake_calls H0.out).mono ?_)); rintro e w1 ⟨rfl, h⟩; have H1 := Aside0.mk h; clear h)
    | (go_at_call 15; ((with_reducible refine (great_calls H1.out HF.out A c (C_of_own H1.out HR.out) HC.out).mono ?_)); rintro e w2 ⟨rfl, h⟩; have H2 := Aside0.mk h; clear h)
    | (go_at_call 15; ((with_reducible refine (great_calls H2.out HF2.out B d (C_of_own H2.out HS.out) HD.out).mono ?_)); rintro e w3 ⟨rfl, h⟩; have H3 := Aside0.mk h; clear h))
  go_ret
  exact ⟨rfl, H3.out.bel⟩
set_option maxHeartbeats 8000000 in
set_option maxRecDepth 100000 in
theorem ScriptSkips_bad1_mid (A : Option Addr) (c : Nat) (l : List ActS) (B : Option Addr) (d : Nat) (m : List ActS) (b times : Int) (w : World) (hr : Kd.C k33 w A l.length l) (hc : l.length ≤ c) (hs : Kd.C k33 w B m.length m) (hd : m.length ≤ d) {k k2 : Nat} (hf : meterlaw27_Great.f k l = some false) (hf2 : meterlaw27_Great.f k2 m = some false) (hq : Small l) (hqm : Small m) (n : Nat) (hn : n < 20) (em : times.tmod 20 = (n : Int)) (x y : List Int) (e2 : Int) (he : encR l = (x, 1)) (he2 : encR m = (y, e2)) (hb1 : 1 ≤ b) (hb2 : b ≤ 8) :
    Calls Try.prog 6 #[.slice A l.length c, .slice B m.length d, .int .u8 b, .int .u8 times] w fun e w' => e = .returned (.bool true) ∧ Below w.heap.size w w' := by
  have HR := Aside0.mk hr
  have HC := Aside0.mk hc
  have HS := Aside0.mk hs
  have HD := Aside0.mk hd
  have HF := Aside0.mk hf
  have H0 := Aside0.mk (Own.nil w)
  have HF2 := Aside0.mk hf2
  have HQ := Aside0.mk hq.2
  have HQM := Aside0.mk hqm.2
  have HL := Aside0.mk (show l.length ≤ 10000000 from by have := hq.1; omega)
  have HLM := Aside0.mk (show m.length ≤ 10000000 from by have := hqm.1; omega)
  have HE := Aside0.mk he
  have HEM := Aside0.mk he2
  have w20 : wrap64 (n : Int) = (n : Int) := by unfold wrap64; omega
  have w20' : IntKind.u8.wrap (n : Int) = (n : Int) := by rw [IntKind.wrap_u8]; omega
  have w20i : IntKind.i64.wrap (n : Int) = (n : Int) := by rw [IntKind.wrap_i64]; omega
  have b1 : decide (b ≥ 1) = true := decide_eq_true (by omega)
  have b2 : decide (1 ≤ b) = true := decide_eq_true (by omega)
  have b3 : decide (b ≤ 8) = true := decide_eq_true (by omega)
  clear hr hc hs hd hf hf2 hq hqm he he2 hb1 hb2
  go_enter Try.func6, Try.ntmps6
  go_wp2_with (first
    | (go_at_call 10; ((with_reducible refine (awake_calls H0.out).mono ?_)); rintro e w1 ⟨rfl, h⟩; have H1 := Aside0.mk h; clear h)
    | (go_at_call 15; ((with_reducible refine (great_calls H1.out HF.out A c (C_of_own H1.out HR.out) HC.out).mono ?_)); rintro e w2 ⟨rfl, h⟩; have H2 := Aside0.mk h; clear h)
    | (go_at_call 15; ((with_reducible refine (great_calls H2.out HF2.out B d (C_of_own H2.out HS.out) HD.out).mono ?_)); rintro e w3 ⟨rfl, h⟩; have H3 := Aside0.mk h; clear h)
    | (go_at_call 14; ((with_reducible refine (EncodeB H3.out A c l (C_of_own H3.out HR.out) HQ.out HL.out x 1 HE.out).mono ?_)); rintro e w4 ⟨A1, c1, rfl, h⟩; have H4 := Aside0.mk h; clear h)
    | (go_at_call 14; ((with_reducible refine (EncodeB H4.out B d m (C_of_own H4.out HS.out) HQM.out HLM.out y e2 HEM.out).mono ?_)); rintro e w5 ⟨A2, c2, rfl, h⟩; have H5 := Aside0.mk h; clear h))
  go_ret
  exact ⟨rfl, H5.out.bel⟩
set_option maxHeartbeats 8000000 in
set_option maxRecDepth 100000 in
theorem ScriptSkips_bad3_mid (A : Option Addr) (c : Nat) (l : List ActS) (B : Option Addr) (d : Nat) (m : List ActS) (b times : Int) (w : World) (hr : Kd.C k33 w A l.length l) (hc : l.length ≤ c) (hs : Kd.C k33 w B m.length m) (hd : m.length ≤ d) {k k2 : Nat} (hf : meterlaw27_Great.f k l = some false) (hf2 : meterlaw27_Great.f k2 m = some false) (hq : Small l) (hqm : Small m) (n : Nat) (hn : n < 20) (em : times.tmod 20 = (n : Int)) (x y : List Int) (e2 : Int) (he : encR l = (x, 3)) (he2 : encR m = (y, e2)) (hb1 : 1 ≤ b) (hb2 : b ≤ 8) :
    Calls Try.prog 6 #[.slice A l.length c, .slice B m.length d, .int .u8 b, .int .u8 times] w fun e w' => e = .returned (.bool true) ∧ Below w.heap.size w w' := by
  have HR := Aside0.mk hr
  have HC := Aside0.mk hc
  have HS := Aside0.mk hs
  have HD := Aside0.mk hd
  have HF := Aside0.mk hf
  have H0 := Aside0.mk (Own.nil w)
  have HF2 := Aside0.mk hf2
  have HQ := Aside0.mk hq.2
  have HQM := Aside0.mk hqm.2
  have HL := Aside0.mk (show l.length ≤ 10000000 from by have := hq.1; omega)
  have HLM := Aside0.mk (show m.length ≤ 10000000 from by have := hqm.1; omega)
  have HE := Aside0.mk he
  have HEM := Aside0.mk he2
  have w20 : wrap64 (n : Int) = (n : Int) := by unfold wrap64; omega
  have w20' : IntKind.u8.wrap (n : Int) = (n : Int) := by rw [IntKind.wrap_u8]; omega
  have w20i : IntKind.i64.wrap (n : Int) = (n : Int) := by rw [IntKind.wrap_i64]; omega
  have b1 : decide (b ≥ 1) = true := decide_eq_true (by omega)
  have b2 : decide (1 ≤ b) = true := decide_eq_true (by omega)
  have b3 : decide (b ≤ 8) = true := decide_eq_true (by omega)
  clear hr hc hs hd hf hf2 hq hqm he he2 hb1 hb2
  go_enter Try.func6, Try.ntmps6
  go_wp2_with (first
    | (go_at_call 10; ((with_reducible refine (awake_calls H0.out).mono ?_)); rintro e w1 ⟨rfl, h⟩; have H1 := Aside0.mk h; clear h)
    | (go_at_call 15; ((with_reducible refine (great_calls H1.out HF.out A c (C_of_own H1.out HR.out) HC.out).mono ?_)); rintro e w2 ⟨rfl, h⟩; have H2 := Aside0.mk h; clear h)
    | (go_at_call 15; ((with_reducible refine (great_calls H2.out HF2.out B d (C_of_own H2.out HS.out) HD.out).mono ?_)); rintro e w3 ⟨rfl, h⟩; have H3 := Aside0.mk h; clear h)
    | (go_at_call 14; ((with_reducible refine (EncodeB H3.out A c l (C_of_own H3.out HR.out) HQ.out HL.out x 3 HE.out).mono ?_)); rintro e w4 ⟨A1, c1, rfl, h⟩; have H4 := Aside0.mk h; clear h)
    | (go_at_call 14; ((with_reducible refine (EncodeB H4.out B d m (C_of_own H4.out HS.out) HQM.out HLM.out y e2 HEM.out).mono ?_)); rintro e w5 ⟨A2, c2, rfl, h⟩; have H5 := Aside0.mk h; clear h))
  go_ret
  exact ⟨rfl, H5.out.bel⟩
set_option maxHeartbeats 8000000 in
set_option maxRecDepth 100000 in
theorem ScriptSkips_badb1_mid (A : Option Addr) (c : Nat) (l : List ActS) (B : Option Addr) (d : Nat) (m : List ActS) (b times : Int) (w : World) (hr : Kd.C k33 w A l.length l) (hc : l.length ≤ c) (hs : Kd.C k33 w B m.length m) (hd : m.length ≤ d) {k k2 : Nat} (hf : meterlaw27_Great.f k l = some false) (hf2 : meterlaw27_Great.f k2 m = some false) (hq : Small l) (hqm : Small m) (n : Nat) (hn : n < 20) (em : times.tmod 20 = (n : Int)) (x y : List Int) (he : encR l = (x, 0)) (he2 : encR m = (y, 1)) (hb1 : 1 ≤ b) (hb2 : b ≤ 8) :
    Calls Try.prog 6 #[.slice A l.length c, .slice B m.length d, .int .u8 b, .int .u8 times] w fun e w' => e = .returned (.bool true) ∧ Below w.heap.size w w' := by
  have HR := Aside0.mk hr
  have HC := Aside0.mk hc
  have HS := Aside0.mk hs
  have HD := Aside0.mk hd
  have HF := Aside0.mk hf
  have H0 := Aside0.mk (Own.nil w)
  have HF2 := Aside0.mk hf2
  have HQ := Aside0.mk hq.2
  have HQM := Aside0.mk hqm.2
  have HL := Aside0.mk (show l.length ≤ 10000000 from by have := hq.1; omega)
  have HLM := Aside0.mk (show m.length ≤ 10000000 from by have := hqm.1; omega)
  have HE := Aside0.mk he
  have HEM := Aside0.mk he2
  have w20 : wrap64 (n : Int) = (n : Int) := by unfold wrap64; omega
  have w20' : IntKind.u8.wrap (n : Int) = (n : Int) := by rw [IntKind.wrap_u8]; omega
  have w20i : IntKind.i64.wrap (n : Int) = (n : Int) := by rw [IntKind.wrap_i64]; omega
  have b1 : decide (b ≥ 1) = true := decide_eq_true (by omega)
  have b2 : decide (1 ≤ b) = true := decide_eq_true (by omega)
  have b3 : decide (b ≤ 8) = true := decide_eq_true (by omega)
  clear hr hc hs hd hf hf2 hq hqm he he2 hb1 hb2
  go_enter Try.func6, Try.ntmps6
  go_wp2_with (first
    | (go_at_call 10; ((with_reducible refine (awake_calls H0.out).mono ?_)); rintro e w1 ⟨rfl, h⟩; have H1 := Aside0.mk h; clear h)
    | (go_at_call 15; ((with_reducible refine (great_calls H1.out HF.out A c (C_of_own H1.out HR.out) HC.out).mono ?_)); rintro e w2 ⟨rfl, h⟩; have H2 := Aside0.mk h; clear h)
    | (go_at_call 15; ((with_reducible refine (great_calls H2.out HF2.out B d (C_of_own H2.out HS.out) HD.out).mono ?_)); rintro e w3 ⟨rfl, h⟩; have H3 := Aside0.mk h; clear h)
    | (go_at_call 14; ((with_reducible refine (EncodeB H3.out A c l (C_of_own H3.out HR.out) HQ.out HL.out x 0 HE.out).mono ?_)); rintro e w4 ⟨A1, c1, rfl, h⟩; have H4 := Aside0.mk h; clear h)
    | (go_at_call 14; ((with_reducible refine (EncodeB H4.out B d m (C_of_own H4.out HS.out) HQM.out HLM.out y 1 HEM.out).mono ?_)); rintro e w5 ⟨A2, c2, rfl, h⟩; have H5 := Aside0.mk h; clear h))
  go_ret
  exact ⟨rfl, H5.out.bel⟩
set_option maxHeartbeats 8000000 in
set_option maxRecDepth 100000 in
theorem ScriptSkips_badb3_mid (A : Option Addr) (c : Nat) (l : List ActS) (B : Option Addr) (d : Nat) (m : List ActS) (b times : Int) (w : World) (hr : Kd.C k33 w A l.length l) (hc : l.length ≤ c) (hs : Kd.C k33 w B m.length m) (hd : m.length ≤ d) {k k2 : Nat} (hf : meterlaw27_Great.f k l = some false) (hf2 : meterlaw27_Great.f k2 m = some false) (hq : Small l) (hqm : Small m) (n : Nat) (hn : n < 20) (em : times.tmod 20 = (n : Int)) (x y : List Int) (he : encR l = (x, 0)) (he2 : encR m = (y, 3)) (hb1 : 1 ≤ b) (hb2 : b ≤ 8) :
    Calls Try.prog 6 #[.slice A l.length c, .slice B m.length d, .int .u8 b, .int .u8 times] w fun e w' => e = .returned (.bool true) ∧ Below w.heap.size w w' := by
  have HR := Aside0.mk hr
  have HC := Aside0.mk hc
  have HS := Aside0.mk hs
  have HD := Aside0.mk hd
  have HF := Aside0.mk hf
  have H0 := Aside0.mk (Own.nil w)
  have HF2 := Aside0.mk hf2
  have HQ := Aside0.mk hq.2
  have HQM := Aside0.mk hqm.2
  have HL := Aside0.mk (show l.length ≤ 10000000 from by have := hq.1; omega)
  have HLM := Aside0.mk (show m.length ≤ 10000000 from by have := hqm.1; omega)
  have HE := Aside0.mk he
  have HEM := Aside0.mk he2
  have w20 : wrap64 (n : Int) = (n : Int) := by unfold wrap64; omega
  have w20' : IntKind.u8.wrap (n : Int) = (n : Int) := by rw [IntKind.wrap_u8]; omega
  have w20i : IntKind.i64.wrap (n : Int) = (n : Int) := by rw [IntKind.wrap_i64]; omega
  have b1 : decide (b ≥ 1) = true := decide_eq_true (by omega)
  have b2 : decide (1 ≤ b) = true := decide_eq_true (by omega)
  have b3 : decide (b ≤ 8) = true := decide_eq_true (by omega)
  clear hr hc hs hd hf hf2 hq hqm he he2 hb1 hb2
  go_enter Try.func6, Try.ntmps6
  go_wp2_with (first
    | (go_at_call 10; ((with_reducible refine (awake_calls H0.out).mono ?_)); rintro e w1 ⟨rfl, h⟩; have H1 := Aside0.mk h; clear h)
    | (go_at_call 15; ((with_reducible refine (great_calls H1.out HF.out A c (C_of_own H1.out HR.out) HC.out).mono ?_)); rintro e w2 ⟨rfl, h⟩; have H2 := Aside0.mk h; clear h)
    | (go_at_call 15; ((with_reducible refine (great_calls H2.out HF2.out B d (C_of_own H2.out HS.out) HD.out).mono ?_)); rintro e w3 ⟨rfl, h⟩; have H3 := Aside0.mk h; clear h)
    | (go_at_call 14; ((with_reducible refine (EncodeB H3.out A c l (C_of_own H3.out HR.out) HQ.out HL.out x 0 HE.out).mono ?_)); rintro e w4 ⟨A1, c1, rfl, h⟩; have H4 := Aside0.mk h; clear h)
    | (go_at_call 14; ((with_reducible refine (EncodeB H4.out B d m (C_of_own H4.out HS.out) HQM.out HLM.out y 3 HEM.out).mono ?_)); rintro e w5 ⟨A2, c2, rfl, h⟩; have H5 := Aside0.mk h; clear h))
  go_ret
  exact ⟨rfl, H5.out.bel⟩
set_option maxHeartbeats 8000000 in
set_option maxRecDepth 100000 in
theorem ScriptSkips_over_mid (A : Option Addr) (c : Nat) (l : List ActS) (B : Option Addr) (d : Nat) (m : List ActS) (b times : Int) (w : World) (hr : Kd.C k33 w A l.length l) (hc : l.length ≤ c) (hs : Kd.C k33 w B m.length m) (hd : m.length ≤ d) {k k2 : Nat} (hf : meterlaw27_Great.f k l = some false) (hf2 : meterlaw27_Great.f k2 m = some false) (hq : Small l) (hqm : Small m) (n : Nat) (hn : n < 20) (em : times.tmod 20 = (n : Int)) (x y : List Int) (he : encR l = (x, 0)) (he2 : encR m = (y, 0)) (hx6 : x.length ≤ 65536) (hy6 : y.length ≤ 65536) (hov : x.length + y.length + 3 * n > 65536) (hb1 : 1 ≤ b) (hb2 : b ≤ 8) :
    Calls Try.prog 6 #[.slice A l.length c, .slice B m.length d, .int .u8 b, .int .u8 times] w fun e w' => e = .returned (.bool true) ∧ Below w.heap.size w w' := by
  have HR := Aside0.mk hr
  have HC := Aside0.mk hc
  have HS := Aside0.mk hs
  have HD := Aside0.mk hd
  have HF := Aside0.mk hf
  have H0 := Aside0.mk (Own.nil w)
  have HF2 := Aside0.mk hf2
  have HQ := Aside0.mk hq.2
  have HQM := Aside0.mk hqm.2
  have HL := Aside0.mk (show l.length ≤ 10000000 from by have := hq.1; omega)
  have HLM := Aside0.mk (show m.length ≤ 10000000 from by have := hqm.1; omega)
  have HE := Aside0.mk he
  have HEM := Aside0.mk he2
  have w20 : wrap64 (n : Int) = (n : Int) := by unfold wrap64; omega
  have w20' : IntKind.u8.wrap (n : Int) = (n : Int) := by rw [IntKind.wrap_u8]; omega
  have w20i : IntKind.i64.wrap (n : Int) = (n : Int) := by rw [IntKind.wrap_i64]; omega
  have b1 : decide (b ≥ 1) = true := decide_eq_true (by omega)
  have b2 : decide (1 ≤ b) = true := decide_eq_true (by omega)
  have b3 : decide (b ≤ 8) = true := decide_eq_true (by omega)
  have hl5 := hq.1
  have hm5 := hqm.1
  have d4 : decide ((x.length : Int) + (y.length : Int) + 3 * (n : Int) > 65536) = true := decide_eq_true (by omega)
  have d4' : decide (65536 < (x.length : Int) + (y.length : Int) + 3 * (n : Int)) = true := decide_eq_true (by omega)
  have d4'' : decide (65536 < x.length + y.length + 3 * n) = true := decide_eq_true (by omega)
  clear hr hc hs hd hf hf2 hq hqm he he2 hb1 hb2
  go_enter Try.func6, Try.ntmps6
  go_wp2_with (first
    | (go_at_call 10; ((with_reducible refine (awake_calls H0.out).mono ?_)); rintro e w1 ⟨rfl, h⟩; have H1 := Aside0.mk h; clear h)
    | (go_at_call 15; ((with_reducible refine (great_calls H1.out HF.out A c (C_of_own H1.out HR.out) HC.out).mono ?_)); rintro e w2 ⟨rfl, h⟩; have H2 := Aside0.mk h; clear h)
    | (go_at_call 15; ((with_reducible refine (great_calls H2.out HF2.out B d (C_of_own H2.out HS.out) HD.out).mono ?_)); rintro e w3 ⟨rfl, h⟩; have H3 := Aside0.mk h; clear h)
    | (go_at_call 14; ((with_reducible refine (EncodeB H3.out A c l (C_of_own H3.out HR.out) HQ.out HL.out x 0 HE.out).mono ?_)); rintro e w4 ⟨A1, c1, rfl, h⟩; have H4 := Aside0.mk h; clear h)
    | (go_at_call 14; ((with_reducible refine (EncodeB H4.out B d m (C_of_own H4.out HS.out) HQM.out HLM.out y 0 HEM.out).mono ?_)); rintro e w5 ⟨A2, c2, rfl, h⟩; have H5 := Aside0.mk h; clear h))
  go_ret
  exact ⟨rfl, H5.out.bel⟩
set_option maxHeartbeats 8000000 in
set_option maxRecDepth 100000 in
theorem ScriptSkips_many_mid (A : Option Addr) (c : Nat) (l : List ActS) (B : Option Addr) (d : Nat) (m : List ActS) (b times : Int) (w : World) (hr : Kd.C k33 w A l.length l) (hc : l.length ≤ c) (hs : Kd.C k33 w B m.length m) (hd : m.length ≤ d) {k k2 : Nat} (hf : meterlaw27_Great.f k l = some false) (hf2 : meterlaw27_Great.f k2 m = some false) (hq : Small l) (hqm : Small m) (n : Nat) (hn : n < 20) (em : times.tmod 20 = (n : Int)) (x y : List Int) (he : encR l = (x, 0)) (he2 : encR m = (y, 0)) (hx6 : x.length ≤ 65536) (hy6 : y.length ≤ 65536) (hov : x.length + y.length + 3 * n ≤ 65536) (hmn : l.length + m.length > 4096) (hb1 : 1 ≤ b) (hb2 : b ≤ 8) :
    Calls Try.prog 6 #[.slice A l.length c, .slice B m.length d, .int .u8 b, .int .u8 times] w fun e w' => e = .returned (.bool true) ∧ Below w.heap.size w w' := by
  have HR := Aside0.mk hr
  have HC := Aside0.mk hc
  have HS := Aside0.mk hs
  have HD := Aside0.mk hd
  have HF := Aside0.mk hf
  have H0 := Aside0.mk (Own.nil w)
  have HF2 := Aside0.mk hf2
  have HQ := Aside0.mk hq.2
  have HQM := Aside0.mk hqm.2
  have HL := Aside0.mk (show l.length ≤ 10000000 from by have := hq.1; omega)
  have HLM := Aside0.mk (show m.length ≤ 10000000 from by have := hqm.1; omega)
  have HE := Aside0.mk he
  have HEM := Aside0.mk he2
  have w20 : wrap64 (n : Int) = (n : Int) := by unfold wrap64; omega
  have w20' : IntKind.u8.wrap (n : Int) = (n : Int) := by rw [IntKind.wrap_u8]; omega
  have w20i : IntKind.i64.wrap (n : Int) = (n : Int) := by rw [IntKind.wrap_i64]; omega
  have b1 : decide (b ≥ 1) = true := decide_eq_true (by omega)
  have b2 : decide (1 ≤ b) = true := decide_eq_true (by omega)
  have b3 : decide (b ≤ 8) = true := decide_eq_true (by omega)
  have hl5 := hq.1
  have hm5 := hqm.1
  have d4 : decide ((x.length : Int) + (y.length : Int) + 3 * (n : Int) > 65536) = false := decide_eq_false (by omega)
  have d4' : decide (65536 < (x.length : Int) + (y.length : Int) + 3 * (n : Int)) = false := decide_eq_false (by omega)
  have d4'' : decide (65536 < x.length + y.length + 3 * n) = false := decide_eq_false (by omega)
  have d5 : decide ((l.length : Int) + (m.length : Int) > 4096) = true := decide_eq_true (by omega)
  have d5' : decide (4096 < (l.length : Int) + (m.length : Int)) = true := decide_eq_true (by omega)
  have d5'' : decide (4096 < l.length + m.length) = true := decide_eq_true (by omega)
  clear hr hc hs hd hf hf2 hq hqm he he2 hb1 hb2
  go_enter Try.func6, Try.ntmps6
  go_wp2_with (first
    | (go_at_call 10; ((with_reducible refine (awake_calls H0.out).mono ?_)); rintro e w1 ⟨rfl, h⟩; have H1 := Aside0.mk h; clear h)
    | (go_at_call 15; ((with_reducible refine (great_calls H1.out HF.out A c (C_of_own H1.out HR.out) HC.out).mono ?_)); rintro e w2 ⟨rfl, h⟩; have H2 := Aside0.mk h; clear h)
    | (go_at_call 15; ((with_reducible refine (great_calls H2.out HF2.out B d (C_of_own H2.out HS.out) HD.out).mono ?_)); rintro e w3 ⟨rfl, h⟩; have H3 := Aside0.mk h; clear h)
    | (go_at_call 14; ((with_reducible refine (EncodeB H3.out A c l (C_of_own H3.out HR.out) HQ.out HL.out x 0 HE.out).mono ?_)); rintro e w4 ⟨A1, c1, rfl, h⟩; have H4 := Aside0.mk h; clear h)
    | (go_at_call 14; ((with_reducible refine (EncodeB H4.out B d m (C_of_own H4.out HS.out) HQM.out HLM.out y 0 HEM.out).mono ?_)); rintro e w5 ⟨A2, c2, rfl, h⟩; have H5 := Aside0.mk h; clear h))
  go_ret
  exact ⟨rfl, H5.out.bel⟩
set_option maxHeartbeats 8000000 in
set_option maxRecDepth 100000 in
theorem ScriptSkips_bad1_low (A : Option Addr) (c : Nat) (l : List ActS) (B : Option Addr) (d : Nat) (m : List ActS) (b times : Int) (w : World) (hr : Kd.C k33 w A l.length l) (hc : l.length ≤ c) (hs : Kd.C k33 w B m.length m) (hd : m.length ≤ d) {k k2 : Nat} (hf : meterlaw27_Great.f k l = some false) (hf2 : meterlaw27_Great.f k2 m = some false) (hq : Small l) (hqm : Small m) (n : Nat) (hn : n < 20) (em : times.tmod 20 = (n : Int)) (x y : List Int) (e2 : Int) (he : encR l = (x, 1)) (he2 : encR m = (y, e2)) (hb1 : b < 1) :
    Calls Try.prog 6 #[.slice A l.length c, .slice B m.length d, .int .u8 b, .int .u8 times] w fun e w' => e = .returned (.bool true) ∧ Below w.heap.size w w' := by
  have HR := Aside0.mk hr
  have HC := Aside0.mk hc
  have HS := Aside0.mk hs
  have HD := Aside0.mk hd
  have HF := Aside0.mk hf
  have H0 := Aside0.mk (Own.nil w)
  have HF2 := Aside0.mk hf2
  have HQ := Aside0.mk hq.2
  have HQM := Aside0.mk hqm.2
  have HL := Aside0.mk (show l.length ≤ 10000000 from by have := hq.1; omega)
  have HLM := Aside0.mk (show m.length ≤ 10000000 from by have := hqm.1; omega)
  have HE := Aside0.mk he
  have HEM := Aside0.mk he2
  have w20 : wrap64 (n : Int) = (n : Int) := by unfold wrap64; omega
  have w20' : IntKind.u8.wrap (n : Int) = (n : Int) := by rw [IntKind.wrap_u8]; omega
  have w20i : IntKind.i64.wrap (n : Int) = (n : Int) := by rw [IntKind.wrap_i64]; omega
  have b1 : decide (b ≥ 1) = false := decide_eq_false (by omega)
  have b2 : decide (1 ≤ b) = false := decide_eq_false (by omega)
  clear hr hc hs hd hf hf2 hq hqm he he2 hb1
  go_enter Try.func6, Try.ntmps6
  go_wp2_with (first
    | (go_at_call 10; ((with_reducible refine (awake_calls H0.out).mono ?_)); rintro e w1 ⟨rfl, h⟩; have H1 := Aside0.mk h; clear h)
    | (go_at_call 15; ((with_reducible refine (great_calls H1.out HF.out A c (C_of_own H1.out HR.out) HC.out).mono ?_)); rintro e w2 ⟨rfl, h⟩; have H2 := Aside0.mk h; clear h)
    | (go_at_call 15; ((with_reducible refine (great_calls H2.out HF2.out B d (C_of_own H2.out HS.out) HD.out).mono ?_)); rintro e w3 ⟨rfl, h⟩; have H3 := Aside0.mk h; clear h)
    | (go_at_call 14; ((with_reducible refine (EncodeB H3.out A c l (C_of_own H3.out HR.out) HQ.out HL.out x 1 HE.out).mono ?_)); rintro e w4 ⟨A1, c1, rfl, h⟩; have H4 := Aside0.mk h; clear h)
    | (go_at_call 14; ((with_reducible refine (EncodeB H4.out B d m (C_of_own H4.out HS.out) HQM.out HLM.out y e2 HEM.out).mono ?_)); rintro e w5 ⟨A2, c2, rfl, h⟩; have H5 := Aside0.mk h; clear h))
  go_ret
  exact ⟨rfl, H5.out.bel⟩
set_option maxHeartbeats 8000000 in
set_option maxRecDepth 100000 in
theorem ScriptSkips_bad3_low (A : Option Addr) (c : Nat) (l : List ActS) (B : Option Addr) (d : Nat) (m : List ActS) (b times : Int) (w : World) (hr : Kd.C k33 w A l.length l) (hc : l.length ≤ c) (hs : Kd.C k33 w B m.length m) (hd : m.length ≤ d) {k k2 : Nat} (hf : meterlaw27_Great.f k l = some false) (hf2 : meterlaw27_Great.f k2 m = some false) (hq : Small l) (hqm : Small m) (n : Nat) (hn : n < 20) (em : times.tmod 20 = (n : Int)) (x y : List Int) (e2 : Int) (he : encR l = (x, 3)) (he2 : encR m = (y, e2)) (hb1 : b < 1) :
    Calls Try.prog 6 #[.slice A l.length c, .slice B m.length d, .int .u8 b, .int .u8 times] w fun e w' => e = .returned (.bool true) ∧ Below w.heap.size w w' := by
  have HR := Aside0.mk hr
  have HC := Aside0.mk hc
  have HS := Aside0.mk hs
  have HD := Aside0.mk hd
  have HF := Aside0.mk hf
  have H0 := Aside0.mk (Own.nil w)
  have HF2 := Aside0.mk hf2
  have HQ := Aside0.mk hq.2
  have HQM := Aside0.mk hqm.2
  have HL := Aside0.mk (show l.length ≤ 10000000 from by have := hq.1; omega)
  have HLM := Aside0.mk (show m.length ≤ 10000000 from by have := hqm.1; omega)
  have HE := Aside0.mk he
  have HEM := Aside0.mk he2
  have w20 : wrap64 (n : Int) = (n : Int) := by unfold wrap64; omega
  have w20' : IntKind.u8.wrap (n : Int) = (n : Int) := by rw [IntKind.wrap_u8]; omega
  have w20i : IntKind.i64.wrap (n : Int) = (n : Int) := by rw [IntKind.wrap_i64]; omega
  have b1 : decide (b ≥ 1) = false := decide_eq_false (by omega)
  have b2 : decide (1 ≤ b) = false := decide_eq_false (by omega)
  clear hr hc hs hd hf hf2 hq hqm he he2 hb1
  go_enter Try.func6, Try.ntmps6
  go_wp2_with (first
    | (go_at_call 10; ((with_reducible refine (awake_calls H0.out).mono ?_)); rintro e w1 ⟨rfl, h⟩; have H1 := Aside0.mk h; clear h)
    | (go_at_call 15; ((with_reducible refine (great_calls H1.out HF.out A c (C_of_own H1.out HR.out) HC.out).mono ?_)); rintro e w2 ⟨rfl, h⟩; have H2 := Aside0.mk h; clear h)
    | (go_at_call 15; ((with_reducible refine (great_calls H2.out HF2.out B d (C_of_own H2.out HS.out) HD.out).mono ?_)); rintro e w3 ⟨rfl, h⟩; have H3 := Aside0.mk h; clear h)
    | (go_at_call 14; ((with_reducible refine (EncodeB H3.out A c l (C_of_own H3.out HR.out) HQ.out HL.out x 3 HE.out).mono ?_)); rintro e w4 ⟨A1, c1, rfl, h⟩; have H4 := Aside0.mk h; clear h)
    | (go_at_call 14; ((with_reducible refine (EncodeB H4.out B d m (C_of_own H4.out HS.out) HQM.out HLM.out y e2 HEM.out).mono ?_)); rintro e w5 ⟨A2, c2, rfl, h⟩; have H5 := Aside0.mk h; clear h))
  go_ret
  exact ⟨rfl, H5.out.bel⟩
set_option maxHeartbeats 8000000 in
set_option maxRecDepth 100000 in
theorem ScriptSkips_badb1_low (A : Option Addr) (c : Nat) (l : List ActS) (B : Option Addr) (d : Nat) (m : List ActS) (b times : Int) (w : World) (hr : Kd.C k33 w A l.length l) (hc : l.length ≤ c) (hs : Kd.C k33 w B m.length m) (hd : m.length ≤ d) {k k2 : Nat} (hf : meterlaw27_Great.f k l = some false) (hf2 : meterlaw27_Great.f k2 m = some false) (hq : Small l) (hqm : Small m) (n : Nat) (hn : n < 20) (em : times.tmod 20 = (n : Int)) (x y : List Int) (he : encR l = (x, 0)) (he2 : encR m = (y, 1)) (hb1 : b < 1) :
    Calls Try.prog 6 #[.slice A l.length c, .slice B m.length d, .int .u8 b, .int .u8 times] w fun e w' => e = .returned (.bool true) ∧ Below w.heap.size w w' := by
  have HR := Aside0.mk hr
  have HC := Aside0.mk hc
  have HS := Aside0.mk hs
  have HD := Aside0.mk hd
  have HF := Aside0.mk hf
  have H0 := Aside0.mk (Own.nil w)
  have HF2 := Aside0.mk hf2
  have HQ := Aside0.mk hq.2
  have HQM := Aside0.mk hqm.2
  have HL := Aside0.mk (show l.length ≤ 10000000 from by have := hq.1; omega)
  have HLM := Aside0.mk (show m.length ≤ 10000000 from by have := hqm.1; omega)
  have HE := Aside0.mk he
  have HEM := Aside0.mk he2
  have w20 : wrap64 (n : Int) = (n : Int) := by unfold wrap64; omega
  have w20' : IntKind.u8.wrap (n : Int) = (n : Int) := by rw [IntKind.wrap_u8]; omega
  have w20i : IntKind.i64.wrap (n : Int) = (n : Int) := by rw [IntKind.wrap_i64]; omega
  have b1 : decide (b ≥ 1) = false := decide_eq_false (by omega)
  have b2 : decide (1 ≤ b) = false := decide_eq_false (by omega)
  clear hr hc hs hd hf hf2 hq hqm he he2 hb1
  go_enter Try.func6, Try.ntmps6
  go_wp2_with (first
    | (go_at_call 10; ((with_reducible refine (awake_calls H0.out).mono ?_)); rintro e w1 ⟨rfl, h⟩; have H1 := Aside0.mk h; clear h)
    | (go_at_call 15; ((with_reducible refine (great_calls H1.out HF.out A c (C_of_own H1.out HR.out) HC.out).mono ?_)); rintro e w2 ⟨rfl, h⟩; have H2 := Aside0.mk h; clear h)
    | (go_at_call 15; ((with_reducible refine (great_calls H2.out HF2.out B d (C_of_own H2.out HS.out) HD.out).mono ?_)); rintro e w3 ⟨rfl, h⟩; have H3 := Aside0.mk h; clear h)
    | (go_at_call 14; ((with_reducible refine (EncodeB H3.out A c l (C_of_own H3.out HR.out) HQ.out HL.out x 0 HE.out).mono ?_)); rintro e w4 ⟨A1, c1, rfl, h⟩; have H4 := Aside0.mk h; clear h)
    | (go_at_call 14; ((with_reducible refine (EncodeB H4.out B d m (C_of_own H4.out HS.out) HQM.out HLM.out y 1 HEM.out).mono ?_)); rintro e w5 ⟨A2, c2, rfl, h⟩; have H5 := Aside0.mk h; clear h))
  go_ret
  exact ⟨rfl, H5.out.bel⟩
set_option maxHeartbeats 8000000 in
set_option maxRecDepth 100000 in
theorem ScriptSkips_badb3_low (A : Option Addr) (c : Nat) (l : List ActS) (B : Option Addr) (d : Nat) (m : List ActS) (b times : Int) (w : World) (hr : Kd.C k33 w A l.length l) (hc : l.length ≤ c) (hs : Kd.C k33 w B m.length m) (hd : m.length ≤ d) {k k2 : Nat} (hf : meterlaw27_Great.f k l = some false) (hf2 : meterlaw27_Great.f k2 m = some false) (hq : Small l) (hqm : Small m) (n : Nat) (hn : n < 20) (em : times.tmod 20 = (n : Int)) (x y : List Int) (he : encR l = (x, 0)) (he2 : encR m = (y, 3)) (hb1 : b < 1) :
    Calls Try.prog 6 #[.slice A l.length c, .slice B m.length d, .int .u8 b, .int .u8 times] w fun e w' => e = .returned (.bool true) ∧ Below w.heap.size w w' := by
  have HR := Aside0.mk hr
  have HC := Aside0.mk hc
  have HS := Aside0.mk hs
  have HD := Aside0.mk hd
  have HF := Aside0.mk hf
  have H0 := Aside0.mk (Own.nil w)
  have HF2 := Aside0.mk hf2
  have HQ := Aside0.mk hq.2
  have HQM := Aside0.mk hqm.2
  have HL := Aside0.mk (show l.length ≤ 10000000 from by have := hq.1; omega)
  have HLM := Aside0.mk (show m.length ≤ 10000000 from by have := hqm.1; omega)
  have HE := Aside0.mk he
  have HEM := Aside0.mk he2
  have w20 : wrap64 (n : Int) = (n : Int) := by unfold wrap64; omega
  have w20' : IntKind.u8.wrap (n : Int) = (n : Int) := by rw [IntKind.wrap_u8]; omega
  have w20i : IntKind.i64.wrap (n : Int) = (n : Int) := by rw [IntKind.wrap_i64]; omega
  have b1 : decide (b ≥ 1) = false := decide_eq_false (by omega)
  have b2 : decide (1 ≤ b) = false := decide_eq_false (by omega)
  clear hr hc hs hd hf hf2 hq hqm he he2 hb1
  go_enter Try.func6, Try.ntmps6
  go_wp2_with (first
    | (go_at_call 10; ((with_reducible refine (awake_calls H0.out).mono ?_)); rintro e w1 ⟨rfl, h⟩; have H1 := Aside0.mk h; clear h)
    | (go_at_call 15; ((with_reducible refine (great_calls H1.out HF.out A c (C_of_own H1.out HR.out) HC.out).mono ?_)); rintro e w2 ⟨rfl, h⟩; have H2 := Aside0.mk h; clear h)
    | (go_at_call 15; ((with_reducible refine (great_calls H2.out HF2.out B d (C_of_own H2.out HS.out) HD.out).mono ?_)); rintro e w3 ⟨rfl, h⟩; have H3 := Aside0.mk h; clear h)
    | (go_at_call 14; ((with_reducible refine (EncodeB H3.out A c l (C_of_own H3.out HR.out) HQ.out HL.out x 0 HE.out).mono ?_)); rintro e w4 ⟨A1, c1, rfl, h⟩; have H4 := Aside0.mk h; clear h)
    | (go_at_call 14; ((with_reducible refine (EncodeB H4.out B d m (C_of_own H4.out HS.out) HQM.out HLM.out y 3 HEM.out).mono ?_)); rintro e w5 ⟨A2, c2, rfl, h⟩; have H5 := Aside0.mk h; clear h))
  go_ret
  exact ⟨rfl, H5.out.bel⟩
set_option maxHeartbeats 8000000 in
set_option maxRecDepth 100000 in
theorem ScriptSkips_over_low (A : Option Addr) (c : Nat) (l : List ActS) (B : Option Addr) (d : Nat) (m : List ActS) (b times : Int) (w : World) (hr : Kd.C k33 w A l.length l) (hc : l.length ≤ c) (hs : Kd.C k33 w B m.length m) (hd : m.length ≤ d) {k k2 : Nat} (hf : meterlaw27_Great.f k l = some false) (hf2 : meterlaw27_Great.f k2 m = some false) (hq : Small l) (hqm : Small m) (n : Nat) (hn : n < 20) (em : times.tmod 20 = (n : Int)) (x y : List Int) (he : encR l = (x, 0)) (he2 : encR m = (y, 0)) (hx6 : x.length ≤ 65536) (hy6 : y.length ≤ 65536) (hov : x.length + y.length + 3 * n > 65536) (hb1 : b < 1) :
    Calls Try.prog 6 #[.slice A l.length c, .slice B m.length d, .int .u8 b, .int .u8 times] w fun e w' => e = .returned (.bool true) ∧ Below w.heap.size w w' := by
  have HR := Aside0.mk hr
  have HC := Aside0.mk hc
  have HS := Aside0.mk hs
  have HD := Aside0.mk hd
  have HF := Aside0.mk hf
  have H0 := Aside0.mk (Own.nil w)
  have HF2 := Aside0.mk hf2
  have HQ := Aside0.mk hq.2
  have HQM := Aside0.mk hqm.2
  have HL := Aside0.mk (show l.length ≤ 10000000 from by have := hq.1; omega)
  have HLM := Aside0.mk (show m.length ≤ 10000000 from by have := hqm.1; omega)
  have HE := Aside0.mk he
  have HEM := Aside0.mk he2
  have w20 : wrap64 (n : Int) = (n : Int) := by unfold wrap64; omega
  have w20' : IntKind.u8.wrap (n : Int) = (n : Int) := by rw [IntKind.wrap_u8]; omega
  have w20i : IntKind.i64.wrap (n : Int) = (n : Int) := by rw [IntKind.wrap_i64]; omega
  have b1 : decide (b ≥ 1) = false := decide_eq_false (by omega)
  have b2 : decide (1 ≤ b) = false := decide_eq_false (by omega)
  have hl5 := hq.1
  have hm5 := hqm.1
  have d4 : decide ((x.length : Int) + (y.length : Int) + 3 * (n : Int) > 65536) = true := decide_eq_true (by omega)
  have d4' : decide (65536 < (x.length : Int) + (y.length : Int) + 3 * (n : Int)) = true := decide_eq_true (by omega)
  have d4'' : decide (65536 < x.length + y.length + 3 * n) = true := decide_eq_true (by omega)
  clear hr hc hs hd hf hf2 hq hqm he he2 hb1
  go_enter Try.func6, Try.ntmps6
  go_wp2_with (first
    | (go_at_call 10; ((with_reducible refine (awake_calls H0.out).mono ?_)); rintro e w1 ⟨rfl, h⟩; have H1 := Aside0.mk h; clear h)
    | (go_at_call 15; ((with_reducible refine (great_calls H1.out HF.out A c (C_of_own H1.out HR.out) HC.out).mono ?_)); rintro e w2 ⟨rfl, h⟩; have H2 := Aside0.mk h; clear h)
    | (go_at_call 15; ((with_reducible refine (great_calls H2.out HF2.out B d (C_of_own H2.out HS.out) HD.out).mono ?_)); rintro e w3 ⟨rfl, h⟩; have H3 := Aside0.mk h; clear h)
    | (go_at_call 14; ((with_reducible refine (EncodeB H3.out A c l (C_of_own H3.out HR.out) HQ.out HL.out x 0 HE.out).mono ?_)); rintro e w4 ⟨A1, c1, rfl, h⟩; have H4 := Aside0.mk h; clear h)
    | (go_at_call 14; ((with_reducible refine (EncodeB H4.out B d m (C_of_own H4.out HS.out) HQM.out HLM.out y 0 HEM.out).mono ?_)); rintro e w5 ⟨A2, c2, rfl, h⟩; have H5 := Aside0.mk h; clear h))
  go_ret
  exact ⟨rfl, H5.out.bel⟩
set_option maxHeartbeats 8000000 in
set_option maxRecDepth 100000 in
theorem ScriptSkips_many_low (A : Option Addr) (c : Nat) (l : List ActS) (B : Option Addr) (d : Nat) (m : List ActS) (b times : Int) (w : World) (hr : Kd.C k33 w A l.length l) (hc : l.length ≤ c) (hs : Kd.C k33 w B m.length m) (hd : m.length ≤ d) {k k2 : Nat} (hf : meterlaw27_Great.f k l = some false) (hf2 : meterlaw27_Great.f k2 m = some false) (hq : Small l) (hqm : Small m) (n : Nat) (hn : n < 20) (em : times.tmod 20 = (n : Int)) (x y : List Int) (he : encR l = (x, 0)) (he2 : encR m = (y, 0)) (hx6 : x.length ≤ 65536) (hy6 : y.length ≤ 65536) (hov : x.length + y.length + 3 * n ≤ 65536) (hmn : l.length + m.length > 4096) (hb1 : b < 1) :
    Calls Try.prog 6 #[.slice A l.length c, .slice B m.length d, .int .u8 b, .int .u8 times] w fun e w' => e = .returned (.bool true) ∧ Below w.heap.size w w' := by
  have HR := Aside0.mk hr
  have HC := Aside0.mk hc
  have HS := Aside0.mk hs
  have HD := Aside0.mk hd
  have HF := Aside0.mk hf
  have H0 := Aside0.mk (Own.nil w)
  have HF2 := Aside0.mk hf2
  have HQ := Aside0.mk hq.2
  have HQM := Aside0.mk hqm.2
  have HL := Aside0.mk (show l.length ≤ 10000000 from by have := hq.1; omega)
  have HLM := Aside0.mk (show m.length ≤ 10000000 from by have := hqm.1; omega)
  have HE := Aside0.mk he
  have HEM := Aside0.mk he2
  have w20 : wrap64 (n : Int) = (n : Int) := by unfold wrap64; omega
  have w20' : IntKind.u8.wrap (n : Int) = (n : Int) := by rw [IntKind.wrap_u8]; omega
  have w20i : IntKind.i64.wrap (n : Int) = (n : Int) := by rw [IntKind.wrap_i64]; omega
  have b1 : decide (b ≥ 1) = false := decide_eq_false (by omega)
  have b2 : decide (1 ≤ b) = false := decide_eq_false (by omega)
  have hl5 := hq.1
  have hm5 := hqm.1
  have d4 : decide ((x.length : Int) + (y.length : Int) + 3 * (n : Int) > 65536) = false := decide_eq_false (by omega)
  have d4' : decide (65536 < (x.length : Int) + (y.length : Int) + 3 * (n : Int)) = false := decide_eq_false (by omega)
  have d4'' : decide (65536 < x.length + y.length + 3 * n) = false := decide_eq_false (by omega)
  have d5 : decide ((l.length : Int) + (m.length : Int) > 4096) = true := decide_eq_true (by omega)
  have d5' : decide (4096 < (l.length : Int) + (m.length : Int)) = true := decide_eq_true (by omega)
  have d5'' : decide (4096 < l.length + m.length) = true := decide_eq_true (by omega)
  clear hr hc hs hd hf hf2 hq hqm he he2 hb1
  go_enter Try.func6, Try.ntmps6
  go_wp2_with (first
    | (go_at_call 10; ((with_reducible refine (awake_calls H0.out).mono ?_)); rintro e w1 ⟨rfl, h⟩; have H1 := Aside0.mk h; clear h)
    | (go_at_call 15; ((with_reducible refine (great_calls H1.out HF.out A c (C_of_own H1.out HR.out) HC.out).mono ?_)); rintro e w2 ⟨rfl, h⟩; have H2 := Aside0.mk h; clear h)
    | (go_at_call 15; ((with_reducible refine (great_calls H2.out HF2.out B d (C_of_own H2.out HS.out) HD.out).mono ?_)); rintro e w3 ⟨rfl, h⟩; have H3 := Aside0.mk h; clear h)
    | (go_at_call 14; ((with_reducible refine (EncodeB H3.out A c l (C_of_own H3.out HR.out) HQ.out HL.out x 0 HE.out).mono ?_)); rintro e w4 ⟨A1, c1, rfl, h⟩; have H4 := Aside0.mk h; clear h)
    | (go_at_call 14; ((with_reducible refine (EncodeB H4.out B d m (C_of_own H4.out HS.out) HQM.out HLM.out y 0 HEM.out).mono ?_)); rintro e w5 ⟨A2, c2, rfl, h⟩; have H5 := Aside0.mk h; clear h))
  go_ret
  exact ⟨rfl, H5.out.bel⟩
set_option maxHeartbeats 8000000 in
set_option maxRecDepth 100000 in
theorem ScriptSkips_bad1_high (A : Option Addr) (c : Nat) (l : List ActS) (B : Option Addr) (d : Nat) (m : List ActS) (b times : Int) (w : World) (hr : Kd.C k33 w A l.length l) (hc : l.length ≤ c) (hs : Kd.C k33 w B m.length m) (hd : m.length ≤ d) {k k2 : Nat} (hf : meterlaw27_Great.f k l = some false) (hf2 : meterlaw27_Great.f k2 m = some false) (hq : Small l) (hqm : Small m) (n : Nat) (hn : n < 20) (em : times.tmod 20 = (n : Int)) (x y : List Int) (e2 : Int) (he : encR l = (x, 1)) (he2 : encR m = (y, e2)) (hb1 : 8 < b) :
    Calls Try.prog 6 #[.slice A l.length c, .slice B m.length d, .int .u8 b, .int .u8 times] w fun e w' => e = .returned (.bool true) ∧ Below w.heap.size w w' := by
  have HR := Aside0.mk hr
  have HC := Aside0.mk hc
  have HS := Aside0.mk hs
  have HD := Aside0.mk hd
  have HF := Aside0.mk hf
  have H0 := Aside0.mk (Own.nil w)
  have HF2 := Aside0.mk hf2
  have HQ := Aside0.mk hq.2
  have HQM := Aside0.mk hqm.2
  have HL := Aside0.mk (show l.length ≤ 10000000 from by have := hq.1; omega)
  have HLM := Aside0.mk (show m.length ≤ 10000000 from by have := hqm.1; omega)
  have HE := Aside0.mk he
  have HEM := Aside0.mk he2
  have w20 : wrap64 (n : Int) = (n : Int) := by unfold wrap64; omega
  have w20' : IntKind.u8.wrap (n : Int) = (n : Int) := by rw [IntKind.wrap_u8]; omega
  have w20i : IntKind.i64.wrap (n : Int) = (n : Int) := by rw [IntKind.wrap_i64]; omega
  have b1 : decide (b ≥ 1) = true := decide_eq_true (by omega)
  have b2 : decide (1 ≤ b) = true := decide_eq_true (by omega)
  have b3 : decide (b ≤ 8) = false := decide_eq_false (by omega)
  clear hr hc hs hd hf hf2 hq hqm he he2 hb1
  go_enter Try.func6, Try.ntmps6
  go_wp2_with (first
    | (go_at_call 10; ((with_reducible refine (awake_calls H0.out).mono ?_)); rintro e w1 ⟨rfl, h⟩; have H1 := Aside0.mk h; clear h)
    | (go_at_call 15; ((with_reducible refine (great_calls H1.out HF.out A c (C_of_own H1.out HR.out) HC.out).mono ?_)); rintro e w2 ⟨rfl, h⟩; have H2 := Aside0.mk h; clear h)
    | (go_at_call 15; ((with_reducible refine (great_calls H2.out HF2.out B d (C_of_own H2.out HS.out) HD.out).mono ?_)); rintro e w3 ⟨rfl, h⟩; have H3 := Aside0.mk h; clear h)
    | (go_at_call 14; ((with_reducible refine (EncodeB H3.out A c l (C_of_own H3.out HR.out) HQ.out HL.out x 1 HE.out).mono ?_)); rintro e w4 ⟨A1, c1, rfl, h⟩; have H4 := Aside0.mk h; clear h)
    | (go_at_call 14; ((with_reducible refine (EncodeB H4.out B d m (C_of_own H4.out HS.out) HQM.out HLM.out y e2 HEM.out).mono ?_)); rintro e w5 ⟨A2, c2, rfl, h⟩; have H5 := Aside0.mk h; clear h))
  go_ret
  exact ⟨rfl, H5.out.bel⟩
set_option maxHeartbeats 8000000 in
set_option maxRecDepth 100000 in
theorem ScriptSkips_bad3_high (A : Option Addr) (c : Nat) (l : List ActS) (B : Option Addr) (d : Nat) (m : List ActS) (b times : Int) (w : World) (hr : Kd.C k33 w A l.length l) (hc : l.length ≤ c) (hs : Kd.C k33 w B m.length m) (hd : m.length ≤ d) {k k2 : Nat} (hf : meterlaw27_Great.f k l = some false) (hf2 : meterlaw27_Great.f k2 m = some false) (hq : Small l) (hqm : Small m) (n : Nat) (hn : n < 20) (em : times.tmod 20 = (n : Int)) (x y : List Int) (e2 : Int) (he : encR l = (x, 3)) (he2 : encR m = (y, e2)) (hb1 : 8 < b) :
    Calls Try.prog 6 #[.slice A l.length c, .slice B m.length d, .int .u8 b, .int .u8 times] w fun e w' => e = .returned (.bool true) ∧ Below w.heap.size w w' := by
  have HR := Aside0.mk hr
  have HC := Aside0.mk hc
  have HS := Aside0.mk hs
  have HD := Aside0.mk hd
  have HF := Aside0.mk hf
  have H0 := Aside0.mk (Own.nil w)
  have HF2 := Aside0.mk hf2
  have HQ := Aside0.mk hq.2
  have HQM := Aside0.mk hqm.2
  have HL := Aside0.mk (show l.length ≤ 10000000 from by have := hq.1; omega)
  have HLM := Aside0.mk (show m.length ≤ 10000000 from by have := hqm.1; omega)
  have HE := Aside0.mk he
  have HEM := Aside0.mk he2
  have w20 : wrap64 (n : Int) = (n : Int) := by unfold wrap64; omega
  have w20' : IntKind.u8.wrap (n : Int) = (n : Int) := by rw [IntKind.wrap_u8]; omega
  have w20i : IntKind.i64.wrap (n : Int) = (n : Int) := by rw [IntKind.wrap_i64]; omega
  have b1 : decide (b ≥ 1) = true := decide_eq_true (by omega)
  have b2 : decide (1 ≤ b) = true := decide_eq_true (by omega)
  have b3 : decide (b ≤ 8) = false := decide_eq_false (by omega)
  clear hr hc hs hd hf hf2 hq hqm he he2 hb1
  go_enter Try.func6, Try.ntmps6
  go_wp2_with (first
    | (go_at_call 10; ((with_reducible refine (awake_calls H0.out).mono ?_)); rintro e w1 ⟨rfl, h⟩; have H1 := Aside0.mk h; clear h)
    | (go_at_call 15; ((with_reducible refine (great_calls H1.out HF.out A c (C_of_own H1.out HR.out) HC.out).mono ?_)); rintro e w2 ⟨rfl, h⟩; have H2 := Aside0.mk h; clear h)
    | (go_at_call 15; ((with_reducible refine (great_calls H2.out HF2.out B d (C_of_own H2.out HS.out) HD.out).mono ?_)); rintro e w3 ⟨rfl, h⟩; have H3 := Aside0.mk h; clear h)
    | (go_at_call 14; ((with_reducible refine (EncodeB H3.out A c l (C_of_own H3.out HR.out) HQ.out HL.out x 3 HE.out).mono ?_)); rintro e w4 ⟨A1, c1, rfl, h⟩; have H4 := Aside0.mk h; clear h)
    | (go_at_call 14; ((with_reducible refine (EncodeB H4.out B d m (C_of_own H4.out HS.out) HQM.out HLM.out y e2 HEM.out).mono ?_)); rintro e w5 ⟨A2, c2, rfl, h⟩; have H5 := Aside0.mk h; clear h))
  go_ret
  exact ⟨rfl, H5.out.bel⟩
set_option maxHeartbeats 8000000 in
set_option maxRecDepth 100000 in
theorem ScriptSkips_badb1_high (A : Option Addr) (c : Nat) (l : List ActS) (B : Option Addr) (d : Nat) (m : List ActS) (b times : Int) (w : World) (hr : Kd.C k33 w A l.length l) (hc : l.length ≤ c) (hs : Kd.C k33 w B m.length m) (hd : m.length ≤ d) {k k2 : Nat} (hf : meterlaw27_Great.f k l = some false) (hf2 : meterlaw27_Great.f k2 m = some false) (hq : Small l) (hqm : Small m) (n : Nat) (hn : n < 20) (em : times.tmod 20 = (n : Int)) (x y : List Int) (he : encR l = (x, 0)) (he2 : encR m = (y, 1)) (hb1 : 8 < b) :
    Calls Try.prog 6 #[.slice A l.length c, .slice B m.length d, .int .u8 b, .int .u8 times] w fun e w' => e = .returned (.bool true) ∧ Below w.heap.size w w' := by
  have HR := Aside0.mk hr
  have HC := Aside0.mk hc
  have HS := Aside0.mk hs
  have HD := Aside0.mk hd
  have HF := Aside0.mk hf
  have H0 := Aside0.mk (Own.nil w)
  have HF2 := Aside0.mk hf2
  have HQ := Aside0.mk hq.2
  have HQM := Aside0.mk hqm.2
  have HL := Aside0.mk (show l.length ≤ 10000000 from by have := hq.1; omega)
  have HLM := Aside0.mk (show m.length ≤ 10000000 from by have := hqm.1; omega)
  have HE := Aside0.mk he
  have HEM := Aside0.mk he2
  have w20 : wrap64 (n : Int) = (n : Int) := by unfold wrap64; omega
  have w20' : IntKind.u8.wrap (n : Int) = (n : Int) := by rw [IntKind.wrap_u8]; omega
  have w20i : IntKind.i64.wrap (n : Int) = (n : Int) := by rw [IntKind.wrap_i64]; omega
  have b1 : decide (b ≥ 1) = true := decide_eq_true (by omega)
  have b2 : decide (1 ≤ b) = true := decide_eq_true (by omega)
  have b3 : decide (b ≤ 8) = false := decide_eq_false (by omega)
  clear hr hc hs hd hf hf2 hq hqm he he2 hb1
  go_enter Try.func6, Try.ntmps6
  go_wp2_with (first
    | (go_at_call 10; ((with_reducible refine (awake_calls H0.out).mono ?_)); rintro e w1 ⟨rfl, h⟩; have H1 := Aside0.mk h; clear h)
    | (go_at_call 15; ((with_reducible refine (great_calls H1.out HF.out A c (C_of_own H1.out HR.out) HC.out).mono ?_)); rintro e w2 ⟨rfl, h⟩; have H2 := Aside0.mk h; clear h)
    | (go_at_call 15; ((with_reducible refine (great_calls H2.out HF2.out B d (C_of_own H2.out HS.out) HD.out).mono ?_)); rintro e w3 ⟨rfl, h⟩; have H3 := Aside0.mk h; clear h)
    | (go_at_call 14; ((with_reducible refine (EncodeB H3.out A c l (C_of_own H3.out HR.out) HQ.out HL.out x 0 HE.out).mono ?_)); rintro e w4 ⟨A1, c1, rfl, h⟩; have H4 := Aside0.mk h; clear h)
    | (go_at_call 14; ((with_reducible refine (EncodeB H4.out B d m (C_of_own H4.out HS.out) HQM.out HLM.out y 1 HEM.out).mono ?_)); rintro e w5 ⟨A2, c2, rfl, h⟩; have H5 := Aside0.mk h; clear h))
  go_ret
  exact ⟨rfl, H5.out.bel⟩
set_option maxHeartbeats 8000000 in
set_option maxRecDepth 100000 in
theorem ScriptSkips_badb3_high (A : Option Addr) (c : Nat) (l : List ActS) (B : Option Addr) (d : Nat) (m : List ActS) (b times : Int) (w : World) (hr : Kd.C k33 w A l.length l) (hc : l.length ≤ c) (hs : Kd.C k33 w B m.length m) (hd : m.length ≤ d) {k k2 : Nat} (hf : meterlaw27_Great.f k l = some false) (hf2 : meterlaw27_Great.f k2 m = some false) (hq : Small l) (hqm : Small m) (n : Nat) (hn : n < 20) (em : times.tmod 20 = (n : Int)) (x y : List Int) (he : encR l = (x, 0)) (he2 : encR m = (y, 3)) (hb1 : 8 < b) :
    Calls Try.prog 6 #[.slice A l.length c, .slice B m.length d, .int .u8 b, .int .u8 times] w fun e w' => e = .returned (.bool true) ∧ Below w.heap.size w w' := by
  have HR := Aside0.mk hr
  have HC := Aside0.mk hc
  have HS := Aside0.mk hs
  have HD := Aside0.mk hd
  have HF := Aside0.mk hf
  have H0 := Aside0.mk (Own.nil w)
  have HF2 := Aside0.mk hf2
  have HQ := Aside0.mk hq.2
  have HQM := Aside0.mk hqm.2
  have HL := Aside0.mk (show l.length ≤ 10000000 from by have := hq.1; omega)
  have HLM := Aside0.mk (show m.length ≤ 10000000 from by have := hqm.1; omega)
  have HE := Aside0.mk he
  have HEM := Aside0.mk he2
  have w20 : wrap64 (n : Int) = (n : Int) := by unfold wrap64; omega
  have w20' : IntKind.u8.wrap (n : Int) = (n : Int) := by rw [IntKind.wrap_u8]; omega
  have w20i : IntKind.i64.wrap (n : Int) = (n : Int) := by rw [IntKind.wrap_i64]; omega
  have b1 : decide (b ≥ 1) = true := decide_eq_true (by omega)
  have b2 : decide (1 ≤ b) = true := decide_eq_true (by omega)
  have b3 : decide (b ≤ 8) = false := decide_eq_false (by omega)
  clear hr hc hs hd hf hf2 hq hqm he he2 hb1
  go_enter Try.func6, Try.ntmps6
  go_wp2_with (first
    | (go_at_call 10; ((with_reducible refine (awake_calls H0.out).mono ?_)); rintro e w1 ⟨rfl, h⟩; have H1 := Aside0.mk h; clear h)
    | (go_at_call 15; ((with_reducible refine (great_calls H1.out HF.out A c (C_of_own H1.out HR.out) HC.out).mono ?_)); rintro e w2 ⟨rfl, h⟩; have H2 := Aside0.mk h; clear h)
    | (go_at_call 15; ((with_reducible refine (great_calls H2.out HF2.out B d (C_of_own H2.out HS.out) HD.out).mono ?_)); rintro e w3 ⟨rfl, h⟩; have H3 := Aside0.mk h; clear h)
    | (go_at_call 14; ((with_reducible refine (EncodeB H3.out A c l (C_of_own H3.out HR.out) HQ.out HL.out x 0 HE.out).mono ?_)); rintro e w4 ⟨A1, c1, rfl, h⟩; have H4 := Aside0.mk h; clear h)
    | (go_at_call 14; ((with_reducible refine (EncodeB H4.out B d m (C_of_own H4.out HS.out) HQM.out HLM.out y 3 HEM.out).mono ?_)); rintro e w5 ⟨A2, c2, rfl, h⟩; have H5 := Aside0.mk h; clear h))
  go_ret
  exact ⟨rfl, H5.out.bel⟩
set_option maxHeartbeats 8000000 in
set_option maxRecDepth 100000 in
theorem ScriptSkips_over_high (A : Option Addr) (c : Nat) (l : List ActS) (B : Option Addr) (d : Nat) (m : List ActS) (b times : Int) (w : World) (hr : Kd.C k33 w A l.length l) (hc : l.length ≤ c) (hs : Kd.C k33 w B m.length m) (hd : m.length ≤ d) {k k2 : Nat} (hf : meterlaw27_Great.f k l = some false) (hf2 : meterlaw27_Great.f k2 m = some false) (hq : Small l) (hqm : Small m) (n : Nat) (hn : n < 20) (em : times.tmod 20 = (n : Int)) (x y : List Int) (he : encR l = (x, 0)) (he2 : encR m = (y, 0)) (hx6 : x.length ≤ 65536) (hy6 : y.length ≤ 65536) (hov : x.length + y.length + 3 * n > 65536) (hb1 : 8 < b) :
    Calls Try.prog 6 #[.slice A l.length c, .slice B m.length d, .int .u8 b, .int .u8 times] w fun e w' => e = .returned (.bool true) ∧ Below w.heap.size w w' := by
  have HR := Aside0.mk hr
  have HC := Aside0.mk hc
  have HS := Aside0.mk hs
  have HD := Aside0.mk hd
  have HF := Aside0.mk hf
  have H0 := Aside0.mk (Own.nil w)
  have HF2 := Aside0.mk hf2
  have HQ := Aside0.mk hq.2
  have HQM := Aside0.mk hqm.2
  have HL := Aside0.mk (show l.length ≤ 10000000 from by have := hq.1; omega)
  have HLM := Aside0.mk (show m.length ≤ 10000000 from by have := hqm.1; omega)
  have HE := Aside0.mk he
  have HEM := Aside0.mk he2
  have w20 : wrap64 (n : Int) = (n : Int) := by unfold wrap64; omega
  have w20' : IntKind.u8.wrap (n : Int) = (n : Int) := by rw [IntKind.wrap_u8]; omega
  have w20i : IntKind.i64.wrap (n : Int) = (n : Int) := by rw [IntKind.wrap_i64]; omega
  have b1 : decide (b ≥ 1) = true := decide_eq_true (by omega)
  have b2 : decide (1 ≤ b) = true := decide_eq_true (by omega)
  have b3 : decide (b ≤ 8) = false := decide_eq_false (by omega)
  have hl5 := hq.1
  have hm5 := hqm.1
  have d4 : decide ((x.length : Int) + (y.length : Int) + 3 * (n : Int) > 65536) = true := decide_eq_true (by omega)
  have d4' : decide (65536 < (x.length : Int) + (y.length : Int) + 3 * (n : Int)) = true := decide_eq_true (by omega)
  have d4'' : decide (65536 < x.length + y.length + 3 * n) = true := decide_eq_true (by omega)
  clear hr hc hs hd hf hf2 hq hqm he he2 hb1
  go_enter Try.func6, Try.ntmps6
  go_wp2_with (first
    | (go_at_call 10; ((with_reducible refine (awake_calls H0.out).mono ?_)); rintro e w1 ⟨rfl, h⟩; have H1 := Aside0.mk h; clear h)
    | (go_at_call 15; ((with_reducible refine (great_calls H1.out HF.out A c (C_of_own H1.out HR.out) HC.out).mono ?_)); rintro e w2 ⟨rfl, h⟩; have H2 := Aside0.mk h; clear h)
    | (go_at_call 15; ((with_reducible refine (great_calls H2.out HF2.out B d (C_of_own H2.out HS.out) HD.out).mono ?_)); rintro e w3 ⟨rfl, h⟩; have H3 := Aside0.mk h; clear h)
    | (go_at_call 14; ((with_reducible refine (EncodeB H3.out A c l (C_of_own H3.out HR.out) HQ.out HL.out x 0 HE.out).mono ?_)); rintro e w4 ⟨A1, c1, rfl, h⟩; have H4 := Aside0.mk h; clear h)
    | (go_at_call 14; ((with_reducible refine (EncodeB H4.out B d m (C_of_own H4.out HS.out) HQM.out HLM.out y 0 HEM.out).mono ?_)); rintro e w5 ⟨A2, c2, rfl, h⟩; have H5 := Aside0.mk h; clear h))
  go_ret
  exact ⟨rfl, H5.out.bel⟩
set_option maxHeartbeats 8000000 in
set_option maxRecDepth 100000 in
theorem ScriptSkips_many_high (A : Option Addr) (c : Nat) (l : List ActS) (B : Option Addr) (d : Nat) (m : List ActS) (b times : Int) (w : World) (hr : Kd.C k33 w A l.length l) (hc : l.length ≤ c) (hs : Kd.C k33 w B m.length m) (hd : m.length ≤ d) {k k2 : Nat} (hf : meterlaw27_Great.f k l = some false) (hf2 : meterlaw27_Great.f k2 m = some false) (hq : Small l) (hqm : Small m) (n : Nat) (hn : n < 20) (em : times.tmod 20 = (n : Int)) (x y : List Int) (he : encR l = (x, 0)) (he2 : encR m = (y, 0)) (hx6 : x.length ≤ 65536) (hy6 : y.length ≤ 65536) (hov : x.length + y.length + 3 * n ≤ 65536) (hmn : l.length + m.length > 4096) (hb1 : 8 < b) :
    Calls Try.prog 6 #[.slice A l.length c, .slice B m.length d, .int .u8 b, .int .u8 times] w fun e w' => e = .returned (.bool true) ∧ Below w.heap.size w w' := by
  have HR := Aside0.mk hr
  have HC := Aside0.mk hc
  have HS := Aside0.mk hs
  have HD := Aside0.mk hd
  have HF := Aside0.mk hf
  have H0 := Aside0.mk (Own.nil w)
  have HF2 := Aside0.mk hf2
  have HQ := Aside0.mk hq.2
  have HQM := Aside0.mk hqm.2
  have HL := Aside0.mk (show l.length ≤ 10000000 from by have := hq.1; omega)
  have HLM := Aside0.mk (show m.length ≤ 10000000 from by have := hqm.1; omega)
  have HE := Aside0.mk he
  have HEM := Aside0.mk he2
  have w20 : wrap64 (n : Int) = (n : Int) := by unfold wrap64; omega
  have w20' : IntKind.u8.wrap (n : Int) = (n : Int) := by rw [IntKind.wrap_u8]; omega
  have w20i : IntKind.i64.wrap (n : Int) = (n : Int) := by rw [IntKind.wrap_i64]; omega
  have b1 : decide (b ≥ 1) = true := decide_eq_true (by omega)
  have b2 : decide (1 ≤ b) = true := decide_eq_true (by omega)
  have b3 : decide (b ≤ 8) = false := decide_eq_false (by omega)
  have hl5 := hq.1
  have hm5 := hqm.1
  have d4 : decide ((x.length : Int) + (y.length : Int) + 3 * (n : Int) > 65536) = false := decide_eq_false (by omega)
  have d4' : decide (65536 < (x.length : Int) + (y.length : Int) + 3 * (n : Int)) = false := decide_eq_false (by omega)
  have d4'' : decide (65536 < x.length + y.length + 3 * n) = false := decide_eq_false (by omega)
  have d5 : decide ((l.length : Int) + (m.length : Int) > 4096) = true := decide_eq_true (by omega)
  have d5' : decide (4096 < (l.length : Int) + (m.length : Int)) = true := decide_eq_true (by omega)
  have d5'' : decide (4096 < l.length + m.length) = true := decide_eq_true (by omega)
  clear hr hc hs hd hf hf2 hq hqm he he2 hb1
  go_enter Try.func6, Try.ntmps6
  go_wp2_with (first
    | (go_at_call 10; ((with_reducible refine (awake_calls H0.out).mono ?_)); rintro e w1 ⟨rfl, h⟩; have H1 := Aside0.mk h; clear h)
    | (go_at_call 15; ((with_reducible refine (great_calls H1.out HF.out A c (C_of_own H1.out HR.out) HC.out).mono ?_)); rintro e w2 ⟨rfl, h⟩; have H2 := Aside0.mk h; clear h)
    | (go_at_call 15; ((with_reducible refine (great_calls H2.out HF2.out B d (C_of_own H2.out HS.out) HD.out).mono ?_)); rintro e w3 ⟨rfl, h⟩; have H3 := Aside0.mk h; clear h)
    | (go_at_call 14; ((with_reducible refine (EncodeB H3.out A c l (C_of_own H3.out HR.out) HQ.out HL.out x 0 HE.out).mono ?_)); rintro e w4 ⟨A1, c1, rfl, h⟩; have H4 := Aside0.mk h; clear h)
    | (go_at_call 14; ((with_reducible refine (EncodeB H4.out B d m (C_of_own H4.out HS.out) HQM.out HLM.out y 0 HEM.out).mono ?_)); rintro e w5 ⟨A2, c2, rfl, h⟩; have H5 := Aside0.mk h; clear h))
  go_ret
  exact ⟨rfl, H5.out.bel⟩
set_option maxHeartbeats 8000000 in
set_option maxRecDepth 100000 in
theorem ScriptSkips_main_mid (A : Option Addr) (c : Nat) (l : List ActS) (B : Option Addr) (d : Nat) (m : List ActS) (b times : Int) (w : World) (hr : Kd.C k33 w A l.length l) (hc : l.length ≤ c) (hs : Kd.C k33 w B m.length m) (hd : m.length ≤ d) {k k2 : Nat} (hf : meterlaw27_Great.f k l = some false) (hf2 : meterlaw27_Great.f k2 m = some false) (hq : Small l) (hqm : Small m) (n : Nat) (hn : n < 20) (em : times.tmod 20 = (n : Int)) (x y : List Int) (he : encR l = (x, 0)) (he2 : encR m = (y, 0)) (hx : encL l = x) (hy : encL m = y) (ho : l.all okA = true) (hom : m.all okA = true) (hx6 : x.length ≤ 65536) (hy6 : y.length ≤ 65536) (hov : x.length + y.length + 3 * n ≤ 65536) (hmn : l.length + m.length ≤ 4096) (hb0 : 0 ≤ b ∧ b < 256) (hb1 : 1 ≤ b) (hb2 : b ≤ 8) :
    Calls Try.prog 6 #[.slice A l.length c, .slice B m.length d, .int .u8 b, .int .u8 times] w fun e w' => e = .returned (.bool true) ∧ Below w.heap.size w w' := by
  have HR := Aside0.mk hr
  have HC := Aside0.mk hc
  have HS := Aside0.mk hs
  have HD := Aside0.mk hd
  have HF := Aside0.mk hf
  have H0 := Aside0.mk (Own.nil w)
  have HF2 := Aside0.mk hf2
  have HQ := Aside0.mk hq.2
  have HQM := Aside0.mk hqm.2
  have HL := Aside0.mk (show l.length ≤ 10000000 from by have := hq.1; omega)
  have HLM := Aside0.mk (show m.length ≤ 10000000 from by have := hqm.1; omega)
  have HE := Aside0.mk he
  have HEM := Aside0.mk he2
  have w20 : wrap64 (n : Int) = (n : Int) := by unfold wrap64; omega
  have w20' : IntKind.u8.wrap (n : Int) = (n : Int) := by rw [IntKind.wrap_u8]; omega
  have w20i : IntKind.i64.wrap (n : Int) = (n : Int) := by rw [IntKind.wrap_i64]; omega
  have b1 : decide (b ≥ 1) = true := decide_eq_true (by omega)
  have b2 : decide (1 ≤ b) = true := decide_eq_true (by omega)
  have b3 : decide (b ≤ 8) = true := decide_eq_true (by omega)
  have d4 : decide ((x.length : Int) + (y.length : Int) + 3 * (n : Int) > 65536) = false := decide_eq_false (by omega)
  have d4' : decide (65536 < (x.length : Int) + (y.length : Int) + 3 * (n : Int)) = false := decide_eq_false (by omega)
  have d4'' : decide (65536 < x.length + y.length + 3 * n) = false := decide_eq_false (by omega)
  have d5 : decide ((l.length : Int) + (m.length : Int) > 4096) = false := decide_eq_false (by omega)
  have d5' : decide (4096 < (l.length : Int) + (m.length : Int)) = false := decide_eq_false (by omega)
  have d5'' : decide (4096 < l.length + m.length) = false := decide_eq_false (by omega)
  have hn0 := decR_skip (b := 0) n (by omega) (by omega) hq.2 ho hqm.2 hom (by rw [hx, hy]; exact hov) hmn
  obtain ⟨gp, hgp⟩ : ∃ gp, List.replicate n (0 : Int) = gp := ⟨_, rfl⟩
  have hgl : gp.length = n := by rw [← hgp, List.length_replicate]
  have hgr : rg gp := by rw [← hgp]; exact fun z hz => by rw [List.eq_of_mem_replicate hz]; omega
  rw [hx, hy, hgp] at hn0
  have hrx : rg x := by rw [← hx]; exact rg_encL l
  have hry : rg y := by rw [← hy]; exact rg_encL m
  obtain ⟨z2, hz2⟩ : ∃ z, gp ++ x = z := ⟨_, rfl⟩
  rw [hz2] at hn0
  have hr2 : rg z2 := by rw [← hz2]; exact rg_app hgr hrx
  have l2 : z2.length = n + x.length := by rw [← hz2, List.length_append, hgl]
  obtain ⟨z3, hz3⟩ : ∃ z, z2 ++ gp = z := ⟨_, rfl⟩
  rw [hz3] at hn0
  have hr3 : rg z3 := by rw [← hz3]; exact rg_app hr2 hgr
  have l3 : z3.length = n + x.length + n := by rw [← hz3, List.length_append, hgl, l2]
  obtain ⟨z4, hz4⟩ : ∃ z, z3 ++ y = z := ⟨_, rfl⟩
  rw [hz4] at hn0
  have hr4 : rg z4 := by rw [← hz4]; exact rg_app hr3 hry
  have l4 : z4.length = n + x.length + n + y.length := by rw [← hz4, List.length_append, l3]
  obtain ⟨z5, hz5⟩ : ∃ z, z4 ++ gp = z := ⟨_, rfl⟩
  rw [hz5] at hn0
  have hr5 : rg z5 := by rw [← hz5]; exact rg_app hr4 hgr
  obtain ⟨q, hqq⟩ : ∃ q, l ++ m = q := ⟨_, rfl⟩
  rw [hqq] at hn0
  have hql : q.length = l.length + m.length := by rw [← hqq, List.length_append]
  have HGL := Aside0.mk hgl
  have HZ2 := Aside0.mk hz2
  have HZ3 := Aside0.mk hz3
  have HZ4 := Aside0.mk hz4
  have HZ5 := Aside0.mk hz5
  have HR5 := Aside0.mk hr5
  have HDN := Aside0.mk hn0
  have HM1 := Aside0.mk (show ([] : List Int).length + n ≤ 1000000000 by simp; omega)
  have HM2 := Aside0.mk (show gp.length + x.length ≤ 1000000000 by omega)
  have HM3 := Aside0.mk (show z2.length + n ≤ 1000000000 by omega)
  have HM4 := Aside0.mk (show z3.length + y.length ≤ 1000000000 by omega)
  have HM5 := Aside0.mk (show z4.length + n ≤ 1000000000 by omega)
  have HT1 := Aside0.mk (show q.take l.length = l by rw [← hqq, List.take_left])
  have HT2 := Aside0.mk (show q.drop l.length = m by rw [← hqq, List.drop_left])
  have HNL := Aside0.mk (show q.length - l.length = m.length by omega)
  have HLE := Aside0.mk (show l.length ≤ q.length by omega)
  have HLL := Aside0.mk (show l.length ≤ 1000000 by omega)
  have HLMM := Aside0.mk (show m.length ≤ 1000000 by omega)
  have e1 : (((q.length : Int)) == (l.length : Int) + (m.length : Int)) = true := by rw [beq_iff_eq]; omega
  have e2 : decide ((q.length : Int) = (l.length : Int) + (m.length : Int)) = true := decide_eq_true (by omega)
  obtain ⟨i0, hi0, _⟩ := Option.map_eq_some_iff.1 infoAct
  have HI := Aside0.mk hi0
  clear hi0 hn0 hgl hgr hrx hry hz2 hz3 hz4 hz5 hr2 hr3 hr4 hr5 l2 l3 l4 hqq hql hr hc hs hd hf hf2 hq hqm he he2 hx hy ho hom hb1 hb2
  go_enter Try.func6, Try.ntmps6
  go_wp2_with (first
    | (go_at_call 10; ((with_reducible refine (awake_calls H0.out).mono ?_)); rintro e w1 ⟨rfl, h⟩; have H1 := Aside0.mk h; clear h)
    | (go_at_call 15; ((with_reducible refine (great_calls H1.out HF.out A c (C_of_own H1.out HR.out) HC.out).mono ?_)); rintro e w2 ⟨rfl, h⟩; have H2 := Aside0.mk h; clear h)
    | (go_at_call 15; ((with_reducible refine (great_calls H2.out HF2.out B d (C_of_own H2.out HS.out) HD.out).mono ?_)); rintro e w3 ⟨rfl, h⟩; have H3 := Aside0.mk h; clear h)
    | (go_at_call 14; ((with_reducible refine (EncodeB H3.out A c l (C_of_own H3.out HR.out) HQ.out HL.out x 0 HE.out).mono ?_)); rintro e w4 ⟨A1, c1, rfl, h⟩; have H4 := Aside0.mk h; clear h)
    | (go_at_call 14; ((with_reducible refine (EncodeB H4.out B d m (C_of_own H4.out HS.out) HQM.out HLM.out y 0 HEM.out).mono ?_)); rintro e w5 ⟨A2, c2, rfl, h⟩; have H5 := Aside0.mk h; clear h))
  rename World => wo
  go_loopw [14, 15] (fun v14 v15 wr => ∃ (i : Nat) (G : Option Addr) (gc : Nat), i ≤ n ∧ v14 = .slice G i gc ∧ v15 = .int .i64 i ∧ Aside0 (Own w wr (Row (Kd.int .u8) 5 (.slice G i gc) (List.replicate i (0 : Int)) :: Row (Kd.int .u8) 5 (.slice A2 y.length c2) y :: Row (Kd.int .u8) 5 (.slice A1 x.length c1) x :: []))) (fun _ v15 _ => n - (RowKit.intOf v15).toNat)
  case atStart => exact ⟨0, none, 0, Nat.zero_le _, rfl, rfl, ⟨H5.out.row_nil (Kd.int .u8) 5⟩⟩
  case round =>
    obtain ⟨i, G, gc, hi, rfl, rfl, HO⟩ := hrel
    by_cases hlt : i < n
    · have HGI := Aside0.mk (show ((List.replicate i (0 : Int)).length + 1) * 1 ≤ 140737488355328 by rw [List.length_replicate]; omega)
      go_wp2_with (first
        | ((with_reducible refine gate_builtin (b := .append) (xs := #[.tmp 75, .tmp 77]) rfl ?_); at_builtin; refine Own.append (Kd.int .u8) rfl (.tmp 75) (.tmp 77) 22 5 (.int .u8 0) 1 rfl Try.underlying22 info5 rfl (by decide) (by omega) (.slice G i gc) (List.replicate i (0 : Int)) 0 [.int .u8 0] rfl rfl (fun _ => rfl) HO.out HGI.out ?_; intro A7 c7 w7 h; rw [List.length_replicate] at h; rw [List.length_replicate]; have H7 := Aside0.mk h; clear h))
      go_roundw
      case rel => exact ⟨i + 1, A7, c7, by omega, rfl, by first | rfl | go_num, ⟨by rw [List.replicate_succ']; exact H7.out⟩⟩
      case measure => first | (simp [RowKit.intOf]; done) | (simp [RowKit.intOf]; omega)
    · have hin : n = i := by omega
      subst hin
      have HG : Aside0 (Own w wr (Row (Kd.int .u8) 5 (.slice G n gc) gp :: Row (Kd.int .u8) 5 (.slice A2 y.length c2) y :: Row (Kd.int .u8) 5 (.slice A1 x.length c1) x :: [])) := ⟨by have := HO.out; rwa [hgp] at this⟩
      clear HO hgp
      go_wp2_with (first
        | ((with_reducible refine gate_dst (N := 81) rfl ?_); refine own_append_b rfl (.tmp 79) (.tmp 80) rfl (.slice none 0 0) [] gp G n gc rfl rfl (HG.out.row_nil (Kd.int .u8) 5) (own_C (HG.out.row_nil (Kd.int .u8) 5).r1) HM1.out ?_; intro B1 d1 w11 h; rw [List.nil_append] at h; rw [List.nil_append]; have HA1 := Aside0.mk h; clear h)
        | ((with_reducible refine gate_dst (N := 84) rfl ?_); refine own_append_b rfl (.tmp 82) (.tmp 83) rfl (.slice B1 gp.length d1) gp x A1 x.length c1 rfl rfl HA1.out (own_C HA1.out.r3) HM2.out ?_; intro B2 d2 w12 h; rw [HZ2.out] at h; rw [HZ2.out]; have HA2 := Aside0.mk h; clear h)
        | ((with_reducible refine gate_dst (N := 87) rfl ?_); refine own_append_b rfl (.tmp 85) (.tmp 86) rfl (.slice B2 z2.length d2) z2 gp G n gc rfl rfl HA2.out (own_C HA2.out.r1) HM3.out ?_; intro B3 d3 w13 h; rw [HZ3.out] at h; rw [HZ3.out]; have HA3 := Aside0.mk h; clear h)
        | ((with_reducible refine gate_dst (N := 90) rfl ?_); refine own_append_b rfl (.tmp 88) (.tmp 89) rfl (.slice B3 z3.length d3) z3 y A2 y.length c2 rfl rfl HA3.out (own_C HA3.out.r2) HM4.out ?_; intro B4 d4 w14 h; rw [HZ4.out] at h; rw [HZ4.out]; have HA4 := Aside0.mk h; clear h)
        | ((with_reducible refine gate_dst (N := 93) rfl ?_); refine own_append_b rfl (.tmp 91) (.tmp 92) rfl (.slice B4 z4.length d4) z4 gp G n gc rfl rfl HA4.out (own_C HA4.out.r1) HM5.out ?_; intro B5 d5 w15 h; rw [HZ5.out] at h; rw [HZ5.out]; have HA5 := Aside0.mk h; clear h)
        | (go_at_call 11; ((with_reducible refine (DecodeB HA5.out B5 d5 z5 (own_reads HA5.out).2.2 (own_reads HA5.out).2.1 HR5.out q HDN.out).mono ?_)); rintro e w16 ⟨A8, c8, rfl, h⟩; have hcn := (own_reads h).2.1; have hkt := cut_to (P := Try.prog) 24 33 .i64 Try.underlying24 HI.out A8 q.length c8 (l.length : Int) (Int.natCast_nonneg _) (Int.ofNat_le.2 HLE.out) hcn; rw [Int.toNat_natCast] at hkt; obtain ⟨A9, hkf, hC9⟩ := cut_acts_from (own_reads h).2.2 hcn l.length HLE.out; have HC8 := Aside0.mk (Kd.C_take (own_reads h).2.2 (m := l.length) HLE.out); rw [HT1.out] at HC8; rw [HT2.out] at hC9; have HC9 := Aside0.mk hC9; have HCN := Aside0.mk (Nat.le_trans HLE.out hcn); have HCN2 := Aside0.mk (show m.length ≤ c8 - l.length from (by have h1 := HNL.out; have h2 := HLE.out; omega)); have H16 := Aside0.mk h; clear h hcn hC9)
        | (go_at_call 12; ((with_reducible refine (same_keeps H16.out A8 A _ _ c8 c l rfl rfl HC8.out (C_of_own H16.out HR.out) HCN.out HC.out HLL.out).mono ?_)); rintro e w17 ⟨rfl, h, hb⟩; have HB17 := Aside0.mk (Kd.C_below HC9.out hb); clear hb; have H17 := Aside0.mk h; clear h)
        | (go_at_call 12; ((with_reducible refine (same_keeps H17.out A9 B _ _ (c8 - l.length) d m HNL.out rfl HB17.out (C_of_own H17.out HS.out) HCN2.out HD.out HLMM.out).mono ?_)); rintro e w18 ⟨rfl, h, hb⟩; clear hb; have H18 := Aside0.mk h; clear h))
      go_ret
      exact ⟨rfl, H18.out.bel⟩
set_option maxHeartbeats 8000000 in
set_option maxRecDepth 100000 in
theorem ScriptSkips_main_low (A : Option Addr) (c : Nat) (l : List ActS) (B : Option Addr) (d : Nat) (m : List ActS) (b times : Int) (w : World) (hr : Kd.C k33 w A l.length l) (hc : l.length ≤ c) (hs : Kd.C k33 w B m.length m) (hd : m.length ≤ d) {k k2 : Nat} (hf : meterlaw27_Great.f k l = some false) (hf2 : meterlaw27_Great.f k2 m = some false) (hq : Small l) (hqm : Small m) (n : Nat) (hn : n < 20) (em : times.tmod 20 = (n : Int)) (x y : List Int) (he : encR l = (x, 0)) (he2 : encR m = (y, 0)) (hx : encL l = x) (hy : encL m = y) (ho : l.all okA = true) (hom : m.all okA = true) (hx6 : x.length ≤ 65536) (hy6 : y.length ≤ 65536) (hov : x.length + y.length + 3 * n ≤ 65536) (hmn : l.length + m.length ≤ 4096) (hb0 : 0 ≤ b ∧ b < 256) (hb1 : b < 1) :
    Calls Try.prog 6 #[.slice A l.length c, .slice B m.length d, .int .u8 b, .int .u8 times] w fun e w' => e = .returned (.bool true) ∧ Below w.heap.size w w' := by
  have HR := Aside0.mk hr
  have HC := Aside0.mk hc
  have HS := Aside0.mk hs
  have HD := Aside0.mk hd
  have HF := Aside0.mk hf
  have H0 := Aside0.mk (Own.nil w)
  have HF2 := Aside0.mk hf2
  have HQ := Aside0.mk hq.2
  have HQM := Aside0.mk hqm.2
  have HL := Aside0.mk (show l.length ≤ 10000000 from by have := hq.1; omega)
  have HLM := Aside0.mk (show m.length ≤ 10000000 from by have := hqm.1; omega)
  have HE := Aside0.mk he
  have HEM := Aside0.mk he2
  have w20 : wrap64 (n : Int) = (n : Int) := by unfold wrap64; omega
  have w20' : IntKind.u8.wrap (n : Int) = (n : Int) := by rw [IntKind.wrap_u8]; omega
  have w20i : IntKind.i64.wrap (n : Int) = (n : Int) := by rw [IntKind.wrap_i64]; omega
  have b1 : decide (b ≥ 1) = false := decide_eq_false (by omega)
  have b2 : decide (1 ≤ b) = false := decide_eq_false (by omega)
  have d4 : decide ((x.length : Int) + (y.length : Int) + 3 * (n : Int) > 65536) = false := decide_eq_false (by omega)
  have d4' : decide (65536 < (x.length : Int) + (y.length : Int) + 3 * (n : Int)) = false := decide_eq_false (by omega)
  have d4'' : decide (65536 < x.length + y.length + 3 * n) = false := decide_eq_false (by omega)
  have d5 : decide ((l.length : Int) + (m.length : Int) > 4096) = false := decide_eq_false (by omega)
  have d5' : decide (4096 < (l.length : Int) + (m.length : Int)) = false := decide_eq_false (by omega)
  have d5'' : decide (4096 < l.length + m.length) = false := decide_eq_false (by omega)
  have hn0 := decR_skip (b := b) n (by omega) (by omega) hq.2 ho hqm.2 hom (by rw [hx, hy]; exact hov) hmn
  obtain ⟨gp, hgp⟩ : ∃ gp, List.replicate n (b : Int) = gp := ⟨_, rfl⟩
  have hgl : gp.length = n := by rw [← hgp, List.length_replicate]
  have hgr : rg gp := by rw [← hgp]; exact fun z hz => by rw [List.eq_of_mem_replicate hz]; omega
  rw [hx, hy, hgp] at hn0
  have hrx : rg x := by rw [← hx]; exact rg_encL l
  have hry : rg y := by rw [← hy]; exact rg_encL m
  obtain ⟨z2, hz2⟩ : ∃ z, gp ++ x = z := ⟨_, rfl⟩
  rw [hz2] at hn0
  have hr2 : rg z2 := by rw [← hz2]; exact rg_app hgr hrx
  have l2 : z2.length = n + x.length := by rw [← hz2, List.length_append, hgl]
  obtain ⟨z3, hz3⟩ : ∃ z, z2 ++ gp = z := ⟨_, rfl⟩
  rw [hz3] at hn0
  have hr3 : rg z3 := by rw [← hz3]; exact rg_app hr2 hgr
  have l3 : z3.length = n + x.length + n := by rw [← hz3, List.length_append, hgl, l2]
  obtain ⟨z4, hz4⟩ : ∃ z, z3 ++ y = z := ⟨_, rfl⟩
  rw [hz4] at hn0
  have hr4 : rg z4 := by rw [← hz4]; exact rg_app hr3 hry
  have l4 : z4.length = n + x.length + n + y.length := by rw [← hz4, List.length_append, l3]
  obtain ⟨z5, hz5⟩ : ∃ z, z4 ++ gp = z := ⟨_, rfl⟩
  rw [hz5] at hn0
  have hr5 : rg z5 := by rw [← hz5]; exact rg_app hr4 hgr
  obtain ⟨q, hqq⟩ : ∃ q, l ++ m = q := ⟨_, rfl⟩
  rw [hqq] at hn0
  have hql : q.length = l.length + m.length := by rw [← hqq, List.length_append]
  have HGL := Aside0.mk hgl
  have HZ2 := Aside0.mk hz2
  have HZ3 := Aside0.mk hz3
  have HZ4 := Aside0.mk hz4
  have HZ5 := Aside0.mk hz5
  have HR5 := Aside0.mk hr5
  have HDN := Aside0.mk hn0
  have HM1 := Aside0.mk (show ([] : List Int).length + n ≤ 1000000000 by simp; omega)
  have HM2 := Aside0.mk (show gp.length + x.length ≤ 1000000000 by omega)
  have HM3 := Aside0.mk (show z2.length + n ≤ 1000000000 by omega)
  have HM4 := Aside0.mk (show z3.length + y.length ≤ 1000000000 by omega)
  have HM5 := Aside0.mk (show z4.length + n ≤ 1000000000 by omega)
  have HT1 := Aside0.mk (show q.take l.length = l by rw [← hqq, List.take_left])
  have HT2 := Aside0.mk (show q.drop l.length = m by rw [← hqq, List.drop_left])
  have HNL := Aside0.mk (show q.length - l.length = m.length by omega)
  have HLE := Aside0.mk (show l.length ≤ q.length by omega)
  have HLL := Aside0.mk (show l.length ≤ 1000000 by omega)
  have HLMM := Aside0.mk (show m.length ≤ 1000000 by omega)
  have e1 : (((q.length : Int)) == (l.length : Int) + (m.length : Int)) = true := by rw [beq_iff_eq]; omega
  have e2 : decide ((q.length : Int) = (l.length : Int) + (m.length : Int)) = true := decide_eq_true (by omega)
  obtain ⟨i0, hi0, _⟩ := Option.map_eq_some_iff.1 infoAct
  have HI := Aside0.mk hi0
  clear hi0 hn0 hgl hgr hrx hry hz2 hz3 hz4 hz5 hr2 hr3 hr4 hr5 l2 l3 l4 hqq hql hr hc hs hd hf hf2 hq hqm he he2 hx hy ho hom hb1
  go_enter Try.func6, Try.ntmps6
  go_wp2_with (first
    | (go_at_call 10; ((with_reducible refine (awake_calls H0.out).mono ?_)); rintro e w1 ⟨rfl, h⟩; have H1 := Aside0.mk h; clear h)
    | (go_at_call 15; ((with_reducible refine (great_calls H1.out HF.out A c (C_of_own H1.out HR.out) HC.out).mono ?_)); rintro e w2 ⟨rfl, h⟩; have H2 := Aside0.mk h; clear h)
    | (go_at_call 15; ((with_reducible refine (great_calls H2.out HF2.out B d (C_of_own H2.out HS.out) HD.out).mono ?_)); rintro e w3 ⟨rfl, h⟩; have H3 := Aside0.mk h; clear h)
    | (go_at_call 14; ((with_reducible refine (EncodeB H3.out A c l (C_of_own H3.out HR.out) HQ.out HL.out x 0 HE.out).mono ?_)); rintro e w4 ⟨A1, c1, rfl, h⟩; have H4 := Aside0.mk h; clear h)
    | (go_at_call 14; ((with_reducible refine (EncodeB H4.out B d m (C_of_own H4.out HS.out) HQM.out HLM.out y 0 HEM.out).mono ?_)); rintro e w5 ⟨A2, c2, rfl, h⟩; have H5 := Aside0.mk h; clear h))
  rename World => wo
  go_loopw [14, 15] (fun v14 v15 wr => ∃ (i : Nat) (G : Option Addr) (gc : Nat), i ≤ n ∧ v14 = .slice G i gc ∧ v15 = .int .i64 i ∧ Aside0 (Own w wr (Row (Kd.int .u8) 5 (.slice G i gc) (List.replicate i (b : Int)) :: Row (Kd.int .u8) 5 (.slice A2 y.length c2) y :: Row (Kd.int .u8) 5 (.slice A1 x.length c1) x :: []))) (fun _ v15 _ => n - (RowKit.intOf v15).toNat)
  case atStart => exact ⟨0, none, 0, Nat.zero_le _, rfl, rfl, ⟨H5.out.row_nil (Kd.int .u8) 5⟩⟩
  case round =>
    obtain ⟨i, G, gc, hi, rfl, rfl, HO⟩ := hrel
    by_cases hlt : i < n
    · have HGI := Aside0.mk (show ((List.replicate i (b : Int)).length + 1) * 1 ≤ 140737488355328 by rw [List.length_replicate]; omega)
      go_wp2_with (first
        | ((with_reducible refine gate_builtin (b := .append) (xs := #[.tmp 75, .tmp 77]) rfl ?_); at_builtin; refine Own.append (Kd.int .u8) rfl (.tmp 75) (.tmp 77) 22 5 (.int .u8 0) 1 rfl Try.underlying22 info5 rfl (by decide) (by omega) (.slice G i gc) (List.replicate i (b : Int)) b [.int .u8 b] rfl rfl (fun _ => rfl) HO.out HGI.out ?_; intro A7 c7 w7 h; rw [List.length_replicate] at h; rw [List.length_replicate]; have H7 := Aside0.mk h; clear h))
      go_roundw
      case rel => exact ⟨i + 1, A7, c7, by omega, rfl, by first | rfl | go_num, ⟨by rw [List.replicate_succ']; exact H7.out⟩⟩
      case measure => first | (simp [RowKit.intOf]; done) | (simp [RowKit.intOf]; omega)
    · have hin : n = i := by omega
      subst hin
      have HG : Aside0 (Own w wr (Row (Kd.int .u8) 5 (.slice G n gc) gp :: Row (Kd.int .u8) 5 (.slice A2 y.length c2) y :: Row (Kd.int .u8) 5 (.slice A1 x.length c1) x :: [])) := ⟨by have := HO.out; rwa [hgp] at this⟩
      clear HO hgp
      go_wp2_with (first
        | ((with_reducible refine gate_dst (N := 81) rfl ?_); refine own_append_b rfl (.tmp 79) (.tmp 80) rfl (.slice none 0 0) [] gp G n gc rfl rfl (HG.out.row_nil (Kd.int .u8) 5) (own_C (HG.out.row_nil (Kd.int .u8) 5).r1) HM1.out ?_; intro B1 d1 w11 h; rw [List.nil_append] at h; rw [List.nil_append]; have HA1 := Aside0.mk h; clear h)
        | ((with_reducible refine gate_dst (N := 84) rfl ?_); refine own_append_b rfl (.tmp 82) (.tmp 83) rfl (.slice B1 gp.length d1) gp x A1 x.length c1 rfl rfl HA1.out (own_C HA1.out.r3) HM2.out ?_; intro B2 d2 w12 h; rw [HZ2.out] at h; rw [HZ2.out]; have HA2 := Aside0.mk h; clear h)
        | ((with_reducible refine gate_dst (N := 87) rfl ?_); refine own_append_b rfl (.tmp 85) (.tmp 86) rfl (.slice B2 z2.length d2) z2 gp G n gc rfl rfl HA2.out (own_C HA2.out.r1) HM3.out ?_; intro B3 d3 w13 h; rw [HZ3.out] at h; rw [HZ3.out]; have HA3 := Aside0.mk h; clear h)
        | ((with_reducible refine gate_dst (N := 90) rfl ?_); refine own_append_b rfl (.tmp 88) (.tmp 89) rfl (.slice B3 z3.length d3) z3 y A2 y.length c2 rfl rfl HA3.out (own_C HA3.out.r2) HM4.out ?_; intro B4 d4 w14 h; rw [HZ4.out] at h; rw [HZ4.out]; have HA4 := Aside0.mk h; clear h)
        | ((with_reducible refine gate_dst (N := 93) rfl ?_); refine own_append_b rfl (.tmp 91) (.tmp 92) rfl (.slice B4 z4.length d4) z4 gp G n gc rfl rfl HA4.out (own_C HA4.out.r1) HM5.out ?_; intro B5 d5 w15 h; rw [HZ5.out] at h; rw [HZ5.out]; have HA5 := Aside0.mk h; clear h)
        | (go_at_call 11; ((with_reducible refine (DecodeB HA5.out B5 d5 z5 (own_reads HA5.out).2.2 (own_reads HA5.out).2.1 HR5.out q HDN.out).mono ?_)); rintro e w16 ⟨A8, c8, rfl, h⟩; have hcn := (own_reads h).2.1; have hkt := cut_to (P := Try.prog) 24 33 .i64 Try.underlying24 HI.out A8 q.length c8 (l.length : Int) (Int.natCast_nonneg _) (Int.ofNat_le.2 HLE.out) hcn; rw [Int.toNat_natCast] at hkt; obtain ⟨A9, hkf, hC9⟩ := cut_acts_from (own_reads h).2.2 hcn l.length HLE.out; have HC8 := Aside0.mk (Kd.C_take (own_reads h).2.2 (m := l.length) HLE.out); rw [HT1.out] at HC8; rw [HT2.out] at hC9; have HC9 := Aside0.mk hC9; have HCN := Aside0.mk (Nat.le_trans HLE.out hcn); have HCN2 := Aside0.mk (show m.length ≤ c8 - l.length from (by have h1 := HNL.out; have h2 := HLE.out; omega)); have H16 := Aside0.mk h; clear h hcn hC9)
        | (go_at_call 12; ((with_reducible refine (same_keeps H16.out A8 A _ _ c8 c l rfl rfl HC8.out (C_of_own H16.out HR.out) HCN.out HC.out HLL.out).mono ?_)); rintro e w17 ⟨rfl, h, hb⟩; have HB17 := Aside0.mk (Kd.C_below HC9.out hb); clear hb; have H17 := Aside0.mk h; clear h)
        | (go_at_call 12; ((with_reducible refine (same_keeps H17.out A9 B _ _ (c8 - l.length) d m HNL.out rfl HB17.out (C_of_own H17.out HS.out) HCN2.out HD.out HLMM.out).mono ?_)); rintro e w18 ⟨rfl, h, hb⟩; clear hb; have H18 := Aside0.mk h; clear h))
      go_ret
      exact ⟨rfl, H18.out.bel⟩
set_option maxHeartbeats 8000000 in
set_option maxRecDepth 100000 in
theorem ScriptSkips_main_high (A : Option Addr) (c : Nat) (l : List ActS) (B : Option Addr) (d : Nat) (m : List ActS) (b times : Int) (w : World) (hr : Kd.C k33 w A l.length l) (hc : l.length ≤ c) (hs : Kd.C k33 w B m.length m) (hd : m.length ≤ d) {k k2 : Nat} (hf : meterlaw27_Great.f k l = some false) (hf2 : meterlaw27_Great.f k2 m = some false) (hq : Small l) (hqm : Small m) (n : Nat) (hn : n < 20) (em : times.tmod 20 = (n : Int)) (x y : List Int) (he : encR l = (x, 0)) (he2 : encR m = (y, 0)) (hx : encL l = x) (hy : encL m = y) (ho : l.all okA = true) (hom : m.all okA = true) (hx6 : x.length ≤ 65536) (hy6 : y.length ≤ 65536) (hov : x.length + y.length + 3 * n ≤ 65536) (hmn : l.length + m.length ≤ 4096) (hb0 : 0 ≤ b ∧ b < 256) (hb1 : 8 < b) :
    Calls Try.prog 6 #[.slice A l.length c, .slice B m.length d, .int .u8 b, .int .u8 times] w fun e w' => e = .returned (.bool true) ∧ Below w.heap.size w w' := by
  have HR := Aside0.mk hr
  have HC := Aside0.mk hc
  have HS := Aside0.mk hs
  have HD := Aside0.mk hd
  have HF := Aside0.mk hf
  have H0 := Aside0.mk (Own.nil w)
  have HF2 := Aside0.mk hf2
  have HQ := Aside0.mk hq.2
  have HQM := Aside0.mk hqm.2
  have HL := Aside0.mk (show l.length ≤ 10000000 from by have := hq.1; omega)
  have HLM := Aside0.mk (show m.length ≤ 10000000 from by have := hqm.1; omega)
  have HE := Aside0.mk he
  have HEM := Aside0.mk he2
  have w20 : wrap64 (n : Int) = (n : Int) := by unfold wrap64; omega
  have w20' : IntKind.u8.wrap (n : Int) = (n : Int) := by rw [IntKind.wrap_u8]; omega
  have w20i : IntKind.i64.wrap (n : Int) = (n : Int) := by rw [IntKind.wrap_i64]; omega
  have b1 : decide (b ≥ 1) = true := decide_eq_true (by omega)
  have b2 : decide (1 ≤ b) = true := decide_eq_true (by omega)
  have b3 : decide (b ≤ 8) = false := decide_eq_false (by omega)
  have d4 : decide ((x.length : Int) + (y.length : Int) + 3 * (n : Int) > 65536) = false := decide_eq_false (by omega)
  have d4' : decide (65536 < (x.length : Int) + (y.length : Int) + 3 * (n : Int)) = false := decide_eq_false (by omega)
  have d4'' : decide (65536 < x.length + y.length + 3 * n) = false := decide_eq_false (by omega)
  have d5 : decide ((l.length : Int) + (m.length : Int) > 4096) = false := decide_eq_false (by omega)
  have d5' : decide (4096 < (l.length : Int) + (m.length : Int)) = false := decide_eq_false (by omega)
  have d5'' : decide (4096 < l.length + m.length) = false := decide_eq_false (by omega)
  have hn0 := decR_skip (b := b) n (by omega) (by omega) hq.2 ho hqm.2 hom (by rw [hx, hy]; exact hov) hmn
  obtain ⟨gp, hgp⟩ : ∃ gp, List.replicate n (b : Int) = gp := ⟨_, rfl⟩
  have hgl : gp.length = n := by rw [← hgp, List.length_replicate]
  have hgr : rg gp := by rw [← hgp]; exact fun z hz => by rw [List.eq_of_mem_replicate hz]; omega
  rw [hx, hy, hgp] at hn0
  have hrx : rg x := by rw [← hx]; exact rg_encL l
  have hry : rg y := by rw [← hy]; exact rg_encL m
  obtain ⟨z2, hz2⟩ : ∃ z, gp ++ x = z := ⟨_, rfl⟩
  rw [hz2] at hn0
  have hr2 : rg z2 := by rw [← hz2]; exact rg_app hgr hrx
  have l2 : z2.length = n + x.length := by rw [← hz2, List.length_append, hgl]
  obtain ⟨z3, hz3⟩ : ∃ z, z2 ++ gp = z := ⟨_, rfl⟩
  rw [hz3] at hn0
  have hr3 : rg z3 := by rw [← hz3]; exact rg_app hr2 hgr
  have l3 : z3.length = n + x.length + n := by rw [← hz3, List.length_append, hgl, l2]
  obtain ⟨z4, hz4⟩ : ∃ z, z3 ++ y = z := ⟨_, rfl⟩
  rw [hz4] at hn0
  have hr4 : rg z4 := by rw [← hz4]; exact rg_app hr3 hry
  have l4 : z4.length = n + x.length + n + y.length := by rw [← hz4, List.length_append, l3]
  obtain ⟨z5, hz5⟩ : ∃ z, z4 ++ gp = z := ⟨_, rfl⟩
  rw [hz5] at hn0
  have hr5 : rg z5 := by rw [← hz5]; exact rg_app hr4 hgr
  obtain ⟨q, hqq⟩ : ∃ q, l ++ m = q := ⟨_, rfl⟩
  rw [hqq] at hn0
  have hql : q.length = l.length + m.length := by rw [← hqq, List.length_append]
  have HGL := Aside0.mk hgl
  have HZ2 := Aside0.mk hz2
  have HZ3 := Aside0.mk hz3
  have HZ4 := Aside0.mk hz4
  have HZ5 := Aside0.mk hz5
  have HR5 := Aside0.mk hr5
  have HDN := Aside0.mk hn0
  have HM1 := Aside0.mk (show ([] : List Int).length + n ≤ 1000000000 by simp; omega)
  have HM2 := Aside0.mk (show gp.length + x.length ≤ 1000000000 by omega)
  have HM3 := Aside0.mk (show z2.length + n ≤ 1000000000 by omega)
  have HM4 := Aside0.mk (show z3.length + y.length ≤ 1000000000 by omega)
  have HM5 := Aside0.mk (show z4.length + n ≤ 1000000000 by omega)
  have HT1 := Aside0.mk (show q.take l.length = l by rw [← hqq, List.take_left])
  have HT2 := Aside0.mk (show q.drop l.length = m by rw [← hqq, List.drop_left])
  have HNL := Aside0.mk (show q.length - l.length = m.length by omega)
  have HLE := Aside0.mk (show l.length ≤ q.length by omega)
  have HLL := Aside0.mk (show l.length ≤ 1000000 by omega)
  have HLMM := Aside0.mk (show m.length ≤ 1000000 by omega)
  have e1 : (((q.length : Int)) == (l.length : Int) + (m.length : Int)) = true := by rw [beq_iff_eq]; omega
  have e2 : decide ((q.length : Int) = (l.length : Int) + (m.length : Int)) = true := decide_eq_true (by omega)
  obtain ⟨i0, hi0, _⟩ := Option.map_eq_some_iff.1 infoAct
  have HI := Aside0.mk hi0
  clear hi0 hn0 hgl hgr hrx hry hz2 hz3 hz4 hz5 hr2 hr3 hr4 hr5 l2 l3 l4 hqq hql hr hc hs hd hf hf2 hq hqm he he2 hx hy ho hom hb1
  go_enter Try.func6, Try.ntmps6
  go_wp2_with (first
    | (go_at_call 10; ((with_reducible refine (awake_calls H0.out).mono ?_)); rintro e w1 ⟨rfl, h⟩; have H1 := Aside0.mk h; clear h)
    | (go_at_call 15; ((with_reducible refine (great_calls H1.out HF.out A c (C_of_own H1.out HR.out) HC.out).mono ?_)); rintro e w2 ⟨rfl, h⟩; have H2 := Aside0.mk h; clear h)
    | (go_at_call 15; ((with_reducible refine (great_calls H2.out HF2.out B d (C_of_own H2.out HS.out) HD.out).mono ?_)); rintro e w3 ⟨rfl, h⟩; have H3 := Aside0.mk h; clear h)
    | (go_at_call 14; ((with_reducible refine (EncodeB H3.out A c l (C_of_own H3.out HR.out) HQ.out HL.out x 0 HE.out).mono ?_)); rintro e w4 ⟨A1, c1, rfl, h⟩; have H4 := Aside0.mk h; clear h)
    | (go_at_call 14; ((with_reducible refine (EncodeB H4.out B d m (C_of_own H4.out HS.out) HQM.out HLM.out y 0 HEM.out).mono ?_)); rintro e w5 ⟨A2, c2, rfl, h⟩; have H5 := Aside0.mk h; clear h))
  rename World => wo
  go_loopw [14, 15] (fun v14 v15 wr => ∃ (i : Nat) (G : Option Addr) (gc : Nat), i ≤ n ∧ v14 = .slice G i gc ∧ v15 = .int .i64 i ∧ Aside0 (Own w wr (Row (Kd.int .u8) 5 (.slice G i gc) (List.replicate i (b : Int)) :: Row (Kd.int .u8) 5 (.slice A2 y.length c2) y :: Row (Kd.int .u8) 5 (.slice A1 x.length c1) x :: []))) (fun _ v15 _ => n - (RowKit.intOf v15).toNat)
  case atStart => exact ⟨0, none, 0, Nat.zero_le _, rfl, rfl, ⟨H5.out.row_nil (Kd.int .u8) 5⟩⟩
  case round =>
    obtain ⟨i, G, gc, hi, rfl, rfl, HO⟩ := hrel
    by_cases hlt : i < n
    · have HGI := Aside0.mk (show ((List.replicate i (b : Int)).length + 1) * 1 ≤ 140737488355328 by rw [List.length_replicate]; omega)
      go_wp2_with (first
        | ((with_reducible refine gate_builtin (b := .append) (xs := #[.tmp 75, .tmp 77]) rfl ?_); at_builtin; refine Own.append (Kd.int .u8) rfl (.tmp 75) (.tmp 77) 22 5 (.int .u8 0) 1 rfl Try.underlying22 info5 rfl (by decide) (by omega) (.slice G i gc) (List.replicate i (b : Int)) b [.int .u8 b] rfl rfl (fun _ => rfl) HO.out HGI.out ?_; intro A7 c7 w7 h; rw [List.length_replicate] at h; rw [List.length_replicate]; have H7 := Aside0.mk h; clear h))
      go_roundw
      case rel => exact ⟨i + 1, A7, c7, by omega, rfl, by first | rfl | go_num, ⟨by rw [List.replicate_succ']; exact H7.out⟩⟩
      case measure => first | (simp [RowKit.intOf]; done) | (simp [RowKit.intOf]; omega)
    · have hin : n = i := by omega
      subst hin
      have HG : Aside0 (Own w wr (Row (Kd.int .u8) 5 (.slice G n gc) gp :: Row (Kd.int .u8) 5 (.slice A2 y.length c2) y :: Row (Kd.int .u8) 5 (.slice A1 x.length c1) x :: [])) := ⟨by have := HO.out; rwa [hgp] at this⟩
      clear HO hgp
      go_wp2_with (first
        | ((with_reducible refine gate_dst (N := 81) rfl ?_); refine own_append_b rfl (.tmp 79) (.tmp 80) rfl (.slice none 0 0) [] gp G n gc rfl rfl (HG.out.row_nil (Kd.int .u8) 5) (own_C (HG.out.row_nil (Kd.int .u8) 5).r1) HM1.out ?_; intro B1 d1 w11 h; rw [List.nil_append] at h; rw [List.nil_append]; have HA1 := Aside0.mk h; clear h)
        | ((with_reducible refine gate_dst (N := 84) rfl ?_); refine own_append_b rfl (.tmp 82) (.tmp 83) rfl (.slice B1 gp.length d1) gp x A1 x.length c1 rfl rfl HA1.out (own_C HA1.out.r3) HM2.out ?_; intro B2 d2 w12 h; rw [HZ2.out] at h; rw [HZ2.out]; have HA2 := Aside0.mk h; clear h)
        | ((with_reducible refine gate_dst (N := 87) rfl ?_); refine own_append_b rfl (.tmp 85) (.tmp 86) rfl (.slice B2 z2.length d2) z2 gp G n gc rfl rfl HA2.out (own_C HA2.out.r1) HM3.out ?_; intro B3 d3 w13 h; rw [HZ3.out] at h; rw [HZ3.out]; have HA3 := Aside0.mk h; clear h)
        | ((with_reducible refine gate_dst (N := 90) rfl ?_); refine own_append_b rfl (.tmp 88) (.tmp 89) rfl (.slice B3 z3.length d3) z3 y A2 y.length c2 rfl rfl HA3.out (own_C HA3.out.r2) HM4.out ?_; intro B4 d4 w14 h; rw [HZ4.out] at h; rw [HZ4.out]; have HA4 := Aside0.mk h; clear h)
        | ((with_reducible refine gate_dst (N := 93) rfl ?_); refine own_append_b rfl (.tmp 91) (.tmp 92) rfl (.slice B4 z4.length d4) z4 gp G n gc rfl rfl HA4.out (own_C HA4.out.r1) HM5.out ?_; intro B5 d5 w15 h; rw [HZ5.out] at h; rw [HZ5.out]; have HA5 := Aside0.mk h; clear h)
        | (go_at_call 11; ((with_reducible refine (DecodeB HA5.out B5 d5 z5 (own_reads HA5.out).2.2 (own_reads HA5.out).2.1 HR5.out q HDN.out).mono ?_)); rintro e w16 ⟨A8, c8, rfl, h⟩; have hcn := (own_reads h).2.1; have hkt := cut_to (P := Try.prog) 24 33 .i64 Try.underlying24 HI.out A8 q.length c8 (l.length : Int) (Int.natCast_nonneg _) (Int.ofNat_le.2 HLE.out) hcn; rw [Int.toNat_natCast] at hkt; obtain ⟨A9, hkf, hC9⟩ := cut_acts_from (own_reads h).2.2 hcn l.length HLE.out; have HC8 := Aside0.mk (Kd.C_take (own_reads h).2.2 (m := l.length) HLE.out); rw [HT1.out] at HC8; rw [HT2.out] at hC9; have HC9 := Aside0.mk hC9; have HCN := Aside0.mk (Nat.le_trans HLE.out hcn); have HCN2 := Aside0.mk (show m.length ≤ c8 - l.length from (by have h1 := HNL.out; have h2 := HLE.out; omega)); have H16 := Aside0.mk h; clear h hcn hC9)
        | (go_at_call 12; ((with_reducible refine (same_keeps H16.out A8 A _ _ c8 c l rfl rfl HC8.out (C_of_own H16.out HR.out) HCN.out HC.out HLL.out).mono ?_)); rintro e w17 ⟨rfl, h, hb⟩; have HB17 := Aside0.mk (Kd.C_below HC9.out hb); clear hb; have H17 := Aside0.mk h; clear h)
        | (go_at_call 12; ((with_reducible refine (same_keeps H17.out A9 B _ _ (c8 - l.length) d m HNL.out rfl HB17.out (C_of_own H17.out HS.out) HCN2.out HD.out HLMM.out).mono ?_)); rintro e w18 ⟨rfl, h, hb⟩; clear hb; have H18 := Aside0.mk h; clear h))
      go_ret
      exact ⟨rfl, H18.out.bel⟩
theorem ScriptSkips_law (A : Option Addr) (c : Nat) (l : List ActS) (B : Option Addr) (d : Nat) (m : List ActS) (b times : Int) (w : World) (hr : Kd.C k33 w A l.length l) (hc : l.length ≤ c) (hq : l.length ≤ 9223372036854775807 ∧ ∀ x ∈ l, Q33 x) (hs : Kd.C k33 w B m.length m) (hd : m.length ≤ d) (hq2 : m.length ≤ 9223372036854775807 ∧ ∀ x ∈ m, Q33 x) (wb : (Lit.int .u8 b).wf = true) (wt : (Lit.int .u8 times).wf = true) :
    Calls Try.prog 6 #[.slice A l.length c, .slice B m.length d, .int .u8 b, .int .u8 times] w fun e w' => e = .returned (.bool true) ∧ Below w.heap.size w w' := by
  obtain ⟨k, r, hf, hg⟩ := great_f l
  obtain ⟨k2, r2, hf2, hg2⟩ := great_f m
  obtain ⟨n, hn, em⟩ := u8_mod20 wt
  cases r with
  | true => exact ScriptSkips_great A c l B d m b times w hr hc hs hd hf
  | false =>
  cases r2 with
  | true => exact ScriptSkips_great2 A c l B d m b times w hr hc hs hd hf hf2
  | false =>
  have hsm := small_of hq.2 (hg rfl)
  have hsm2 := small_of hq2.2 (hg2 rfl)
  have hb9 : 0 ≤ b ∧ b < 256 := by
    simp [Lit.wf, IntKind.min, IntKind.max, IntKind.signed, IntKind.bits] at wb
    omega
  by_cases hm1 : 1 ≤ b ∧ b ≤ 8
  · rcases encR_cases l with ⟨h1, h2, h3, h4⟩ | h | h
    · rcases encR_cases m with ⟨g1, g2, g3, g4⟩ | g | g
      · by_cases hov : (encL l).length + (encL m).length + 3 * n > 65536
        · exact ScriptSkips_over_mid A c l B d m b times w hr hc hs hd hf hf2 hsm hsm2 n hn em _ _ h4 g4 h3 g3 hov hm1.1 hm1.2
        · by_cases hmn : l.length + m.length > 4096
          · exact ScriptSkips_many_mid A c l B d m b times w hr hc hs hd hf hf2 hsm hsm2 n hn em _ _ h4 g4 h3 g3 (by omega) hmn hm1.1 hm1.2
          · exact ScriptSkips_main_mid A c l B d m b times w hr hc hs hd hf hf2 hsm hsm2 n hn em _ _ h4 g4 rfl rfl h1 g1 h3 g3 (by omega) (by omega) hb9 hm1.1 hm1.2
      · exact ScriptSkips_badb1_mid A c l B d m b times w hr hc hs hd hf hf2 hsm hsm2 n hn em _ _ h4 g hm1.1 hm1.2
      · exact ScriptSkips_badb3_mid A c l B d m b times w hr hc hs hd hf hf2 hsm hsm2 n hn em _ _ h4 g hm1.1 hm1.2
    · exact ScriptSkips_bad1_mid A c l B d m b times w hr hc hs hd hf hf2 hsm hsm2 n hn em _ _ _ h rfl hm1.1 hm1.2
    · exact ScriptSkips_bad3_mid A c l B d m b times w hr hc hs hd hf hf2 hsm hsm2 n hn em _ _ _ h rfl hm1.1 hm1.2
  by_cases hl1 : b < 1
  · rcases encR_cases l with ⟨h1, h2, h3, h4⟩ | h | h
    · rcases encR_cases m with ⟨g1, g2, g3, g4⟩ | g | g
      · by_cases hov : (encL l).length + (encL m).length + 3 * n > 65536
        · exact ScriptSkips_over_low A c l B d m b times w hr hc hs hd hf hf2 hsm hsm2 n hn em _ _ h4 g4 h3 g3 hov hl1
        · by_cases hmn : l.length + m.length > 4096
          · exact ScriptSkips_many_low A c l B d m b times w hr hc hs hd hf hf2 hsm hsm2 n hn em _ _ h4 g4 h3 g3 (by omega) hmn hl1
          · exact ScriptSkips_main_low A c l B d m b times w hr hc hs hd hf hf2 hsm hsm2 n hn em _ _ h4 g4 rfl rfl h1 g1 h3 g3 (by omega) (by omega) hb9 hl1
      · exact ScriptSkips_badb1_low A c l B d m b times w hr hc hs hd hf hf2 hsm hsm2 n hn em _ _ h4 g hl1
      · exact ScriptSkips_badb3_low A c l B d m b times w hr hc hs hd hf hf2 hsm hsm2 n hn em _ _ h4 g hl1
    · exact ScriptSkips_bad1_low A c l B d m b times w hr hc hs hd hf hf2 hsm hsm2 n hn em _ _ _ h rfl hl1
    · exact ScriptSkips_bad3_low A c l B d m b times w hr hc hs hd hf hf2 hsm hsm2 n hn em _ _ _ h rfl hl1
  have hh1 : 8 < b := by omega
  rcases encR_cases l with ⟨h1, h2, h3, h4⟩ | h | h
  · rcases encR_cases m with ⟨g1, g2, g3, g4⟩ | g | g
    · by_cases hov : (encL l).length + (encL m).length + 3 * n > 65536
      · exact ScriptSkips_over_high A c l B d m b times w hr hc hs hd hf hf2 hsm hsm2 n hn em _ _ h4 g4 h3 g3 hov hh1
      · by_cases hmn : l.length + m.length > 4096
        · exact ScriptSkips_many_high A c l B d m b times w hr hc hs hd hf hf2 hsm hsm2 n hn em _ _ h4 g4 h3 g3 (by omega) hmn hh1
        · exact ScriptSkips_main_high A c l B d m b times w hr hc hs hd hf hf2 hsm hsm2 n hn em _ _ h4 g4 rfl rfl h1 g1 h3 g3 (by omega) (by omega) hb9 hh1
    · exact ScriptSkips_badb1_high A c l B d m b times w hr hc hs hd hf hf2 hsm hsm2 n hn em _ _ h4 g hh1
    · exact ScriptSkips_badb3_high A c l B d m b times w hr hc hs hd hf hf2 hsm hsm2 n hn em _ _ h4 g hh1
  · exact ScriptSkips_bad1_high A c l B d m b times w hr hc hs hd hf hf2 hsm hsm2 n hn em _ _ _ h rfl hh1
  · exact ScriptSkips_bad3_high A c l B d m b times w hr hc hs hd hf hf2 hsm hsm2 n hn em _ _ _ h rfl hh1
end Go.Proofs.Ytapkoiaeghjpdaa.PScriptWrites
