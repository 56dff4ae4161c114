/- The law ScriptReads, walked. -/
import Derived.Test.YtapkoiaeghjpdaaScr17
import Derived.Test.YtapkoiaeghjpdaaRefB
namespace Go.Proofs.Ytapkoiaeghjpdaa.PScriptWrites
open Go.RowKit Go.Proofs.YtapkoiaeghjpdaaW.PrintWords Go.Proofs.YtapkoiaeghjpdaaW.PrintLast Go.Proofs.YtapkoiaeghjpdaaW.PrintMore
open Go.Proofs.YtapkoiaeghjpdaaO
attribute [local go_sem] max2_int min2_int max_two min_two max_three min_three max_four min_four
set_option linter.unusedVariables false
set_option linter.unusedSimpArgs false
theorem own_C {w0 w : World} {R : List Asn} {α : Type} {d : Kd α} {A : Option Addr} {n c : Nat} {l : List α} {e : TypeId} (h : Own w0 w (Row d e (.slice A n c) l :: R)) : d.C w A n l := by
  obtain ⟨h1, _, h3⟩ := own_reads h
  rw [h1]
  exact h3
theorem rg_of {b : List Int} (h : ∀ x ∈ b, (Lit.int .u8 x).wf = true) : rg b := fun x hx => by
  have := h x hx
  simp [Lit.wf, IntKind.min, IntKind.max, IntKind.signed, IntKind.bits] at this
  omega
set_option maxHeartbeats 8000000 in
set_option maxRecDepth 100000 in
theorem ScriptReads_long (B : Option Addr) (d : Nat) (b : List Int) (w : World) (hs : Kd.C (Kd.int .u8) w B b.length b) (hd : b.length ≤ d) (hg : b.length > 70000) :
    Calls Try.prog 3 #[.slice B b.length d] w fun e w' => e = .returned (.bool true) ∧ Below w.heap.size w w' := by
  have HS := Aside0.mk hs
  have HD := Aside0.mk hd
  have H0 := Aside0.mk (Own.nil w)
  have d1 : decide ((b.length : Int) > 70000) = true := decide_eq_true (by omega)
  have d1' : decide (70000 < (b.length : Int)) = true := decide_eq_true (by omega)
  have d1'' : decide (70000 < b.length) = true := decide_eq_true (by omega)
  clear hs hd hg
  go_enter Try.func3, Try.ntmps3
  go_wp2_with (first
    | (go_at_call 10; ((with_reducible refine (awake_calls H0.out).mono ?_)); rintro e w1 ⟨rfl, h⟩; have H1 := Aside0.mk h; clear h))
  go_ret
  exact ⟨rfl, H1.out.bel⟩
set_option maxHeartbeats 8000000 in
set_option maxRecDepth 100000 in
theorem ScriptReads_main (B : Option Addr) (d : Nat) (b : List Int) (w : World) (hs : Kd.C (Kd.int .u8) w B b.length b) (hd : b.length ≤ d) (hb : b.length ≤ 70000) (hg : rg b) :
    Calls Try.prog 3 #[.slice B b.length d] w fun e w' => e = .returned (.bool true) ∧ Below w.heap.size w w' := by
  have HS := Aside0.mk hs
  have HD := Aside0.mk hd
  have H0 := Aside0.mk (Own.nil w)
  have d1 : decide ((b.length : Int) > 70000) = false := decide_eq_false (by omega)
  have d1' : decide (70000 < (b.length : Int)) = false := decide_eq_false (by omega)
  have d1'' : decide (70000 < b.length) = false := decide_eq_false (by omega)
  have HG := Aside0.mk hg
  have HL := Aside0.mk (show ([] : List Int).length + b.length ≤ 1000000000 by simp; omega)
  obtain ⟨l, hl⟩ : ∃ l, decR b = l := ⟨_, rfl⟩
  have HLL := Aside0.mk (show l.length ≤ 1000000 by have := decR_len b; rw [hl] at this; omega)
  have HDL := Aside0.mk hl
  obtain ⟨S, hS⟩ : ∃ S, strOfNums b = S := ⟨_, rfl⟩
  have HSZ := Aside0.mk (show S.size < 1000000 by rw [← hS, size_strOf]; omega)
  have HDS := Aside0.mk (show decR (bytesOf S) = l by rw [← hS, bytes_strOf b hg]; exact hl)
  have HSB := Aside0.mk hS
  clear hs hd hg hl hS
  go_enter Try.func3, Try.ntmps3
  go_wp2_with (first
    | (go_at_call 10; ((with_reducible refine (awake_calls H0.out).mono ?_)); rintro e w1 ⟨rfl, h⟩; have H1 := Aside0.mk h; clear h)
    | ((with_reducible refine gate_dst (N := 12) rfl ?_); refine own_append_b rfl (.tmp 10) (.tmp 11) rfl (.slice (some ⟨w1.heap.size, 0, none⟩) 0 0) [] b B b.length d rfl rfl (row_lit0 H1.out (Kd.int .u8) 5) (C_of_own (row_lit0 H1.out (Kd.int .u8) 5) HS.out) HL.out ?_; intro A2 c2 w2 h; rw [List.nil_append] at h; rw [List.nil_append]; have H2 := Aside0.mk h; clear h)
    | (go_at_call 11; ((with_reducible refine (DecodeB H2.out A2 c2 b (own_reads H2.out).2.2 (own_reads H2.out).2.1 HG.out l HDL.out).mono ?_)); rintro e w3 ⟨A3, c3, rfl, h⟩; have kb3 := Kd.C_string (P := Try.prog) (c := d) Try.underlying22 Try.underlying5 Try.underlying9 (C_of_own h HS.out); rw [HSB.out] at kb3; have H3 := Aside0.mk h; clear h)
    | (go_at_call 13; ((with_reducible refine (refDecodeF H3.out S HSZ.out l HDS.out).mono ?_)); rintro e w4 ⟨A4, c4, rfl, h⟩; have H4 := Aside0.mk h; clear h kb3)
    | (go_at_call 12; ((with_reducible refine (same_calls H4.out A3 A4 _ _ c3 c4 l rfl rfl (own_reads H4.out.r1).2.2 (own_reads H4.out).2.2 (own_reads H4.out.r1).2.1 (own_reads H4.out).2.1 HLL.out).mono ?_)); rintro e w5 ⟨rfl, h⟩; have kb5 := Kd.C_string (P := Try.prog) (c := d) Try.underlying22 Try.underlying5 Try.underlying9 (C_of_own h HS.out); have ko5 := Kd.C_string (P := Try.prog) (c := c2) Try.underlying22 Try.underlying5 Try.underlying9 (own_C h.r2); rw [HSB.out] at kb5 ko5; have H5 := Aside0.mk h; clear h))
  go_ret
  exact ⟨rfl, H5.out.bel⟩
theorem ScriptReads_law (B : Option Addr) (d : Nat) (b : List Int) (w : World) (hs : Kd.C (Kd.int .u8) w B b.length b) (hd : b.length ≤ d) (hq : b.length ≤ 9223372036854775807 ∧ ∀ x ∈ b, (Lit.int .u8 x).wf = true) :
    Calls Try.prog 3 #[.slice B b.length d] w fun e w' => e = .returned (.bool true) ∧ Below w.heap.size w w' := by
  by_cases hb : b.length > 70000
  · exact ScriptReads_long B d b w hs hd hb
  · exact ScriptReads_main B d b w hs hd (by omega) (rg_of hq.2)
end Go.Proofs.Ytapkoiaeghjpdaa.PScriptWrites
