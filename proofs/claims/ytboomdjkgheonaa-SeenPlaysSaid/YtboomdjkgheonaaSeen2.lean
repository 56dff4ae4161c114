/- Items that were seen (package seen): the table; Ask. -/
import Derived.Test.YtboomdjkgheonaaSeen1
namespace Go.Proofs.Ytboomdjkgheonaa.PSeenPlays
open Go.RowKit Go.Proofs.YtboomdjkgheonaaW.PrintWords Go.Proofs.YtboomdjkgheonaaW.PrintLast Go.Proofs.YtboomdjkgheonaaW.PrintMore
open Go.Proofs.YtboomdjkgheonaaO
attribute [local go_sem] max2_int min2_int max_two min_two max_three min_three max_four min_four
set_option linter.unusedVariables false
set_option linter.unusedSimpArgs false
def sCells (lo : Nat → Int) (b0 b1 b2 b3 : Nat) : Array Value := #[.int .i64 (lo 0), .int .i64 (lo 1), .int .i64 (lo 2), .int .i64 (lo 3), .map (some b0), .map (some b1), .map (some b2), .map (some b3)]
/-- A table: four low marks, four maps of codes. -/
def SeenA (g N : Nat) (lo : Nat → Int) (co : Nat → Int → Option Int) : Asn := ex fun b0 : Nat => ex fun b1 : Nat => ex fun b2 : Nat => ex fun b3 : Nat => star (Blk g (.cells (sCells lo b0 b1 b2 b3) 60 (0, 0))) (star (IntM b0 N (co 0)) (star (IntM b1 N (co 1)) (star (IntM b2 N (co 2)) (IntM b3 N (co 3)))))
section
variable {w0 w w' : World} {R : List Asn} {g N : Nat} {lo : Nat → Int} {co : Nat → Int → Option Int}
theorem seen_open (h : Own w0 w (SeenA g N lo co :: R)) : ∃ b0 b1 b2 b3 : Nat, Own w0 w (Blk g (.cells #[.int .i64 (lo 0), .int .i64 (lo 1), .int .i64 (lo 2), .int .i64 (lo 3), .map (some b0), .map (some b1), .map (some b2), .map (some b3)] 60 (0, 0)) :: IntM b0 N (co 0) :: IntM b1 N (co 1) :: IntM b2 N (co 2) :: IntM b3 N (co 3) :: R) := by
  obtain ⟨b0, h⟩ := h.ex_out
  obtain ⟨b1, h⟩ := h.ex_out
  obtain ⟨b2, h⟩ := h.ex_out
  obtain ⟨b3, h⟩ := h.ex_out
  refine ⟨b0, b1, b2, b3, ?_⟩
  exact h.split.r1.split.r1.split.r1.split.r2.r3.r4
theorem seen_shut {b0 b1 b2 b3 : Nat} (h : Own w0 w (Blk g (.cells #[.int .i64 (lo 0), .int .i64 (lo 1), .int .i64 (lo 2), .int .i64 (lo 3), .map (some b0), .map (some b1), .map (some b2), .map (some b3)] 60 (0, 0)) :: IntM b0 N (co 0) :: IntM b1 N (co 1) :: IntM b2 N (co 2) :: IntM b3 N (co 3) :: R)) : Own w0 w (SeenA g N lo co :: R) := by
  exact .ex_in b0 (.ex_in b1 (.ex_in b2 (.ex_in b3 h.r4.r4.join.r3.join.r2.join.r1.join)))
/-- What a table answers. -/
def askR (lo : Nat → Int) (co : Nat → Int → Option Int) (src seq low : Int) : Int × Int :=
  if src < 0 ∨ 4 ≤ src ∨ low < 1 ∨ seq < low ∨ 1099511627776 < seq ∨ 16 ≤ seq - low then (0, 0) else if seq < lo src.toNat then (1, 0) else match co src.toNat seq with | some n => (2, n) | none => (3, 0)
theorem ask_ok {lo : Nat → Int} {co : Nat → Int → Option Int} {n : Nat} {seq low : Int} (hb : ¬ ((n : Int) < 0 ∨ 4 ≤ (n : Int) ∨ low < 1 ∨ seq < low ∨ 1099511627776 < seq ∨ 16 ≤ seq - low)) : askR lo co (n : Int) seq low = ((if seq < lo n then (1, 0) else match co n seq with | some n => (2, n) | none => (3, 0)) : Int × Int) := by
  unfold askR
  rw [if_neg hb, Int.toNat_natCast]
theorem mapNil (w : World) (b : Nat) : (binOp .eql 42 (.map (some b)) (.map none)).run Try.prog w = .ok (.bool false) w := by
  have hq : ∀ d : Nat, (Op.equalIn (d + 1) 42 (.map (some b)) (.map none)).run Try.prog w = .ok false w := fun d => by
    simp [Op.equalIn, run_underlying Try.underlying42]
  simp only [binOp]
  simp [show Op.equal 42 (.map (some b)) (.map none) = Op.equalIn (9999 + 1) 42 (.map (some b)) (.map none) from rfl, hq 9999]
theorem results_tt {P : Program} {fn : Func} {p q : Tmp} (h : fn.results = #[.tmp p, .tmp q]) (tmps : Array Value) (w : World) (v u : Value) (hp : tmps.getD p undef = v) (hq : tmps.getD q undef = u) : (results fn tmps).run P w = .ok (.tuple #[v, u]) w := by
  have hp' : tmps[p]?.getD undef = v := by simpa using hp
  have hq' : tmps[q]?.getD undef = u := by simpa using hq
  simp [results, h, hp', hq']
theorem SeenAsk_nil (w : World) (src seq low : Int) : Calls Try.prog 9 #[.pointer none, .int .i64 src, .int .i64 seq, .int .i64 low] w fun e w' => e = .returned (.tuple #[.int .i64 0, .int .i64 0]) ∧ w = w' := by
  go_enter Try.func9, Try.ntmps9
  go_wp2
  exact bodyPost_ret (v := .tuple #[.int .i64 0, .int .i64 0]) (results_tt (p := 8) (q := 9) rfl _ _ _ _ rfl rfl) rfl ⟨rfl, rfl⟩
set_option maxHeartbeats 4000000 in
set_option maxRecDepth 100000 in
theorem SeenAsk_bad (h : Own w0 w (SeenA g N lo co :: R)) (src seq low : Int) (hb : src < 0 ∨ 4 ≤ src ∨ low < 1 ∨ seq < low ∨ 1099511627776 < seq ∨ 16 ≤ seq - low) : Calls Try.prog 9 #[.pointer (some ⟨g, 0, none⟩), .int .i64 src, .int .i64 seq, .int .i64 low] w fun e w' => e = .returned (.tuple #[.int .i64 0, .int .i64 0]) ∧ w = w' := by
  obtain ⟨b0, b1, b2, b3, h⟩ := seen_open h
  have z4 := (blk_cell h.at0 4).trans rfl
  have hmn := fun W : World => mapNil W b0
  clear h
  go_enter Try.func9, Try.ntmps9
  by_cases c0 : src < 0
  · have d0a : decide (src < 0) = true := decide_eq_true (by omega)
    clear hb c0
    go_wp2
    refine bodyPost_ret (v := .tuple #[.int .i64 0, .int .i64 0]) (results_tt (p := 8) (q := 9) rfl _ _ _ _ rfl rfl) rfl ⟨rfl, rfl⟩
  · have d0a : decide (src < 0) = false := decide_eq_false (by omega)
    by_cases c1 : 4 ≤ src
    · have d1a : decide (src ≥ 4) = true := decide_eq_true (by omega)
      have d1b : decide (4 ≤ src) = true := decide_eq_true (by omega)
      clear hb c0 c1
      go_wp2
      refine bodyPost_ret (v := .tuple #[.int .i64 0, .int .i64 0]) (results_tt (p := 8) (q := 9) rfl _ _ _ _ rfl rfl) rfl ⟨rfl, rfl⟩
    · have d1a : decide (src ≥ 4) = false := decide_eq_false (by omega)
      have d1b : decide (4 ≤ src) = false := decide_eq_false (by omega)
      by_cases c2 : low < 1
      · have d2a : decide (low < 1) = true := decide_eq_true (by omega)
        clear hb c0 c1 c2
        go_wp2
        refine bodyPost_ret (v := .tuple #[.int .i64 0, .int .i64 0]) (results_tt (p := 8) (q := 9) rfl _ _ _ _ rfl rfl) rfl ⟨rfl, rfl⟩
      · have d2a : decide (low < 1) = false := decide_eq_false (by omega)
        by_cases c3 : seq < low
        · have d3a : decide (low > seq) = true := decide_eq_true (by omega)
          have d3b : decide (seq < low) = true := decide_eq_true (by omega)
          clear hb c0 c1 c2 c3
          go_wp2
          refine bodyPost_ret (v := .tuple #[.int .i64 0, .int .i64 0]) (results_tt (p := 8) (q := 9) rfl _ _ _ _ rfl rfl) rfl ⟨rfl, rfl⟩
        · have d3a : decide (low > seq) = false := decide_eq_false (by omega)
          have d3b : decide (seq < low) = false := decide_eq_false (by omega)
          by_cases c4 : 1099511627776 < seq
          · have d4a : decide (seq > 1099511627776) = true := decide_eq_true (by omega)
            have d4b : decide (1099511627776 < seq) = true := decide_eq_true (by omega)
            clear hb c0 c1 c2 c3 c4
            go_wp2
            refine bodyPost_ret (v := .tuple #[.int .i64 0, .int .i64 0]) (results_tt (p := 8) (q := 9) rfl _ _ _ _ rfl rfl) rfl ⟨rfl, rfl⟩
          · have d4a : decide (seq > 1099511627776) = false := decide_eq_false (by omega)
            have d4b : decide (1099511627776 < seq) = false := decide_eq_false (by omega)
            have hw : wrap64 (seq - low) = seq - low := by unfold wrap64; omega
            by_cases c5 : 16 ≤ seq - low
            · have d5a : decide (seq - low ≥ 16) = true := decide_eq_true (by omega)
              have d5b : decide (16 ≤ seq - low) = true := decide_eq_true (by omega)
              clear hb c0 c1 c2 c3 c4 c5
              go_wp2
              refine bodyPost_ret (v := .tuple #[.int .i64 0, .int .i64 0]) (results_tt (p := 8) (q := 9) rfl _ _ _ _ rfl rfl) rfl ⟨rfl, rfl⟩
            · exact absurd hb (by omega)
set_option maxHeartbeats 4000000 in
set_option maxRecDepth 100000 in
theorem SeenAsk_good (h : Own w0 w (SeenA g N lo co :: R)) (n : Nat) (hn : n < 4) (src seq low : Int) (hsn : src = n) (hb : ¬ (src < 0 ∨ 4 ≤ src ∨ low < 1 ∨ seq < low ∨ 1099511627776 < seq ∨ 16 ≤ seq - low)) (hq : wfI seq) : Calls Try.prog 9 #[.pointer (some ⟨g, 0, none⟩), .int .i64 src, .int .i64 seq, .int .i64 low] w fun e w' => e = .returned (.tuple #[.int .i64 (askR lo co src seq low).1, .int .i64 (askR lo co src seq low).2]) ∧ w = w' := by
  obtain ⟨b0, b1, b2, b3, h⟩ := seen_open h
  have H := Aside0.mk h
  have HQ := Aside0.mk hq
  have z4 := (blk_cell h.at0 4).trans rfl
  have hmn := fun W : World => mapNil W b0
  have hw : wrap64 (seq - low) = seq - low := by unfold wrap64; omega
  have d0a : decide (src < 0) = false := decide_eq_false (by omega)
  have d1a : decide (src ≥ 4) = false := decide_eq_false (by omega)
  have d1b : decide (4 ≤ src) = false := decide_eq_false (by omega)
  have d2a : decide (low < 1) = false := decide_eq_false (by omega)
  have d3a : decide (low > seq) = false := decide_eq_false (by omega)
  have d3b : decide (seq < low) = false := decide_eq_false (by omega)
  have d4a : decide (seq > 1099511627776) = false := decide_eq_false (by omega)
  have d4b : decide (1099511627776 < seq) = false := decide_eq_false (by omega)
  have d5a : decide (seq - low ≥ 16) = false := decide_eq_false (by omega)
  have d5b : decide (16 ≤ seq - low) = false := decide_eq_false (by omega)
  subst hsn
  have HNB := Aside0.mk hb
  clear h hq hb
  go_enter Try.func9, Try.ntmps9
  rcases n with _ | _ | _ | _ | n
  · have z0 := (blk_cell H.out.at0 0).trans rfl
    have hlk := int_look_ok H.out.r1 seq HQ.out
    by_cases hs : seq < lo 0
    · have e1 : decide (seq < lo 0) = true := decide_eq_true hs
      have HA := Aside0.mk (show askR lo co (0 : Nat) seq low = (1, 0) from (ask_ok HNB.out).trans (if_pos hs))
      clear hs
      go_wp2
      refine bodyPost_ret (v := .tuple #[.int .i64 1, .int .i64 0]) (results_tt (p := 8) (q := 9) rfl _ _ _ _ rfl rfl) rfl ⟨by rw [HA.out], rfl⟩
    · have e1 : decide (seq < lo 0) = false := decide_eq_false hs
      cases hc : co 0 seq with
      | none =>
        have HA := Aside0.mk (show askR lo co (0 : Nat) seq low = (3, 0) from (ask_ok HNB.out).trans ((if_neg hs).trans (by rw [hc])))
        rw [hc] at hlk
        have hlk : (Instr.lookup 42 (.map (some b0)) (.int .i64 seq) true).run Try.prog w = .ok (.tuple #[.int .i64 0, .bool false]) w := hlk
        clear hs hc
        go_wp2
        refine bodyPost_ret (v := .tuple #[.int .i64 3, .int .i64 0]) (results_tt (p := 8) (q := 9) rfl _ _ _ _ rfl rfl) rfl ⟨by rw [HA.out], rfl⟩
      | some n =>
        have HA := Aside0.mk (show askR lo co (0 : Nat) seq low = (2, n) from (ask_ok HNB.out).trans ((if_neg hs).trans (by rw [hc])))
        rw [hc] at hlk
        have hlk : (Instr.lookup 42 (.map (some b0)) (.int .i64 seq) true).run Try.prog w = .ok (.tuple #[.int .i64 n, .bool true]) w := hlk
        clear hs hc
        go_wp2
        refine bodyPost_ret (v := .tuple #[.int .i64 2, .int .i64 n]) (results_tt (p := 8) (q := 9) rfl _ _ _ _ rfl rfl) rfl ⟨by rw [HA.out], rfl⟩
  · have z5 := (blk_cell H.out.at0 5).trans rfl
    have z1 := (blk_cell H.out.at0 1).trans rfl
    have hlk := int_look_ok H.out.r2 seq HQ.out
    by_cases hs : seq < lo 1
    · have e1 : decide (seq < lo 1) = true := decide_eq_true hs
      have HA := Aside0.mk (show askR lo co (1 : Nat) seq low = (1, 0) from (ask_ok HNB.out).trans (if_pos hs))
      clear hs
      go_wp2
      refine bodyPost_ret (v := .tuple #[.int .i64 1, .int .i64 0]) (results_tt (p := 8) (q := 9) rfl _ _ _ _ rfl rfl) rfl ⟨by rw [HA.out], rfl⟩
    · have e1 : decide (seq < lo 1) = false := decide_eq_false hs
      cases hc : co 1 seq with
      | none =>
        have HA := Aside0.mk (show askR lo co (1 : Nat) seq low = (3, 0) from (ask_ok HNB.out).trans ((if_neg hs).trans (by rw [hc])))
        rw [hc] at hlk
        have hlk : (Instr.lookup 42 (.map (some b1)) (.int .i64 seq) true).run Try.prog w = .ok (.tuple #[.int .i64 0, .bool false]) w := hlk
        clear hs hc
        go_wp2
        refine bodyPost_ret (v := .tuple #[.int .i64 3, .int .i64 0]) (results_tt (p := 8) (q := 9) rfl _ _ _ _ rfl rfl) rfl ⟨by rw [HA.out], rfl⟩
      | some n =>
        have HA := Aside0.mk (show askR lo co (1 : Nat) seq low = (2, n) from (ask_ok HNB.out).trans ((if_neg hs).trans (by rw [hc])))
        rw [hc] at hlk
        have hlk : (Instr.lookup 42 (.map (some b1)) (.int .i64 seq) true).run Try.prog w = .ok (.tuple #[.int .i64 n, .bool true]) w := hlk
        clear hs hc
        go_wp2
        refine bodyPost_ret (v := .tuple #[.int .i64 2, .int .i64 n]) (results_tt (p := 8) (q := 9) rfl _ _ _ _ rfl rfl) rfl ⟨by rw [HA.out], rfl⟩
  · have z6 := (blk_cell H.out.at0 6).trans rfl
    have z2 := (blk_cell H.out.at0 2).trans rfl
    have hlk := int_look_ok H.out.r3 seq HQ.out
    by_cases hs : seq < lo 2
    · have e1 : decide (seq < lo 2) = true := decide_eq_true hs
      have HA := Aside0.mk (show askR lo co (2 : Nat) seq low = (1, 0) from (ask_ok HNB.out).trans (if_pos hs))
      clear hs
      go_wp2
      refine bodyPost_ret (v := .tuple #[.int .i64 1, .int .i64 0]) (results_tt (p := 8) (q := 9) rfl _ _ _ _ rfl rfl) rfl ⟨by rw [HA.out], rfl⟩
    · have e1 : decide (seq < lo 2) = false := decide_eq_false hs
      cases hc : co 2 seq with
      | none =>
        have HA := Aside0.mk (show askR lo co (2 : Nat) seq low = (3, 0) from (ask_ok HNB.out).trans ((if_neg hs).trans (by rw [hc])))
        rw [hc] at hlk
        have hlk : (Instr.lookup 42 (.map (some b2)) (.int .i64 seq) true).run Try.prog w = .ok (.tuple #[.int .i64 0, .bool false]) w := hlk
        clear hs hc
        go_wp2
        refine bodyPost_ret (v := .tuple #[.int .i64 3, .int .i64 0]) (results_tt (p := 8) (q := 9) rfl _ _ _ _ rfl rfl) rfl ⟨by rw [HA.out], rfl⟩
      | some n =>
        have HA := Aside0.mk (show askR lo co (2 : Nat) seq low = (2, n) from (ask_ok HNB.out).trans ((if_neg hs).trans (by rw [hc])))
        rw [hc] at hlk
        have hlk : (Instr.lookup 42 (.map (some b2)) (.int .i64 seq) true).run Try.prog w = .ok (.tuple #[.int .i64 n, .bool true]) w := hlk
        clear hs hc
        go_wp2
        refine bodyPost_ret (v := .tuple #[.int .i64 2, .int .i64 n]) (results_tt (p := 8) (q := 9) rfl _ _ _ _ rfl rfl) rfl ⟨by rw [HA.out], rfl⟩
  · have z7 := (blk_cell H.out.at0 7).trans rfl
    have z3 := (blk_cell H.out.at0 3).trans rfl
    have hlk := int_look_ok H.out.r4 seq HQ.out
    by_cases hs : seq < lo 3
    · have e1 : decide (seq < lo 3) = true := decide_eq_true hs
      have HA := Aside0.mk (show askR lo co (3 : Nat) seq low = (1, 0) from (ask_ok HNB.out).trans (if_pos hs))
      clear hs
      go_wp2
      refine bodyPost_ret (v := .tuple #[.int .i64 1, .int .i64 0]) (results_tt (p := 8) (q := 9) rfl _ _ _ _ rfl rfl) rfl ⟨by rw [HA.out], rfl⟩
    · have e1 : decide (seq < lo 3) = false := decide_eq_false hs
      cases hc : co 3 seq with
      | none =>
        have HA := Aside0.mk (show askR lo co (3 : Nat) seq low = (3, 0) from (ask_ok HNB.out).trans ((if_neg hs).trans (by rw [hc])))
        rw [hc] at hlk
        have hlk : (Instr.lookup 42 (.map (some b3)) (.int .i64 seq) true).run Try.prog w = .ok (.tuple #[.int .i64 0, .bool false]) w := hlk
        clear hs hc
        go_wp2
        refine bodyPost_ret (v := .tuple #[.int .i64 3, .int .i64 0]) (results_tt (p := 8) (q := 9) rfl _ _ _ _ rfl rfl) rfl ⟨by rw [HA.out], rfl⟩
      | some n =>
        have HA := Aside0.mk (show askR lo co (3 : Nat) seq low = (2, n) from (ask_ok HNB.out).trans ((if_neg hs).trans (by rw [hc])))
        rw [hc] at hlk
        have hlk : (Instr.lookup 42 (.map (some b3)) (.int .i64 seq) true).run Try.prog w = .ok (.tuple #[.int .i64 n, .bool true]) w := hlk
        clear hs hc
        go_wp2
        refine bodyPost_ret (v := .tuple #[.int .i64 2, .int .i64 n]) (results_tt (p := 8) (q := 9) rfl _ _ _ _ rfl rfl) rfl ⟨by rw [HA.out], rfl⟩
  · omega
end
end Go.Proofs.Ytboomdjkgheonaa.PSeenPlays
