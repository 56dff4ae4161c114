/- Acts as bytes (package script): the laws' steps. -/
import Derived.Test.YtapkoiaeghjpdaaScr16
import Derived.Test.YtapkoiaeghjpdaaScr10
namespace Go.Proofs.Ytapkoiaeghjpdaa.PScriptWrites
open Go.RowKit Go.Proofs.YtapkoiaeghjpdaaW.PrintWords Go.Proofs.YtapkoiaeghjpdaaW.PrintLast Go.Proofs.YtapkoiaeghjpdaaW.PrintMore
open Go.Proofs.YtapkoiaeghjpdaaO
attribute [local go_sem] max2_int min2_int max_two min_two max_three min_three max_four min_four
set_option linter.unusedVariables false
set_option linter.unusedSimpArgs false
theorem reads_all : ReadsF := fun _ _ _ _ h hs a m b hr => readF h hs a m b hr
section
variable {w0 w w' : World} {R L : List Asn}
theorem DecodeB (h : Own w0 w R) (A : Option Addr) (c : Nat) (l : List Int) (hr : Kd.C (Kd.int .u8) w A l.length l) (hc : l.length ≤ c) (hg : rg l) (dl : List ActS) (hd : decR l = dl) :
    Calls Try.prog 11 #[.slice A l.length c] w fun e w' => ∃ A' c', e = .returned (.slice A' dl.length c') ∧ Own w0 w' (Row k33 33 (.slice A' dl.length c') dl :: R) := DecodeX reads_all h A c l hr hc hg dl hd
theorem awake_calls (h : Own w0 w R) : Calls Try.prog 10 #[] w fun e w' => e = .returned (.bool true) ∧ Own w0 w' R := awakeX reads_all h
theorem own_reads {α : Type} {d : Kd α} {A : Option Addr} {n c : Nat} {l : List α} {e : TypeId} (h : Own w0 w (Row d e (.slice A n c) l :: R)) : n = l.length ∧ l.length ≤ c ∧ d.C w A l.length l := by
  obtain ⟨A2, c2, e2, h1, hC⟩ := h.row_reads
  cases e2
  exact ⟨rfl, h1, hC⟩
/-- An empty literal is an empty row. -/
theorem row_lit0 {α : Type} (h : Own w0 w L) (d : Kd α) (e : Nat) : Own w0 (w.alloc (.cells #[] e (0, 0))) (Row d e (.slice (some ⟨w.heap.size, 0, none⟩) 0 0) [] :: L) := by
  have h2 := h.alloc (.cells #[] e (0, 0))
  have hgb := (h2.get 0 rfl).2
  refine h2.step fun F hF hB => ⟨rfl, rfl, rfl, Nat.le_refl _, fun k _ _ => rfl, F, ⟨⟨fun k hk => ?_, [], ?_, ?_⟩, fun k hk => by rw [(hF.2 k).1 hk]; exact blk_lt hF.1⟩, fun k hk => .inl hk⟩
  · have : w.heap.size = k := by simpa [Value.ownBlock] using hk
    exact (hF.2 k).2 this.symm
  · exact ⟨by simp, .inr ⟨w.heap.size, 0, #[], rfl, hgb, hF.1, Nat.le_refl _, by decide, by simp, by simp⟩⟩
  · exact Reps.none _ _
theorem cut_acts_from {A : Option Addr} {n c : Nat} {l : List ActS} (hr : Kd.C k33 w A n l) (hc : n ≤ c) (m : Nat) (hm : m ≤ n) : ∃ A2, (∀ W : World, (Instr.slice 24 (.slice A n c) (some (.int .i64 (m : Int))) none none).run Try.prog W = .ok (.slice A2 (n - m) (c - m)) W) ∧ Kd.C k33 w A2 (l.drop m).length (l.drop m) := by
  have hl : l.length = n := hr.1
  subst hl
  obtain ⟨i0, hi, hz⟩ := Option.map_eq_some_iff.1 infoAct
  have hsz : i0.size = 6 := by
    have := congrArg (fun p => p.2.1) hz
    exact this
  have h1 := cut_from (P := Try.prog) 24 33 .i64 Try.underlying24 hi 6 hsz A l.length c (m : Int) (by omega) (by omega)
  rw [Int.toNat_natCast] at h1
  exact ⟨_, h1, Kd.C_drop hr hm hc⟩
theorem cut_act {A : Option Addr} {n c : Nat} {l : List ActS} (hr : Kd.C k33 w A n l) (hc : n ≤ c) (i : Nat) (x : ActS) (hx : l[i]? = some x) : ∃ A2, (∀ W : World, (Instr.slice 24 (.slice A n c) (some (.int .i64 (i : Int))) (some (.int .i64 ((i : Int) + 1))) none).run Try.prog W = .ok (.slice A2 1 (c - i)) W) ∧ Kd.C k33 w A2 [x].length [x] := by
  have hl : l.length = n := hr.1
  subst hl
  obtain ⟨hil, he⟩ := List.getElem?_eq_some_iff.1 hx
  obtain ⟨i0, hi, hz⟩ := Option.map_eq_some_iff.1 infoAct
  have hsz : i0.size = 6 := by
    have := congrArg (fun p => p.2.1) hz
    exact this
  have h1 := cut_mid (P := Try.prog) 24 33 .i64 .i64 Try.underlying24 hi 6 hsz A l.length c (i : Int) ((i : Int) + 1) (by omega) (by omega) (by omega) hc
  rw [Int.toNat_natCast, show ((i : Int) + 1).toNat - i = 1 by omega] at h1
  have h2 := Kd.C_mid hr (lo := i) (hi := i + 1) (by omega) (by omega) hc
  rw [List.take_succ_eq_append_getElem hil, he, List.drop_append, List.drop_of_length_le (by rw [List.length_take]; omega), List.length_take, Nat.min_eq_left (by omega), Nat.sub_self] at h2
  exact ⟨_, h1, h2⟩
end
section
variable {P : Program} {ops : Array Oper} {rest : List Oper} {o : Oper} {a : Act} {Q : Exit → Act → World → Prop}
/-- append(v, ys...) of bytes. -/
theorem own_append_b {w0 W : World} {L : List Asn} (hgd : o.guard = none) (s x : Operand) (ho : o.op = .call { callee := .builtin .append, args := #[s, x], argTypes := #[22, 22] })
    (v : Value) (xs ys : List Int) (A : Option Addr) (m c : Nat) (hs : a.eval s = v) (hx : a.eval x = .slice A m c)
    (h : Own w0 W (Row (Kd.int .u8) 5 v xs :: L)) (hC : Kd.C (Kd.int .u8) W A m ys) (hl : xs.length + m ≤ 1000000000)
    (hK : ∀ A' c' w1, Own w0 w1 (Row (Kd.int .u8) 5 (.slice A' (xs ++ ys).length c') (xs ++ ys) :: L) → wpList Try.prog ops Q rest (a.put o.dst (.slice A' (xs ++ ys).length c')) w1) :
    wpList Try.prog ops Q (o :: rest) a W := by
  obtain ⟨F, h1, h2, h3⟩ := h.open1
  refine Kd.R_append_rows (Kd.int .u8) (w0 := w0) w0.heap.size hgd s x 22 5 _ 1 ho Try.underlying22 info5 rfl (by decide) (by omega) v xs ys A m c (fun k => F k ∨ W.heap.size ≤ k) (fun _ => False) hs hx (Kd.R_mono h1.1 fun k hk => .inl hk) hC (fun p cs hp => hp) (fun _ hk => hk.elim) (fun k hk => .inr hk) h.bel h.bel.size (by omega) ?_
  intro v1 w1 hr hb hg hat
  obtain ⟨A', c', e1⟩ := Kd.R_slice hr
  subst e1
  exact hK A' c' w1 (h3 w1 _ ⟨hg.os, hg.tape, hg.output, hg.size, fun k hk hn => hg.block k hk (fun e => hn (h1.1.1 k e.symm)), _, ⟨Kd.R_bound hr, fun k hk => hk.2.2.1⟩, fun k hk => hk.1⟩)
end
/-- same's two rows: a drawn call changes nothing; so a cut row is read behind it too. -/
theorem same_keeps {w0 w : World} {L : List Asn} (h : Own w0 w L) (A1 A2 : Option Addr) (n1 n2 c1 c2 : Nat) (l : List ActS) (hn1 : n1 = l.length) (hn2 : n2 = l.length) (h1 : Kd.C k33 w A1 l.length l) (h2 : Kd.C k33 w A2 l.length l) (k1 : l.length ≤ c1) (k2 : l.length ≤ c2) (hl : l.length ≤ 1000000) :
    Calls Try.prog 12 #[.slice A1 n1 c1, .slice A2 n2 c2] w fun e w' => e = .returned (.bool true) ∧ Own w0 w' L ∧ Below w.heap.size w w' := by
  subst hn1 hn2
  exact (meterlaw27_same.calls (l.length + 1) A1 c1 l A2 c2 l true w h1 k1 h2 k2 (same_f l (by omega))).mono fun e w' ⟨he, hb⟩ => ⟨he, h.drawn hb, hb.below⟩
end Go.Proofs.Ytapkoiaeghjpdaa.PScriptWrites
