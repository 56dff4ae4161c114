/- Acts as bytes (package script): Right, and a text appended to a row of bytes. -/
import Derived.Test.YtapkoiaeghjpdaaScr7
import Derived.Test.YtapkoiaeghjpdaaPack5
namespace Go.Proofs.Ytapkoiaeghjpdaa.PScriptWrites
open Go.RowKit Go.Proofs.YtapkoiaeghjpdaaW.PrintWords Go.Proofs.YtapkoiaeghjpdaaW.PrintLast Go.Proofs.YtapkoiaeghjpdaaW.PrintMore
open Go.Proofs.YtapkoiaeghjpdaaO
attribute [local go_sem] max2_int min2_int max_two min_two max_three min_three max_four min_four
set_option linter.unusedVariables false
set_option linter.unusedSimpArgs false
section
variable {w0 w w' : World} {R : List Asn}
set_option maxHeartbeats 4000000 in
theorem RightF (h : Own w0 w R) (f0 f1 f2 : Int) (f3 : ByteArray) (f4 f5 : Int) (hx4 : -(2^63) ≤ f4 ∧ f4 < 2 ^ 63) (hx5 : -(2^63) ≤ f5 ∧ f5 < 2 ^ 63) (hs : f3.size < 1000000) :
    Calls Try.prog 17 #[.agg #[.int .u8 f0, .int .i64 f1, .int .i64 f2, .string f3, .int .i64 f4, .int .i64 f5]] w fun e w' => e = .returned (.bool (okF f0 f1 f2 f3 f4 f5)) ∧ Own w0 w' R := by
  have H := Aside0.mk h
  have HX4 := Aside0.mk hx4
  have HX5 := Aside0.mk hx5
  have HS := Aside0.mk hs
  clear h hx4 hx5 hs
  go_enter Try.func17, Try.ntmps17
  go_wp2_with (go_at_call 21; (first | (with_reducible refine (writeF (H.out.junk _) f0 f1 f2 f3 f4 f5 HX4.out HX5.out HS.out).mono ?_) | (with_reducible refine (writeF H.out.drew f0 f1 f2 f3 f4 f5 HX4.out HX5.out HS.out).mono ?_)); rintro e w1 ⟨⟨s, rfl, _⟩, h⟩; have H1 := Aside0.mk h; clear h)
  go_ret
  exact ⟨rfl, H1.out⟩
end
section
variable {P : Program} {ops : Array Oper} {rest : List Oper} {o : Oper} {a : Act} {Q : Exit → Act → World → Prop}
theorem app_strO {w0 W : World} {L : List Asn} (hgd : o.guard = none) (s x : Operand) (t u : TypeId)
    (ho : o.op = .call { callee := .builtin .append, args := #[s, x], argTypes := #[t, u] })
    (ht : P.underlying t = some (.slice 5)) (hu : P.underlying u = some .string) (hinfo : (P.info? 5).map (fun i => (i.zero, i.size, i.bytes)) = some (some (.int .u8 0), 1, 1))
    (v : Value) (xs : List Int) (y : ByteArray) (hs : a.eval s = v) (hx : a.eval x = .string y)
    (h : Own w0 W (Row (Kd.int .u8) 5 v xs :: L)) (hl : xs.length + y.size ≤ 140737488355328)
    (hK : ∀ A c w1, Own w0 w1 (Row (Kd.int .u8) 5 (.slice A (xs ++ bytesOf y).length c) (xs ++ bytesOf y) :: L) → wpList P ops Q rest (a.put o.dst (.slice A (xs ++ bytesOf y).length c)) w1) :
    wpList P ops Q (o :: rest) a W := by
  obtain ⟨F, h1, h2, h3⟩ := h.open1
  refine app_str (w0 := w0) w0.heap.size hgd s x t u 5 ho ht hu hinfo v xs y hs hx (nums_of_R h1.1) h.bel h.bel.size hl ?_
  intro v1 w1 hr hb hg hat
  have hr2 := R_of_nums (P := fun k => F k ∨ W.heap.size ≤ k) hr (fun k hk => by
    rcases hat with e | ⟨b, e, hb2⟩
    · exact .inl (h1.1.1 k (e ▸ hk))
    · rw [e] at hk; cases hk; exact .inr hb2)
  obtain ⟨A, c, e1⟩ := Kd.R_slice hr2
  subst e1
  refine hK A c w1 (h3 w1 _ ⟨hg.os, hg.tape, hg.output, hg.size, fun k hk hn => hg.block k hk (fun e => hn (h1.1.1 k e.symm)), _, ⟨Kd.R_bound hr2, fun k hk => hk.2.2.1⟩, fun k hk => hk.1⟩)
end
end Go.Proofs.Ytapkoiaeghjpdaa.PScriptWrites
