/- Items that were seen (package seen): one source's codes. -/
import Derived.Test.YtboomdjkgheonaaPSeenPlaysx2
import Derived.Test.YtboomdjkgheonaaOwn
import Derived.Lib.Hide
import Derived.WalkSpells
import Derived.Great.Walk
import Derived.Maps.OwnSet
import Derived.Deep.QuietTactic
import Derived.BigQuiet
import Derived.Deep.RegionWith
import Derived.RegionTactic
namespace Go.Proofs.Ytboomdjkgheonaa.PSeenPlays
open Go.RowKit Go.Proofs.YtboomdjkgheonaaW.PrintWords Go.Proofs.YtboomdjkgheonaaW.PrintLast Go.Proofs.YtboomdjkgheonaaW.PrintMore
open Go.Proofs.YtboomdjkgheonaaO
attribute [local go_sem] max2_int min2_int max_two min_two max_three min_three max_four min_four
set_option linter.unusedVariables false
set_option linter.unusedSimpArgs false
theorem plaw : Maps.Keyed Try.prog 3 := Maps.int_keyed Try.underlying3
def wfI (x : Int) : Prop := (Lit.int .i64 x).wf = true
def keyI (k : Int) : Lit := .int .i64 k
theorem keyI_is (k : Int) : WideAt.IsKeyLit (keyI k) := trivial
theorem keyI_inj {k j : Int} (h : keyI k = keyI j) : k = j := by
  injection h
theorem key_mk {k : Int} (hk : wfI k) : keyOf Try.prog 3 (.int .i64 k) = some (keyI k) := Maps.keyOf_int_mk Try.underlying3 hk
def zI : DataW Unit := .lit (.int .i64 0)
theorem zeroI (w : World) : (zeroValue 3).run Try.prog w = .ok (.int .i64 0) w := by kernel_rfl
structure MapIs (D : DataW Unit) (at' : Int → Option Int) : Prop where
  has : ∀ k, wfI k → Maps.has D (keyI k) = (at' k).isSome
  is : ∀ k, wfI k → D.atKey (keyI k) zI = .lit (.int .i64 ((at' k).getD 0))
  wf : ∀ k, (at' k).isSome = true → wfI k
/-- A map[int]int that has just what `at'` tells. -/
def IntM (b N : Nat) (at' : Int → Option Int) : Asn := ⟨fun _ w F => (∃ D, w.ownsMap Try.prog 3 (plainElem (H := Unit) Try.prog 3) b N D ∧ MapIs D at') ∧ ∀ k, F k ↔ k = b,
  fun ⟨⟨D, h, hc⟩, hF⟩ hm => ⟨⟨D, by obtain ⟨es, clock, hb, r⟩ := h; exact ⟨es, clock, (hm b ((hF b).2 rfl)).trans hb, r⟩, hc⟩, hF⟩,
  fun ⟨⟨D, h, _⟩, hF⟩ k hk => by
    obtain rfl := (hF k).1 hk
    exact h.lt⟩
def updI (at' : Int → Option Int) (k v : Int) : Int → Option Int := fun j => if j = k then some v else at' j
section
variable {w0 w w' : World} {R : List Asn} {b N : Nat} {at' : Int → Option Int}
theorem int_new (h : Own w0 w R) : Own w0 (w.alloc (.map #[] 0)) (IntM w.heap.size 0 (fun _ => none) :: R) := by
  refine h.make (below_alloc (Below.refl _ _) _) ⟨fun k => k = w.heap.size, ⟨⟨.map [], World.ownsMap_made w Try.prog 3 (plainElem (H := Unit) Try.prog 3), ⟨fun k _ => by simp [Maps.has], fun k _ => rfl, fun k hk => by simp at hk⟩⟩, fun k => Iff.rfl⟩, fun k hk => by omega⟩
theorem int_out (h : Own w0 w (IntM b N at' :: R)) : ∃ D, w.ownsMap Try.prog 3 (plainElem (H := Unit) Try.prog 3) b N D ∧ MapIs D at' := by
  obtain ⟨F, ⟨h1, _⟩, _⟩ := h.sat
  exact h1
theorem int_look (h : Own w0 w (IntM b N at' :: R)) (k : Int) (hk : wfI k) : (Instr.lookup 42 (.map (some b)) (.int .i64 k) false).run Try.prog w = .ok (.int .i64 ((at' k).getD 0)) w := by
  obtain ⟨D, ho, hd⟩ := int_out h
  obtain ⟨c, hr, hc, _⟩ := ho.lookup_int plaw Try.underlying42 Try.underlying3 (zeroI w) (key_mk hk)
  have e := (hd.is k hk).symm.trans hc
  injection e with e
  injection e with _ e
  rw [hr, e]
theorem int_look_ok (h : Own w0 w (IntM b N at' :: R)) (k : Int) (hk : wfI k) : (Instr.lookup 42 (.map (some b)) (.int .i64 k) true).run Try.prog w = .ok (.tuple #[.int .i64 ((at' k).getD 0), .bool (at' k).isSome]) w := by
  obtain ⟨D, ho, hd⟩ := int_out h
  have hw0 : (Lit.int .i64 0).wf = true := by decide
  obtain ⟨v, ps, hr, hv⟩ := ho.look_ok plaw Try.underlying42 (zeroI w) (plainElem_int (H := Unit) Try.underlying3 hw0) (key_mk hk)
  obtain ⟨c, rfl, hc, _⟩ := plainElem_int_inv Try.underlying3 hv
  simp only [Prod.mk.injEq] at hc
  have e := (hd.is k hk).symm.trans hc.1
  injection e with e
  injection e with _ e
  have hr' : (Instr.lookup 42 (.map (some b)) (.int .i64 k) true).run Try.prog w = .ok (.tuple #[.int .i64 c, .bool (Maps.has D (keyI k))]) w := hr
  rw [hr', hd.has k hk, e]
theorem int_put (h : Own w0 w (IntM b N at' :: R)) (k v : Int) (hk : wfI k) (hv : wfI v) (hN : N < 1000000000) : ∃ w2, (Instr.mapUpdate 42 (.map (some b)) (.int .i64 k) (.int .i64 v)).run Try.prog w = .ok () w2 ∧ Own w0 w2 (IntM b (N + 1) (updI at' k v) :: R) := by
  obtain ⟨D, ho, hd⟩ := int_out h
  obtain ⟨w2, hr, ho2, ht⟩ := ho.store plaw Try.underlying42 (by unfold maxLen; omega) (key_mk hk) (plainElem_int (H := Unit) Try.underlying3 hv)
  have hg := ht.grown
  refine ⟨w2, hr, h.step fun F hF hB => ?_⟩
  obtain ⟨_, hFk⟩ := hF
  refine ⟨hg.os, hg.tape, hg.output, hg.size, fun j hj hn => hg.block j hj fun e => hn ((hFk j).2 (Option.some.inj e)), F, ⟨⟨_, ho2, fun j hj => ?_, fun j hj => ?_, fun j hj => ?_⟩, hFk⟩, fun j hj => .inl hj⟩
  · unfold updI
    by_cases e : j = k
    · subst e
      rw [if_pos rfl, Maps.has_put_same ho.isMap (keyI_is _)]
      rfl
    · rw [if_neg e, Maps.has_put_other (fun q => e (keyI_inj q)), hd.has j hj]
  · unfold updI
    by_cases e : j = k
    · subst e
      rw [if_pos rfl, Maps.atKey_put_same ho.isMap (keyI_is _)]
      rfl
    · rw [if_neg e, Maps.atKey_put_other (fun q => e (keyI_inj q)), hd.is j hj]
  · unfold updI at hj
    by_cases e : j = k
    · subst e
      exact hk
    · rw [if_neg e] at hj
      exact hd.wf j hj
theorem int_congr {at2 : Int → Option Int} (h : Own w0 w (IntM b N at' :: R)) (e : ∀ k, at' k = at2 k) : Own w0 w (IntM b N at2 :: R) := by
  rwa [show at2 = at' from funext fun k => (e k).symm]
theorem int_mono {M : Nat} (h : Own w0 w (IntM b N at' :: R)) (hN : N ≤ M) : Own w0 w (IntM b M at' :: R) := by
  obtain ⟨F, ⟨⟨D, ho, hd⟩, hF⟩, h2⟩ := h.sat
  exact ⟨h.bel, F, ⟨⟨D, ho.mono hN, hd⟩, hF⟩, h2⟩
end
end Go.Proofs.Ytboomdjkgheonaa.PSeenPlays
