/- Packets on their way (package net): the links' room. -/
import Derived.Test.YtdnpodpmicllgaaPNetPlaysx1
import Derived.Test.YtdnpodpmicllgaaOwn
import Derived.Test.YtdnpodpmicllgaaComm
import Derived.Lib.Hide
import Derived.WalkSpells
import Derived.Great.Walk
import Derived.Maps.OwnSet
import Derived.DeepKeys4
import Derived.WideKeyPair
import Derived.Deep.QuietTactic
import Derived.BigQuiet
import Derived.Deep.RegionWith
import Derived.RegionTactic
namespace Go.Proofs.Ytdnpodpmicllgaa.PNetPlays
open Go.RowKit Go.Proofs.YtdnpodpmicllgaaW.PrintWords Go.Proofs.YtdnpodpmicllgaaW.PrintLast Go.Proofs.YtdnpodpmicllgaaW.PrintMore
open Go.Proofs.YtdnpodpmicllgaaO Go.Proofs.YtdnpodpmicllgaaC
attribute [local go_sem] max2_int min2_int max_two min_two max_three min_three max_four min_four
set_option linter.unusedVariables false
set_option linter.unusedSimpArgs false
abbrev Pk := S25
theorem laidNet : laidOutB Try.prog = true := by kernel_rfl
theorem lawLink : Maps.Keyed Try.prog 55 := Maps.Keyed.of_law (deep_law_laid laidNet (m := 3) (by omega) (of_decide_eq_true (by kernel_rfl)) (by kernel_rfl) (by kernel_rfl))
theorem sizeTypes : ∃ m, Try.prog.types.size = m + 1 := ⟨Try.prog.types.size - 1, by kernel_rfl⟩
theorem key_link (f t : Int) (hf : (Lit.int .i64 f).wf = true) (ht : (Lit.int .i64 t).wf = true) : keyOf Try.prog 55 (.agg #[.int .i64 f, .int .i64 t]) = some (.string (keyBytes [.int .i64 f, .int .i64 t])) := by
  have hu := Try.underlying55
  have hkt : Try.prog.keyType 55 = true := by kernel_rfl
  have hc : Try.prog.cellsOf 55 = 2 := by kernel_rfl
  have hc3 : Try.prog.cellsOf 3 = 1 := by kernel_rfl
  obtain ⟨m, hm⟩ := sizeTypes
  unfold keyOf
  simp only [hu]
  rw [if_pos (by simp [hkt, Value.formed, hu, hc]), hm]
  unfold Program.keyLits
  simp only [hu, Value.cells]
  simp [hc, hc3, Program.keyLits, Try.underlying3, hf, ht]
def keyL (f t : Int) : Lit := .string (keyBytes [.int .i64 f, .int .i64 t])
def wfI (x : Int) : Prop := (Lit.int .i64 x).wf = true
theorem keyL_inj {f t f' t' : Int} (hf : wfI f) (ht : wfI t) (hf' : wfI f') (ht' : wfI t') (h : keyL f t = keyL f' t') : f = f' ∧ t = t' := by
  have h1 := key_link f t hf ht
  have h2 := key_link f' t' hf' ht'
  have e := lawLink.inj h1 (by rw [h2]; exact congrArg some h.symm)
  injection e with e
  have e := congrArg Array.toList e
  simp only [List.cons.injEq, and_true] at e
  obtain ⟨e1, e2⟩ := e
  injection e1 with _ e1
  injection e2 with _ e2
  exact ⟨e1, e2⟩
theorem keyL_is (f t : Int) : WideAt.IsKeyLit (keyL f t) := trivial
/-- How an element 'chan struct{}' reads: the channel's block. -/
def elemC {H : Type} : Value → Option (DataW H × List MemPlace)
  | .chan (some c) => some (.lit (.int .i64 (c : Nat)), [])
  | .chan none => some (.lit (.bool false), [])
  | _ => none
def zC : DataW Unit := .lit (.bool false)
theorem elemC_inv {v : Value} {c : Nat} {ps : List MemPlace} (h : elemC (H := Unit) v = some (.lit (.int .i64 (c : Int)), ps)) : v = .chan (some c) := by
  unfold elemC at h
  split at h
  · rename_i c'
    simp only [Option.some.injEq, Prod.mk.injEq, DataW.lit.injEq, Lit.int.injEq, true_and] at h
    obtain ⟨h, _⟩ := h
    have : c' = c := by exact Int.ofNat.inj h
    rw [this]
  · simp at h
  · simp at h
theorem elemC_zero {v : Value} {ps : List MemPlace} (h : elemC (H := Unit) v = some (zC, ps)) : v = .chan none := by
  unfold elemC zC at h
  split at h
  · simp at h
  · rfl
  · simp at h
theorem zeroCh (w : World) : (zeroValue 53).run Try.prog w = .ok (.chan none) w := by kernel_rfl
abbrev unitV : Value := .agg #[]
/-- The links' room: each link's channel, and how many lie in it. -/
structure RoomOk (b N : Nat) (ch : Int → Int → Option Nat) (cnt : Int → Int → Nat) (w : World) (D : DataW Unit) : Prop where
  map : w.ownsMap Try.prog 55 (elemC (H := Unit)) b N D
  has : ∀ f t, wfI f → wfI t → Maps.has D (keyL f t) = (ch f t).isSome ∧ ∀ c, ch f t = some c → D.atKey (keyL f t) zC = .lit (.int .i64 (c : Int))
  ok : ∀ f t c, ch f t = some c → wfI f ∧ wfI t ∧ c ≠ b ∧ cnt f t ≤ 64 ∧ ∃ s r, w.heap[c]? = some (.chan 64 (Array.replicate (cnt f t) unitV) false s r false)
  one : ∀ f t f' t' c, ch f t = some c → ch f' t' = some c → f = f' ∧ t = t'
  no : ∀ f t, ch f t = none → cnt f t = 0
def RoomA (b N : Nat) (ch : Int → Int → Option Nat) (cnt : Int → Int → Nat) : Asn := ⟨fun _ w F => (∃ D, RoomOk b N ch cnt w D) ∧ ∀ k, F k ↔ k = b ∨ ∃ f t, ch f t = some k,
  fun ⟨⟨D, h⟩, hF⟩ hm => ⟨⟨D, by
    refine ⟨?_, h.has, fun f t c hc => ?_, h.one, h.no⟩
    · obtain ⟨es, clock, hb, r⟩ := h.map
      exact ⟨es, clock, (hm b ((hF b).2 (.inl rfl))).trans hb, r⟩
    · obtain ⟨h1, h2, h3, h4, s, r, h5⟩ := h.ok f t c hc
      exact ⟨h1, h2, h3, h4, s, r, (hm c ((hF c).2 (.inr ⟨f, t, hc⟩))).trans h5⟩⟩, hF⟩,
  fun ⟨⟨D, h⟩, hF⟩ k hk => by
    rcases (hF k).1 hk with rfl | ⟨f, t, hc⟩
    · exact h.map.lt
    · obtain ⟨_, _, _, _, s, r, h5⟩ := h.ok f t k hc
      exact blk_lt h5⟩
section
variable {w0 w w' : World} {R : List Asn} {b N : Nat} {ch : Int → Int → Option Nat} {cnt : Int → Int → Nat}
theorem room_out (h : Own w0 w (RoomA b N ch cnt :: R)) : ∃ D, RoomOk b N ch cnt w D := by
  obtain ⟨F, ⟨h1, _⟩, _⟩ := h.sat
  exact h1
theorem room_new (h : Own w0 w R) : Own w0 (w.alloc (.map #[] 0)) (RoomA w.heap.size 0 (fun _ _ => none) (fun _ _ => 0) :: R) := by
  refine h.make (below_alloc (Below.refl _ _) _) ⟨fun k => k = w.heap.size, ⟨⟨.map [], ⟨World.ownsMap_made w Try.prog 55 elemC, fun f t _ _ => ⟨by simp [Maps.has], fun c hc => by simp at hc⟩, fun f t c hc => by simp at hc, fun f t f' t' c hc => by simp at hc, fun _ _ _ => rfl⟩⟩, fun k => by simp⟩, fun k hk => by omega⟩
theorem room_look (h : Own w0 w (RoomA b N ch cnt :: R)) (f t : Int) (hf : wfI f) (ht : wfI t) : (Instr.lookup 47 (.map (some b)) (.agg #[.int .i64 f, .int .i64 t]) true).run Try.prog w = .ok (.tuple #[.chan (ch f t), .bool (ch f t).isSome]) w := by
  obtain ⟨D, ho⟩ := room_out h
  obtain ⟨v, ps, hr, hv⟩ := ho.map.look_ok lawLink Try.underlying47 (zeroCh w) (zd := zC) (zp := []) rfl (key_link f t hf ht)
  obtain ⟨h1, h2⟩ := ho.has f t hf ht
  have hr' : (Instr.lookup 47 (.map (some b)) (.agg #[.int .i64 f, .int .i64 t]) true).run Try.prog w = .ok (.tuple #[v, .bool (Maps.has D (keyL f t))]) w := hr
  have hv' : elemC v = some (D.atKey (keyL f t) zC, ps) := hv
  rw [hr', h1]
  cases hc : ch f t with
  | none =>
    rw [hc] at h1
    rw [Maps.atKey_of_not_has (by rw [h1]; rfl)] at hv'
    rw [elemC_zero hv']
  | some c =>
    rw [h2 c hc] at hv'
    rw [elemC_inv hv']
theorem room_chan (h : Own w0 w (RoomA b N ch cnt :: R)) {f t : Int} {c : Nat} (hc : ch f t = some c) : cnt f t ≤ 64 ∧ ∃ s r, w.heap[c]? = some (.chan 64 (Array.replicate (cnt f t) unitV) false s r false) := by
  obtain ⟨D, ho⟩ := room_out h
  obtain ⟨_, _, _, h4, h5⟩ := ho.ok f t c hc
  exact ⟨h4, h5⟩
theorem room_le (h : Own w0 w (RoomA b N ch cnt :: R)) (f t : Int) : cnt f t ≤ 64 := by
  obtain ⟨D, ho⟩ := room_out h
  cases hc : ch f t with
  | none => rw [ho.no f t hc]; omega
  | some c => exact (ho.ok f t c hc).2.2.2.1
def updN (cnt : Int → Int → Nat) (f t : Int) (m : Nat) : Int → Int → Nat := fun f' t' => if f' = f ∧ t' = t then m else cnt f' t'
def updC (ch : Int → Int → Option Nat) (f t : Int) (c : Nat) : Int → Int → Option Nat := fun f' t' => if f' = f ∧ t' = t then some c else ch f' t'
/-- A link's channel has so many. -/
theorem room_set (h : Own w0 w (RoomA b N ch cnt :: R)) {f t : Int} {c : Nat} (hc : ch f t = some c) (m : Nat) (hm : m ≤ 64) (s r : Nat) : Own w0 (w.setChan c 64 (Array.replicate m unitV) false s r false) (RoomA b N ch (updN cnt f t m) :: R) := by
  refine h.step fun F hF hB => ?_
  obtain ⟨⟨D, ho⟩, hFk⟩ := hF
  have hlt : c < w.heap.size := by
    obtain ⟨_, _, _, _, s', r', h5⟩ := ho.ok f t c hc
    exact blk_lt h5
  have hoth : ∀ k, k ≠ c → (w.setChan c 64 (Array.replicate m unitV) false s r false).heap[k]? = w.heap[k]? := fun k hk => by
    show (w.heap.setIfInBounds c _)[k]? = _
    rw [Array.getElem?_setIfInBounds_ne (fun e => hk e.symm)]
  have hcb := (ho.ok f t c hc).2.2.1
  refine ⟨rfl, rfl, rfl, by rw [Go.Conc.size_setChan]; exact Nat.le_refl _, fun k _ hn => hoth k fun e => hn ((hFk k).2 (.inr ⟨f, t, e ▸ hc⟩)), F, ⟨⟨D, ?_, ho.has, fun f' t' c' hc' => ?_, ho.one, fun f' t' hc' => ?_⟩, hFk⟩, fun k hk => .inl hk⟩
  · obtain ⟨es, clock, hb, r⟩ := ho.map
    exact ⟨es, clock, (hoth b fun e => hcb e.symm).trans hb, r⟩
  · obtain ⟨h1, h2, h3, h4, s', r', h5⟩ := ho.ok f' t' c' hc'
    by_cases hft : f' = f ∧ t' = t
    · obtain ⟨rfl, rfl⟩ := hft
      obtain rfl : c' = c := Option.some.inj (hc'.symm.trans hc)
      have e : updN cnt f' t' m f' t' = m := by unfold updN; rw [if_pos ⟨rfl, rfl⟩]
      rw [e]
      exact ⟨h1, h2, h3, hm, s, r, Go.Conc.heap_setChan _ _ _ _ _ _ _ _ hlt⟩
    · have e : updN cnt f t m f' t' = cnt f' t' := by unfold updN; rw [if_neg hft]
      rw [e]
      refine ⟨h1, h2, h3, h4, s', r', (hoth c' fun e => hft ?_).trans h5⟩
      subst e
      exact ho.one f' t' f t c' hc' hc
  · have hft : ¬ (f' = f ∧ t' = t) := fun q => by obtain ⟨rfl, rfl⟩ := q; rw [hc] at hc'; cases hc'
    show updN cnt f t m f' t' = 0
    unfold updN
    rw [if_neg hft]
    exact ho.no f' t' hc'
/-- A link's channel is new. -/
theorem room_put {c : Nat} {w2 : World} (h : Own w0 w (Blk c (.chan 64 #[] false 0 0 false) :: RoomA b N ch cnt :: R)) {f t : Int} (hf : wfI f) (ht : wfI t) (hc : ch f t = none)
    (hput : ∀ D, w.ownsMap Try.prog 55 (elemC (H := Unit)) b N D → w2.ownsMap Try.prog 55 (elemC (H := Unit)) b (N + 1) (D.put (keyL f t) (.lit (.int .i64 (c : Int))))) (hg : w.grownBy w2 (some b)) : Own w0 w2 (RoomA b (N + 1) (updC ch f t c) cnt :: R) := by
  refine h.join.step fun F hF hB => ?_
  obtain ⟨F1, F2, h1, h2, hd, hFF⟩ := hF
  obtain ⟨⟨D, ho⟩, hFk⟩ := h2
  obtain ⟨hbc, hF1⟩ := h1
  have hcb : c ≠ b := fun e => hd c ((hF1 c).2 rfl) ((hFk c).2 (.inl e))
  have hnew : ∀ f' t', ch f' t' ≠ some c := fun f' t' e => hd c ((hF1 c).2 rfl) ((hFk c).2 (.inr ⟨f', t', e⟩))
  have hoth : ∀ k, k < w.heap.size → k ≠ b → w2.heap[k]? = w.heap[k]? := fun k hk hn => hg.block k hk fun e => hn (Option.some.inj e)
  refine ⟨hg.os, hg.tape, hg.output, hg.size, fun k hk hn => hoth k hk fun e => hn ((hFF k).2 (.inr ((hFk k).2 (.inl e)))), F, ⟨⟨_, hput D ho.map, fun f' t' hf' ht' => ?_, fun f' t' c' hc' => ?_, fun f1 t1 f2 t2 c' h1 h2 => ?_, fun f' t' hc' => ?_⟩, fun k => ?_⟩, fun k hk => .inl hk⟩
  · by_cases hft : f' = f ∧ t' = t
    · obtain ⟨rfl, rfl⟩ := hft
      have e : updC ch f' t' c f' t' = some c := by unfold updC; rw [if_pos ⟨rfl, rfl⟩]
      rw [e]
      exact ⟨Maps.has_put_same ho.map.isMap (keyL_is _ _) _, fun c' hc' => by obtain rfl := Option.some.inj hc'; exact Maps.atKey_put_same ho.map.isMap (keyL_is _ _) _ _⟩
    · have e : updC ch f t c f' t' = ch f' t' := by unfold updC; rw [if_neg hft]
      have hk : keyL f' t' ≠ keyL f t := fun q => hft (keyL_inj hf' ht' hf ht q)
      rw [e, Maps.has_put_other hk]
      exact ⟨(ho.has f' t' hf' ht').1, fun c' hc' => by rw [Maps.atKey_put_other hk]; exact (ho.has f' t' hf' ht').2 c' hc'⟩
  · by_cases hft : f' = f ∧ t' = t
    · obtain ⟨rfl, rfl⟩ := hft
      have e : updC ch f' t' c f' t' = some c := by unfold updC; rw [if_pos ⟨rfl, rfl⟩]
      obtain rfl := Option.some.inj (e.symm.trans hc')
      rw [ho.no f' t' hc]
      exact ⟨hf, ht, hcb, by omega, 0, 0, (hoth _ (blk_lt hbc) hcb).trans hbc⟩
    · have e : updC ch f t c f' t' = ch f' t' := by unfold updC; rw [if_neg hft]
      obtain ⟨h1, h2, h3, h4, s', r', h5⟩ := ho.ok f' t' c' (e.symm.trans hc')
      exact ⟨h1, h2, h3, h4, s', r', (hoth _ (blk_lt h5) h3).trans h5⟩
  · by_cases e1 : f1 = f ∧ t1 = t
    · by_cases e2 : f2 = f ∧ t2 = t
      · exact ⟨e1.1.trans e2.1.symm, e1.2.trans e2.2.symm⟩
      · unfold updC at h1 h2
        rw [if_pos e1] at h1
        rw [if_neg e2] at h2
        obtain rfl := Option.some.inj h1
        exact absurd h2 (hnew _ _)
    · unfold updC at h1 h2
      rw [if_neg e1] at h1
      by_cases e2 : f2 = f ∧ t2 = t
      · rw [if_pos e2] at h2
        obtain rfl := Option.some.inj h2
        exact absurd h1 (hnew _ _)
      · rw [if_neg e2] at h2
        exact ho.one _ _ _ _ _ h1 h2
  · unfold updC at hc'
    split at hc'
    · cases hc'
    · exact ho.no f' t' hc'
  · rw [hFF, hF1, hFk]
    constructor
    · rintro (rfl | rfl | ⟨f', t', e⟩)
      · exact .inr ⟨f, t, by unfold updC; rw [if_pos ⟨rfl, rfl⟩]⟩
      · exact .inl rfl
      · refine .inr ⟨f', t', ?_⟩
        unfold updC
        split
        · rename_i q
          obtain ⟨rfl, rfl⟩ := q
          rw [hc] at e
          cases e
        · exact e
    · rintro (rfl | ⟨f', t', e⟩)
      · exact .inr (.inl rfl)
      · unfold updC at e
        split at e
        · exact .inl (Option.some.inj e).symm
        · exact .inr (.inr ⟨f', t', e⟩)
theorem room_congr {cnt' : Int → Int → Nat} (hc : ∀ f t, cnt f t = cnt' f t) (h : Own w0 w (RoomA b N ch cnt :: R)) : Own w0 w (RoomA b N ch cnt' :: R) := by
  rwa [show cnt' = cnt from funext fun f => funext fun t => (hc f t).symm]
theorem room_mono {N' : Nat} (hn : N ≤ N') (h : Own w0 w (RoomA b N ch cnt :: R)) : Own w0 w (RoomA b N' ch cnt :: R) := by
  refine h.step fun F hF _ => ⟨rfl, rfl, rfl, Nat.le_refl _, fun k _ _ => rfl, F, ⟨?_, hF.2⟩, fun k hk => .inl hk⟩
  obtain ⟨D, ho⟩ := hF.1
  exact ⟨D, ho.map.mono hn, ho.has, ho.ok, ho.one, ho.no⟩
theorem owns_fun {D D' : DataW Unit} (h : w.ownsMap Try.prog 55 (elemC (H := Unit)) b N D) (h' : w.ownsMap Try.prog 55 (elemC (H := Unit)) b N D') : D = D' := by
  obtain ⟨es, clock, hb, _, _, rfl⟩ := h
  obtain ⟨es', clock', hb', _, _, rfl⟩ := h'
  have e := Option.some.inj (hb.symm.trans hb')
  injection e with e _
  rw [e]
/-- A new channel is laid into the map. -/
theorem room_store {c : Nat} (h : Own w0 w (Blk c (.chan 64 #[] false 0 0 false) :: RoomA b N ch cnt :: R)) {f t : Int} (hf : wfI f) (ht : wfI t) (hc : ch f t = none) (hN : N < 1000000000) :
    ∃ w2, (Instr.mapUpdate 47 (.map (some b)) (.agg #[.int .i64 f, .int .i64 t]) (.chan (some c))).run Try.prog w = .ok () w2 ∧ Own w0 w2 (RoomA b (N + 1) (updC ch f t c) cnt :: R) := by
  obtain ⟨D, ho⟩ := room_out h.tail
  obtain ⟨w2, hr, ho2, ht2⟩ := ho.map.store lawLink Try.underlying47 (by unfold maxLen; omega) (val := .chan (some c)) (key_link f t hf ht) rfl
  exact ⟨w2, hr, room_put h hf ht hc (fun D' hD' => by rw [owns_fun hD' ho.map]; exact ho2) ht2.grown⟩
end
end Go.Proofs.Ytdnpodpmicllgaa.PNetPlays
