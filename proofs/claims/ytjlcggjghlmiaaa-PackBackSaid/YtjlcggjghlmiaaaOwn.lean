/- What is one's own in memory, as a list of things that lie apart: each call says what it makes of the first one, all others stay. -/
import Derived.Test.YtjlcggjghlmiaaaWMore
import Derived.Test.YtjlcggjghlmiaaaWLast
import Derived.Lib.Hide
namespace Go.Proofs.YtjlcggjghlmiaaaO
open Go.RowKit Go.Proofs.YtjlcggjghlmiaaaW.PrintWords Go.Proofs.YtjlcggjghlmiaaaW.PrintLast Go.Proofs.YtjlcggjghlmiaaaW.PrintMore
set_option linter.unusedVariables false

theorem alloc_size (w : World) (o : Obj) : (w.alloc o).heap.size = w.heap.size + 1 := by show (w.heap.push o).size = _; simp
/-- A thing in memory: what is said of a world, and of the blocks that it holds. -/
structure Asn where
  h : Nat → World → (Nat → Prop) → Prop
  move : ∀ {B : Nat} {w w' : World} {F : Nat → Prop}, h B w F → (∀ k, F k → w'.heap[k]? = w.heap[k]?) → h B w' F
  lt : ∀ {B : Nat} {w : World} {F : Nat → Prop}, h B w F → ∀ k, F k → k < w.heap.size

/-- Nothing. -/
def emp : Asn := ⟨fun _ _ F => ∀ k, ¬ F k, fun h _ => h, fun h k hk => absurd hk (h k)⟩
/-- One block, whole. -/
def Blk (g : Nat) (o : Obj) : Asn := ⟨fun _ w F => w.heap[g]? = some o ∧ ∀ k, F k ↔ k = g,
  fun h hm => ⟨(hm _ ((h.2 _).2 rfl)).trans h.1, h.2⟩, fun h k hk => by rw [(h.2 k).1 hk]; exact blk_lt h.1⟩
/-- A row of elements. -/
def Row {α : Type} (d : Kd α) (e : Nat) (v : Value) (xs : List α) : Asn := ⟨fun B w F => d.R e w B F v xs ∧ ∀ k, F k → k < w.heap.size,
  fun h hm => ⟨Kd.R_move h.1 hm, fun k hk => blk_lt ((hm k hk).trans (Array.getElem?_eq_getElem (h.2 k hk)))⟩, fun h k hk => h.2 k hk⟩
/-- Two things. -/
def star (P Q : Asn) : Asn := ⟨fun B w F => ∃ F1 F2, P.h B w F1 ∧ Q.h B w F2 ∧ (∀ k, F1 k → ¬ F2 k) ∧ ∀ k, F k ↔ F1 k ∨ F2 k,
  fun ⟨F1, F2, h1, h2, hd, hF⟩ hm => ⟨F1, F2, P.move h1 fun k hk => hm k ((hF k).2 (.inl hk)), Q.move h2 fun k hk => hm k ((hF k).2 (.inr hk)), hd, hF⟩,
  fun ⟨F1, F2, h1, h2, hd, hF⟩ k hk => ((hF k).1 hk).elim (P.lt h1 k) (Q.lt h2 k)⟩
/-- A thing of which something is left open. -/
def ex {α : Type} (P : α → Asn) : Asn := ⟨fun B w F => ∃ x, (P x).h B w F, fun ⟨x, h⟩ hm => ⟨x, (P x).move h hm⟩, fun ⟨x, h⟩ k hk => (P x).lt h k hk⟩
/-- A thing, and a fact. -/
def fact (p : Prop) (P : Asn) : Asn := ⟨fun B w F => p ∧ P.h B w F, fun ⟨x, h⟩ hm => ⟨x, P.move h hm⟩, fun ⟨_, h⟩ k hk => P.lt h k hk⟩

def Sat (B : Nat) (w : World) : List Asn → (Nat → Prop) → Prop
  | [], _ => True
  | P :: L, no => ∃ F, P.h B w F ∧ (∀ k, F k → B ≤ k ∧ ¬ no k) ∧ Sat B w L (fun k => no k ∨ F k)
theorem Sat.mono {B : Nat} {w : World} : ∀ {L : List Asn} {no no' : Nat → Prop}, Sat B w L no → (∀ k, no' k → no k) → Sat B w L no'
  | [], _, _, _, _ => trivial
  | P :: L, _, _, ⟨F, h1, h2, h3⟩, hn => ⟨F, h1, fun k hk => ⟨(h2 k hk).1, fun q => (h2 k hk).2 (hn k q)⟩, h3.mono fun k hk => hk.imp (hn k) id⟩
theorem Sat.move {B : Nat} {w w' : World} : ∀ {L : List Asn} {no : Nat → Prop}, Sat B w L no → (∀ k, ¬ no k → B ≤ k → k < w.heap.size → w'.heap[k]? = w.heap[k]?) → Sat B w' L no
  | [], _, _, _ => trivial
  | P :: L, _, ⟨F, h1, h2, h3⟩, hm => ⟨F, P.move h1 fun k hk => hm k (h2 k hk).2 (h2 k hk).1 (P.lt h1 k hk), h2, h3.move fun k hk => hm k fun q => hk (.inl q)⟩
/-- The blocks, by number. -/
theorem Sat.feet {B : Nat} {w : World} : ∀ {L : List Asn} {no : Nat → Prop}, Sat B w L no →
    ∃ Fs : Nat → Nat → Prop, (∀ i P, L[i]? = some P → P.h B w (Fs i) ∧ ∀ k, Fs i k → B ≤ k ∧ ¬ no k) ∧ ∀ i j, i < L.length → j < L.length → i ≠ j → ∀ k, Fs i k → ¬ Fs j k
  | [], _, _ => ⟨fun _ _ => False, fun i P h => by simp at h, fun i j h => by simp at h⟩
  | P :: L, no, ⟨F, h1, h2, h3⟩ => by
    obtain ⟨Fs, ha, hb⟩ := h3.feet
    have hx : ∀ i, i < L.length → ∀ k, Fs i k → ¬ F k := fun i hi k hk hF => ((ha i L[i] (List.getElem?_eq_getElem hi)).2 k hk).2 (.inr hF)
    refine ⟨fun i => match i with | 0 => F | i + 1 => Fs i, fun i Q hi => ?_, fun i j hi hj hn k hk => ?_⟩
    · match i, hi with
      | 0, hi => obtain rfl := Option.some.inj hi; exact ⟨h1, h2⟩
      | i + 1, hi => exact ⟨(ha i Q hi).1, fun k hk => ⟨((ha i Q hi).2 k hk).1, fun q => ((ha i Q hi).2 k hk).2 (.inl q)⟩⟩
    · match i, j, hi, hj, hn, hk with
      | 0, 0, _, _, hn, _ => exact absurd rfl hn
      | 0, j + 1, _, hj, _, hk => exact fun q => hx j (by simpa using hj) k q hk
      | i + 1, 0, hi, _, _, hk => exact hx i (by simpa using hi) k hk
      | i + 1, j + 1, hi, hj, hn, hk => exact hb i j (by simpa using hi) (by simpa using hj) (by omega) k hk
theorem Sat.of_feet {B : Nat} {w : World} : ∀ {L : List Asn} {no : Nat → Prop} (Fs : Nat → Nat → Prop), (∀ i P, L[i]? = some P → P.h B w (Fs i) ∧ ∀ k, Fs i k → B ≤ k ∧ ¬ no k) → (∀ i j, i < L.length → j < L.length → i ≠ j → ∀ k, Fs i k → ¬ Fs j k) → Sat B w L no
  | [], _, _, _, _ => trivial
  | P :: L, no, Fs, ha, hb => ⟨Fs 0, (ha 0 P rfl).1, (ha 0 P rfl).2, Sat.of_feet (fun i => Fs (i + 1)) (fun i Q hi => ⟨(ha (i + 1) Q hi).1, fun k hk => ⟨((ha (i + 1) Q hi).2 k hk).1, fun q => q.elim ((ha (i + 1) Q hi).2 k hk).2 fun q => hb (i + 1) 0 (by have := (List.getElem?_eq_some_iff.1 hi).1; simpa using this) (by simp) (by omega) k hk q⟩⟩) fun i j hi hj hn => hb (i + 1) (j + 1) (by simpa using hi) (by simpa using hj) (by omega)⟩

def pickL (L : List Asn) (is : List Nat) : List Asn := is.map fun i => L.getD i emp

/-- What there is since w0: the list's things, each in blocks of its own; what was there is as it was. -/
structure Own (w0 w : World) (L : List Asn) : Prop where
  bel : Below w0.heap.size w0 w
  sat : Sat w0.heap.size w L (fun _ => False)
section
variable {w0 w w' : World} {L : List Asn} {P Q : Asn}
theorem Own.nil (w0 : World) : Own w0 w0 [] := ⟨Below.refl _ _, trivial⟩
theorem Own.le (h : Own w0 w L) : w0.heap.size ≤ w.heap.size := h.bel.size
theorem Own.pick (h : Own w0 w L) (is : List Nat) (hn : is.Nodup := by decide) : Own w0 w (pickL L is) := by
  refine ⟨h.bel, ?_⟩
  obtain ⟨Fs, ha, hb⟩ := h.sat.feet
  refine Sat.of_feet (fun i k => is.getD i 0 < L.length ∧ Fs (is.getD i 0) k) (fun i P hi => ?_) (fun i j hi hj hne k hk => ?_)
  · have hil : i < is.length := by have := (List.getElem?_eq_some_iff.1 hi).1; simpa [pickL] using this
    have hg : is.getD i 0 = is[i] := by rw [List.getD_eq_getElem?_getD, List.getElem?_eq_getElem hil]; rfl
    have hP : P = L.getD is[i] emp := by
      have := (List.getElem?_eq_some_iff.1 hi).2
      rw [← this]; simp [pickL]
    subst hP
    show (L.getD is[i] emp).h _ w (fun k => is.getD i 0 < L.length ∧ Fs (is.getD i 0) k) ∧ _
    rw [hg]
    by_cases hl : is[i] < L.length
    · have he : L.getD is[i] emp = L[is[i]] := by rw [List.getD_eq_getElem?_getD, List.getElem?_eq_getElem hl]; rfl
      obtain ⟨h1, h2⟩ := ha is[i] _ (List.getElem?_eq_getElem hl)
      rw [he]
      have hF : (fun k => is[i] < L.length ∧ Fs is[i] k) = Fs is[i] := funext fun k => propext ⟨fun q => q.2, fun q => ⟨hl, q⟩⟩
      rw [hF]
      exact ⟨h1, fun k hk => h2 k hk.2⟩
    · have he : L.getD is[i] emp = emp := by rw [List.getD_eq_getElem?_getD, List.getElem?_eq_none (by omega)]; rfl
      rw [he]
      exact ⟨fun k hk => hl hk.1, fun k hk => absurd hk.1 hl⟩
  · have hil : i < is.length := by simpa [pickL] using hi
    have hjl : j < is.length := by simpa [pickL] using hj
    have hgi : is.getD i 0 = is[i] := by rw [List.getD_eq_getElem?_getD, List.getElem?_eq_getElem hil]; rfl
    have hgj : is.getD j 0 = is[j] := by rw [List.getD_eq_getElem?_getD, List.getElem?_eq_getElem hjl]; rfl
    rw [hgi] at hk
    show ¬ (is.getD j 0 < L.length ∧ Fs (is.getD j 0) k)
    rw [hgj]
    exact fun q => hb _ _ hk.1 q.1 (fun e => hne ((List.getElem_inj hn).1 e)) k hk.2 q.2
theorem Own.tail (h : Own w0 w (P :: L)) : Own w0 w L := ⟨h.bel, by obtain ⟨F, _, _, h3⟩ := h.sat; exact h3.mono fun k hk => hk.elim⟩
theorem Own.swap (h : Own w0 w (P :: Q :: L)) : Own w0 w (Q :: P :: L) := ⟨h.bel, by
  obtain ⟨F, h1, h2, F2, g1, g2, h3⟩ := h.sat
  exact ⟨F2, g1, fun k hk => ⟨(g2 k hk).1, id⟩, F, h1, fun k hk => ⟨(h2 k hk).1, fun q => q.elim id fun q => (g2 k q).2 (.inr hk)⟩, h3.mono fun k hk => hk.elim (fun q => q.elim (fun q => .inl (.inl q)) fun q => .inr q) fun q => .inl (.inr q)⟩⟩
theorem Sat.perm {B : Nat} {w : World} {L L' : List Asn} (hp : L.Perm L') : ∀ {no : Nat → Prop}, Sat B w L no → Sat B w L' no := by
  induction hp with
  | nil => exact fun h => h
  | cons P _ ih => exact fun ⟨F, h1, h2, h3⟩ => ⟨F, h1, h2, ih h3⟩
  | swap P Q l =>
    rintro no ⟨F, h1, h2, F2, g1, g2, h3⟩
    exact ⟨F2, g1, fun k hk => ⟨(g2 k hk).1, fun q => (g2 k hk).2 (.inl q)⟩, F, h1, fun k hk => ⟨(h2 k hk).1, fun q => q.elim (h2 k hk).2 fun q => (g2 k q).2 (.inr hk)⟩, h3.mono fun k hk => hk.elim (fun q => q.elim (fun q => .inl (.inl q)) fun q => .inr q) fun q => .inl (.inr q)⟩
  | trans _ _ ih1 ih2 => exact fun h => ih2 (ih1 h)
theorem Own.perm {L' : List Asn} (h : Own w0 w L) (hp : L.Perm L') : Own w0 w L' := ⟨h.bel, h.sat.perm hp⟩
variable {P1 P2 P3 P4 P5 P6 : Asn}
theorem Own.r1 (h : Own w0 w (P1 :: P2 :: L)) : Own w0 w (P2 :: P1 :: L) := h.swap
theorem Own.r2 (h : Own w0 w (P1 :: P2 :: P3 :: L)) : Own w0 w (P3 :: P1 :: P2 :: L) := h.perm (List.perm_middle (l₁ := [P1, P2]))
theorem Own.r3 (h : Own w0 w (P1 :: P2 :: P3 :: P4 :: L)) : Own w0 w (P4 :: P1 :: P2 :: P3 :: L) := h.perm (List.perm_middle (l₁ := [P1, P2, P3]))
theorem Own.r4 (h : Own w0 w (P1 :: P2 :: P3 :: P4 :: P5 :: L)) : Own w0 w (P5 :: P1 :: P2 :: P3 :: P4 :: L) := h.perm (List.perm_middle (l₁ := [P1, P2, P3, P4]))
theorem Own.r5 (h : Own w0 w (P1 :: P2 :: P3 :: P4 :: P5 :: P6 :: L)) : Own w0 w (P6 :: P1 :: P2 :: P3 :: P4 :: P5 :: L) := h.perm (List.perm_middle (l₁ := [P1, P2, P3, P4, P5]))
/-- What is made of the first thing: all else stays. -/
structure Stp (B : Nat) (w w' : World) (F : Nat → Prop) (Q : Asn) : Prop where
  os : w'.os = w.os
  tape : w'.tape = w.tape
  output : w'.output = w.output
  size : w.heap.size ≤ w'.heap.size
  keep : ∀ k, k < w.heap.size → ¬ F k → w'.heap[k]? = w.heap[k]?
  res : ∃ F', Q.h B w' F' ∧ ∀ k, F' k → F k ∨ w.heap.size ≤ k
theorem Own.step (h : Own w0 w (P :: L)) (hs : ∀ F, P.h w0.heap.size w F → (∀ k, F k → w0.heap.size ≤ k) → Stp w0.heap.size w w' F Q) : Own w0 w' (Q :: L) := by
  obtain ⟨F, h1, h2, h3⟩ := h.sat
  have s := hs F h1 fun k hk => (h2 k hk).1
  obtain ⟨F', g1, g2⟩ := s.res
  have hsz := h.bel.size
  refine ⟨h.bel.trans ⟨s.os, s.tape, s.output, s.size, fun k hk => s.keep k (by omega) fun q => by have := (h2 k q).1; omega⟩, F', g1, fun k hk => ⟨?_, id⟩, ?_⟩
  · rcases g2 k hk with q | q
    · exact (h2 k q).1
    · omega
  · have h4 : Sat w0.heap.size w L F := h3.mono fun k hk => .inr hk
    have h5 : Sat w0.heap.size w' L F := h4.move fun k hn hb hk => s.keep k hk hn
    have h6 : ∀ k, F' k → F k ∨ w.heap.size ≤ k := g2
    -- the rest's blocks lie in w
    obtain ⟨Fs, ha, hb⟩ := h4.feet
    refine (Sat.of_feet Fs (fun i R hi => ?_) hb)
    obtain ⟨q1, q2⟩ := ha i R hi
    refine ⟨R.move q1 fun k hk => s.keep k (R.lt q1 k hk) (q2 k hk).2, fun k hk => ⟨(q2 k hk).1, fun q => q.elim id fun q => ?_⟩⟩
    rcases h6 k q with q | q
    · exact (q2 k hk).2 q
    · have := R.lt q1 k hk; omega
/-- Nothing of one's own is written; new blocks may be made. -/
theorem Own.below (h : Own w0 w L) (hb : Below w.heap.size w w') : Own w0 w' L :=
  ⟨h.bel.trans (hb.mono h.bel.size), h.sat.move fun k _ _ hk => hb.block k hk⟩
theorem Own.drewN (h : Own w0 w L) (n : Nat) : Own w0 (w.drewN n) L := h.below (pw_below_drewN (Below.refl _ _) n)
theorem Own.drew (h : Own w0 w L) : Own w0 w.drew L := h.below (Below.refl _ _).drew
theorem Own.drawn (h : Own w0 w L) (hd : Drawn0 w w') : Own w0 w' L := h.below hd.below
/-- Something new beside. -/
theorem Own.make (h : Own w0 w L) (hb : Below w.heap.size w w') (hq : ∃ F, Q.h w0.heap.size w' F ∧ ∀ k, F k → w.heap.size ≤ k) : Own w0 w' (Q :: L) := by
  refine Own.step (P := emp) ⟨h.bel, fun _ => False, fun _ => id, fun k hk => hk.elim, h.sat.mono fun k hk => hk.elim id id⟩ fun F hF _ => ⟨hb.os, hb.tape, hb.output, hb.size, fun k hk _ => hb.block k hk, ?_⟩
  obtain ⟨F', g1, g2⟩ := hq
  exact ⟨F', g1, fun k hk => .inr (g2 k hk)⟩
theorem Own.alloc (h : Own w0 w L) (o : Obj) : Own w0 (w.alloc o) (Blk w.heap.size o :: L) :=
  h.make (below_alloc (Below.refl _ _) o) ⟨fun k => k = w.heap.size, ⟨by show (w.heap.push o)[w.heap.size]? = _; simp, fun _ => Iff.rfl⟩, fun k hk => by omega⟩
theorem Own.junk (h : Own w0 w L) (o : Obj) : Own w0 (w.alloc o) L := h.below (below_alloc (Below.refl _ _) o)
theorem Own.get {g : Nat} {o : Obj} (h : Own w0 w L) (i : Nat) (hi : L[i]? = some (Blk g o)) : w.heap[g]? = some o ∧ w0.heap.size ≤ g := by
  obtain ⟨Fs, ha, hb⟩ := h.sat.feet
  obtain ⟨⟨h1, h2⟩, h3⟩ := ha i _ hi
  exact ⟨h1, (h3 g ((h2 g).2 rfl)).1⟩
theorem Own.at0 {g : Nat} {o : Obj} (h : Own w0 w (Blk g o :: L)) : w.heap[g]? = some o := (h.get 0 rfl).1
theorem Own.at1 {g : Nat} {o : Obj} {P1 : Asn} (h : Own w0 w (P1 :: Blk g o :: L)) : w.heap[g]? = some o := (h.get 1 rfl).1
theorem Own.at2 {g : Nat} {o : Obj} {P1 P2 : Asn} (h : Own w0 w (P1 :: P2 :: Blk g o :: L)) : w.heap[g]? = some o := (h.get 2 rfl).1
theorem Own.at3 {g : Nat} {o : Obj} {P1 P2 P3 : Asn} (h : Own w0 w (P1 :: P2 :: P3 :: Blk g o :: L)) : w.heap[g]? = some o := (h.get 3 rfl).1
theorem Own.set {g t : Nat} {cs : Array Value} (h : Own w0 w (Blk g (.cells cs t (0, 0)) :: L)) (i : Nat) (u : Value) : Own w0 (w.setCell ⟨g, i, none⟩ u) (Blk g (.cells (cs.setIfInBounds i u) t (0, 0)) :: L) := by
  refine h.step fun F hF _ => ⟨rfl, rfl, rfl, by simp [World.setCell], fun k hk hn => Below.heap_setCell _ _ _ _ fun e => hn ((hF.2 k).2 e), F, ⟨blk_set hF.1 i u, hF.2⟩, fun k hk => .inl hk⟩
theorem Own.blk_step {g : Nat} {o o' : Obj} (h : Own w0 w (Blk g o :: L)) (hb : Below w0.heap.size w0 w') (hk : KeepBut w w' g none) (hg : w'.heap[g]? = some o') : Own w0 w' (Blk g o' :: L) := by
  have hbel := h.bel
  exact h.step fun F hF _ => ⟨hb.os.trans hbel.os.symm, hb.tape.trans hbel.tape.symm, hb.output.trans hbel.output.symm, hk.1, fun k hk1 hn => hk.2 k hk1 (fun e => hn ((hF.2 k).2 e)) (by simp), F, ⟨hg, hF.2⟩, fun k hk => .inl hk⟩
/-- Two things as one; one as two. -/
theorem Own.join (h : Own w0 w (P :: Q :: L)) : Own w0 w (star P Q :: L) := by
  refine ⟨h.bel, ?_⟩
  obtain ⟨F, h1, h2, F2, g1, g2, h3⟩ := h.sat
  exact ⟨fun k => F k ∨ F2 k, ⟨F, F2, h1, g1, fun k hk q => (g2 k q).2 (.inr hk), fun _ => Iff.rfl⟩, fun k hk => ⟨hk.elim (fun q => (h2 k q).1) fun q => (g2 k q).1, id⟩, h3.mono fun k hk => hk.elim (fun q => q.elim) fun q => q.elim (fun q => .inl (.inr q)) fun q => .inr q⟩
theorem Own.split (h : Own w0 w (star P Q :: L)) : Own w0 w (P :: Q :: L) := by
  refine ⟨h.bel, ?_⟩
  obtain ⟨F, ⟨F1, F2, h1, h2, hd, hF⟩, h3, h4⟩ := h.sat
  exact ⟨F1, h1, fun k hk => ⟨(h3 k ((hF k).2 (.inl hk))).1, id⟩, F2, h2, fun k hk => ⟨(h3 k ((hF k).2 (.inr hk))).1, fun q => q.elim id fun q => hd k q hk⟩, h4.mono fun k hk => hk.elim (fun q => q.elim (fun q => q.elim) fun q => .inr ((hF k).2 (.inl q))) fun q => .inr ((hF k).2 (.inr q))⟩
theorem Own.ex_out {α : Type} {P : α → Asn} (h : Own w0 w (ex P :: L)) : ∃ x, Own w0 w (P x :: L) := by
  obtain ⟨F, ⟨x, h1⟩, h2⟩ := h.sat
  exact ⟨x, h.bel, F, h1, h2⟩
theorem Own.ex_in {α : Type} {P : α → Asn} (x : α) (h : Own w0 w (P x :: L)) : Own w0 w (ex P :: L) := by
  obtain ⟨F, h1, h2⟩ := h.sat
  exact ⟨h.bel, F, ⟨x, h1⟩, h2⟩
theorem Own.fact_out {p : Prop} (h : Own w0 w (fact p P :: L)) : p ∧ Own w0 w (P :: L) := by
  obtain ⟨F, ⟨x, h1⟩, h2⟩ := h.sat
  exact ⟨x, h.bel, F, h1, h2⟩
theorem Own.fact_in {p : Prop} (x : p) (h : Own w0 w (P :: L)) : Own w0 w (fact p P :: L) := by
  obtain ⟨F, h1, h2⟩ := h.sat
  exact ⟨h.bel, F, ⟨x, h1⟩, h2⟩
theorem Own.emp_in (h : Own w0 w L) : Own w0 w (emp :: L) := ⟨h.bel, fun _ => False, fun _ => id, fun k hk => hk.elim, h.sat.mono fun k hk => hk.elim id id⟩
end
section
variable {α : Type} {d : Kd α} {e : Nat} {w0 w w' : World} {L : List Asn} {v : Value} {xs : List α}
/-- An empty row holds no blocks. -/
theorem Own.row_nil (h : Own w0 w L) (d : Kd α) (e : Nat) : Own w0 w (Row d e (.slice none 0 0) [] :: L) :=
  h.make (Below.refl _ _) ⟨fun _ => False, ⟨Kd.R_nil _ _ _ _ _, fun k hk => hk.elim⟩, fun k hk => hk.elim⟩
/-- A new row, as a call hands it back. -/
theorem Own.row_new {ok : Nat → Prop} (h : Own w0 w L) (hb : Below w.heap.size w w') (hr : d.R e w' w.heap.size ok v xs) : Own w0 w' (Row d e v xs :: L) := by
  have hr2 := Kd.R_bound hr
  exact h.make hb ⟨_, ⟨Kd.R_lower hr2 h.le, fun k hk => hk.2.2.1⟩, fun k hk => hk.2.1⟩
theorem Own.row_out (h : Own w0 w (Row d e v xs :: L)) : ∃ F, d.R e w w0.heap.size F v xs ∧ (∀ k, F k → w0.heap.size ≤ k ∧ k < w.heap.size) := by
  obtain ⟨F, ⟨h1, h2⟩, h3, _⟩ := h.sat
  exact ⟨F, h1, fun k hk => ⟨(h3 k hk).1, h2 k hk⟩⟩
theorem Own.row_reads (h : Own w0 w (Row d e v xs :: L)) : ∃ A c, v = .slice A xs.length c ∧ xs.length ≤ c ∧ d.C w A xs.length xs := by
  obtain ⟨F, hr, _⟩ := h.row_out
  exact Kd.R_reads hr
/-- The row is written, or grows into a new one: as the laws of append and the printed contracts tell it. -/
theorem Own.row_step {ys : List α} {v' : Value} (h : Own w0 w (Row d e v xs :: L))
    (hs : ∀ F : Nat → Prop, d.R e w w0.heap.size F v xs → (∀ k, F k → w0.heap.size ≤ k ∧ k < w.heap.size) → Below w0.heap.size w0 w' ∧ w.heap.size ≤ w'.heap.size ∧ (∀ k, k < w.heap.size → ¬ F k → w'.heap[k]? = w.heap[k]?) ∧ ∃ F' : Nat → Prop, d.R e w' w0.heap.size F' v' ys ∧ ∀ k, F' k → F k ∨ w.heap.size ≤ k) : Own w0 w' (Row d e v' ys :: L) := by
  have hbel := h.bel
  refine h.step fun F hF hB => ?_
  obtain ⟨h1, h2, h3, F', h4, h5⟩ := hs F hF.1 fun k hk => ⟨hB k hk, hF.2 k hk⟩
  refine ⟨h1.os.trans hbel.os.symm, h1.tape.trans hbel.tape.symm, h1.output.trans hbel.output.symm, h2, h3, _, ⟨Kd.R_bound h4, fun k hk => hk.2.2.1⟩, fun k hk => h5 k hk.1⟩
end
end Go.Proofs.YtjlcggjghlmiaaaO
