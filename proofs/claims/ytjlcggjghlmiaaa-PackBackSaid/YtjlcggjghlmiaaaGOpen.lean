/- What an argument of a Go type reads as: by kinds, from the row's own reading. -/
import Derived.ProofKit
import Derived.OpenShut
import Derived.WideShapes
import Derived.ChangeSlices
import Derived.Test.YtjlcggjghlmiaaaWArr
import Derived.Test.YtjlcggjghlmiaaaWWords
namespace Go.Proofs.YtjlcggjghlmiaaaG
open Go.RowKit Go.ChangeShapes Go.WideShapes Go.Proofs.YtjlcggjghlmiaaaW.PrintWords

/-- Whatever is read at type T is of kind d, and meets Q. -/
def Opens {α : Type} (P : Program) (T : TypeId) (d : Kd α) (Q : α → Prop) : Prop :=
  ∀ (H : Type) (enc : TypeId × Value → H) (w : World) (base : Nat) (spare : Nat → Bool) (held : Bool) (fuel : Nat) (cs : List Value) (y : DataW H × List MemPlace),
    DataW.trod enc P w base spare held fuel T cs = some y → ∃ x, d.K w x cs ∧ Q x

section
variable {P : Program} {T : TypeId}
theorem opens_int {k : IntKind} (h : P.underlying T = some (.int k)) : Opens P T (Kd.int k) (fun x => (Lit.int k x).wf = true) := by
  intro H enc w base spare held fuel cs y hy
  obtain ⟨n, rfl, _, hw⟩ := DataW.trod_int h hy
  exact ⟨n, rfl, hw⟩
theorem opens_bool (h : P.underlying T = some .bool) : Opens P T Kd.bool (fun _ => True) := by
  intro H enc w base spare held fuel cs y hy
  obtain ⟨b, rfl, _⟩ := DataW.trod_bool h hy
  exact ⟨b, rfl, trivial⟩
theorem opens_string (h : P.underlying T = some .string) : Opens P T Kd.string (fun s => s.size ≤ 9223372036854775807) := by
  intro H enc w base spare held fuel cs y hy
  obtain ⟨s, rfl, _, hw⟩ := DataW.trod_string h hy
  exact ⟨s, rfl, hw⟩
theorem opens_slice {α : Type} {e : TypeId} {d : Kd α} {Q : α → Prop} (h : P.underlying T = some (.slice e)) (hc : P.cellsOf e = d.sz) (he : Opens P e d Q) :
    Opens P T (Kd.slice e d) (fun xs => xs.length ≤ 9223372036854775807 ∧ ∀ x ∈ xs, Q x) := by
  intro H enc w base spare held fuel cs y hy
  rcases DataW.trod_slice h hy with ⟨rfl, _⟩ | ⟨a, len, cap, elems, rest, n, _, rfl, _, _, hl, hm, hlen, hel, _, _⟩
  · exact ⟨[], ⟨none, 0, rfl, Nat.le_refl _, rfl, by simp, fun h => by simp at h⟩, by simp, by simp⟩
  · have each : ∀ i, i < len → ∃ x cs', w.cells? base (a.add (i * P.cellsOf e)) (P.cellsOf e) = some cs' ∧ d.K w x cs' ∧ Q x := by
      intro i hi
      have h1 := hel i hi
      rw [List.getElem?_eq_getElem (by omega), Option.bind_eq_some_iff] at h1
      obtain ⟨cs', h2, h3⟩ := h1
      obtain ⟨x, hx, hq⟩ := he H enc w base spare held n cs' _ h3
      exact ⟨x, cs', h2, hx, hq⟩
    let f : Fin len → α := fun i => (each i.val i.isLt).choose
    have hf : ∀ i : Fin len, ∃ cs', w.cells? base (a.add (i.val * P.cellsOf e)) (P.cellsOf e) = some cs' ∧ d.K w (f i) cs' ∧ Q (f i) := fun i => (each i.val i.isLt).choose_spec
    have hlen2 : (List.ofFn f).length = len := List.length_ofFn
    have hm2 : cap ≤ 9223372036854775807 := hm
    refine ⟨List.ofFn f, ⟨some a, cap, by rw [hlen2], by omega, ?_⟩, by omega, ?_⟩
    · rw [hlen2]
      refine ⟨hlen2, by omega, fun _ => ⟨a, rfl, fun j p hj => ?_⟩⟩
      have hjl : j < len := by
        have := (List.getElem?_eq_some_iff.1 hj).1
        omega
      have hp : p = f ⟨j, hjl⟩ := by
        rw [List.getElem?_eq_getElem (by omega), List.getElem_ofFn] at hj
        exact (Option.some.inj hj).symm
      subst hp
      obtain ⟨cs', h1, h2, _⟩ := hf ⟨j, hjl⟩
      obtain ⟨_, hcl, hcc⟩ := World.cells?_some h1
      refine ⟨cs', by rw [hcl, hc], h2, fun i u hu => ?_⟩
      have hi : i < cs'.length := (List.getElem?_eq_some_iff.1 hu).1
      have h3 := hcc i (by omega)
      rw [hu] at h3
      rw [← hc, ← add_add]
      exact h3
    · intro x hx
      obtain ⟨i, hi⟩ := List.getElem?_of_mem hx
      have hjl : i < len := by
        have := (List.getElem?_eq_some_iff.1 hi).1
        omega
      rw [List.getElem?_eq_getElem (by omega), List.getElem_ofFn] at hi
      rw [← Option.some.inj hi]
      exact (hf ⟨i, hjl⟩).choose_spec.2.2

/-- The fields from one on, whose cells begin at off. -/
def OpensF {α : Type} (P : Program) (fs : List Field) (off : Nat) (d : Kd α) (Q : α → Prop) : Prop :=
  ∀ (H : Type) (enc : TypeId × Value → H) (w : World) (base : Nat) (spare : Nat → Bool) (held : Bool) (n : Nat) (cs : List Value),
    cs.length = off + d.sz → (∀ f ∈ fs, ∃ y, DataW.trod enc P w base spare held n f.type ((cs.drop f.offset).take (P.cellsOf f.type)) = some y) → ∃ x, d.K w x (cs.drop off) ∧ Q x
theorem opensF_one {α : Type} {f : Field} {off : Nat} {d : Kd α} {Q : α → Prop} (ho : f.offset = off) (hc : P.cellsOf f.type = d.sz) (h : Opens P f.type d Q) : OpensF P [f] off d Q := by
  intro H enc w base spare held n cs hl hf
  obtain ⟨y, hy⟩ := hf f (by simp)
  obtain ⟨x, hx, hq⟩ := h H enc w base spare held n _ y hy
  refine ⟨x, ?_, hq⟩
  rw [ho, hc, List.take_of_length_le (by rw [List.length_drop]; omega)] at hx
  exact hx
theorem opensF_cons {α β : Type} {f : Field} {fs : List Field} {off o2 : Nat} {d : Kd α} {Q : α → Prop} {b : Kd β} {R : β → Prop} (ho : f.offset = off) (hc : P.cellsOf f.type = d.sz) (h : Opens P f.type d Q)
    (ho2 : o2 = off + d.sz) (hr : OpensF P fs o2 b R) : OpensF P (f :: fs) off (Kd.pair d b) (fun x => Q x.1 ∧ R x.2) := by
  intro H enc w base spare held n cs hl hf
  have hl2 : cs.length = off + (d.sz + b.sz) := hl
  obtain ⟨y, hy⟩ := hf f (by simp)
  obtain ⟨x, hx, hq⟩ := h H enc w base spare held n _ y hy
  obtain ⟨x2, hx2, hq2⟩ := hr H enc w base spare held n cs (by omega) (fun g hg => hf g (by simp [hg]))
  refine ⟨(x, x2), ⟨_, _, ?_, hx, hx2⟩, hq, hq2⟩
  rw [ho, hc, ho2, ← List.drop_drop, List.take_append_drop]
theorem opens_struct {α : Type} {fs : Array Field} {d : Kd α} {Q : α → Prop} (h : P.underlying T = some (.struct fs)) (hc : P.cellsOf T = d.sz) (hf : OpensF P fs.toList 0 d Q) : Opens P T d Q := by
  intro H enc w base spare held fuel cs y hy
  obtain ⟨xs, n, _, _, hl, hlen, hel⟩ := DataW.trod_struct h hy
  obtain ⟨x, hx, hq⟩ := hf H enc w base spare held n cs (by omega) (fun f hm => by
    obtain ⟨i, hi⟩ := List.getElem?_of_mem hm
    have h1 := hel i f (by simpa using hi)
    have hil : i < fs.size := by
      have := (List.getElem?_eq_some_iff.1 hi).1
      simpa using this
    rw [List.getElem?_eq_getElem (by omega)] at h1
    exact ⟨_, h1⟩)
  exact ⟨x, hx, hq⟩
theorem opens_iso {α β : Type} {d : Kd α} {Q : α → Prop} (f : β → α) (g : α → β) (hfg : ∀ x, f (g x) = x) (h : Opens P T d Q) : Opens P T (Kd.iso d f) (fun x => Q (f x)) := by
  intro H enc w base spare held fuel cs y hy
  obtain ⟨x, hx, hq⟩ := h H enc w base spare held fuel cs y hy
  refine ⟨g x, ?_, ?_⟩
  · show d.K w (f (g x)) cs
    rw [hfg]
    exact hx
  · show Q (f (g x))
    rw [hfg]
    exact hq
theorem opens_array {α : Type} {e : TypeId} {n : Nat} {d : Kd α} {Q : α → Prop} (hs : 0 < d.sz) (h : P.underlying T = some (.array n e)) (hT : P.cellsOf T = n * d.sz) (hc : P.cellsOf e = d.sz) (he : Opens P e d Q) :
    Opens P T (Kd.arr n d hs) (fun xs => ∀ x ∈ xs, Q x) := by
  intro H enc w base spare held fuel cs y hy
  obtain ⟨ys, m, _, _, hl, hlen, hel⟩ := DataW.trod_array h hy
  have each : ∀ i, i < n → ∃ x, d.K w x ((cs.drop (i * d.sz)).take d.sz) ∧ Q x := by
    intro i hi
    have h1 := hel i hi
    rw [List.getElem?_eq_getElem (by omega), hc] at h1
    exact he H enc w base spare held m _ _ h1
  let f : Fin n → α := fun i => (each i.val i.isLt).choose
  have hf : ∀ i : Fin n, d.K w (f i) ((cs.drop (i.val * d.sz)).take d.sz) ∧ Q (f i) := fun i => (each i.val i.isLt).choose_spec
  have hlen2 : (List.ofFn f).length = n := List.length_ofFn
  refine ⟨List.ofFn f, ⟨hlen2, by rw [hlen2]; omega, fun j p hj => ?_⟩, ?_⟩
  · have hjl : j < n := by
      have := (List.getElem?_eq_some_iff.1 hj).1
      omega
    rw [List.getElem?_eq_getElem (by omega), List.getElem_ofFn] at hj
    rw [← Option.some.inj hj]
    exact (hf ⟨j, hjl⟩).1
  · intro x hx
    obtain ⟨i, hi⟩ := List.getElem?_of_mem hx
    have hjl : i < n := by
      have := (List.getElem?_eq_some_iff.1 hi).1
      omega
    rw [List.getElem?_eq_getElem (by omega), List.getElem_ofFn] at hi
    rw [← Option.some.inj hi]
    exact (hf ⟨i, hjl⟩).2
end
end Go.Proofs.YtjlcggjghlmiaaaG
