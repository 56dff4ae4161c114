/- Items that were seen (package seen): Of as one; slices that are written down. -/
import Derived.Test.YtboomdjkgheonaaSeen8
namespace Go.Proofs.Ytboomdjkgheonaa.PSeenPlays
open Go.RowKit Go.Proofs.YtboomdjkgheonaaW.PrintWords Go.Proofs.YtboomdjkgheonaaW.PrintLast Go.Proofs.YtboomdjkgheonaaW.PrintMore
open Go.Proofs.YtboomdjkgheonaaO
open Go.Maps Go.Sort Go.Shelf
attribute [local go_sem] max2_int min2_int max_two min_two max_three min_three max_four min_four
set_option linter.unusedVariables false
set_option linter.unusedSimpArgs false
section
variable {w0 w w' : World} {R : List Asn} {g N b : Nat} {lo : Nat → Int} {co : Nat → Int → Option Int}
theorem ofOk_len {lows : List Int} {l : List S33} (h : lows.length ≠ 4) : ¬ OfOk lows l := fun q => h q.1
theorem SeenOf_bad (A : Option Addr) (n c : Nat) (lows : List Int) (B : Option Addr) (m d : Nat) (l : List S33) (w : World) (hn : lows.length = n) (hm : l.length = m) (hr : Kd.C (Kd.int .i64) w A n lows) (hc : n ≤ c) (hs : Kd.C k33 w B m l) (hd : m ≤ d) (hl : m < 1000000000) (hno : ¬ OfOk lows l) :
    Calls Try.prog 12 #[.slice A n c, .slice B m d] w fun e w' => e = .returned (.tuple #[.pointer none, .int .i64 1]) ∧ Below w.heap.size w w' := by
  subst hn hm
  by_cases h4 : lows.length = 4
  · refine (SeenOf_4 A c lows B d l w hr hc hs hd hl h4).mono fun e w' h => ?_
    rcases h with h | h
    · exact absurd h.1 hno
    · exact h.2
  · exact (SeenOf_ne A c lows B d l w h4).mono fun e w' ⟨h1, h2⟩ => ⟨h1, h2 ▸ Below.refl _ _⟩
theorem SeenOf_good (h : Own w0 w R) (A : Option Addr) (n c : Nat) (lows : List Int) (B : Option Addr) (m d : Nat) (l : List S33) (hn : lows.length = n) (hm : l.length = m) (hr : Kd.C (Kd.int .i64) w A n lows) (hc : n ≤ c) (hs : Kd.C k33 w B m l) (hd : m ≤ d) (hl : m < 1000000000) (hok : OfOk lows l) :
    Calls Try.prog 12 #[.slice A n c, .slice B m d] w fun e w' => ∃ g, e = .returned (.tuple #[.pointer (some ⟨g, 0, none⟩), .int .i64 0]) ∧ Own w0 w' (SeenA g m (lowsF lows) (ofCo l) :: R) := by
  subst hn hm
  refine (SeenOf_4 A c lows B d l w hr hc hs hd hl hok.1).mono fun e w' h2 => ?_
  rcases h2 with ⟨_, g, he, ho⟩ | h2
  · exact ⟨g, he, seen_nest h ho⟩
  · exact absurd hok h2.1
theorem lit_ints (W : World) (o : Obj) (xs : List Int) (t : Nat) (ho : o = .cells (xs.map (Value.int .i64)).toArray t (0, 0)) (hx : xs.length ≤ 9223372036854775807) (n b : Nat) (hn : n = xs.length) (hb : b = W.heap.size) : Kd.C (Kd.int .i64) (W.alloc o) (some ⟨b, 0, none⟩) n xs := by
  subst hn hb ho
  refine ⟨rfl, hx, fun _ => ⟨_, rfl, fun j p hj => ⟨[.int .i64 p], rfl, rfl, fun i u hu => ?_⟩⟩⟩
  cases i with
  | succ i => simp at hu
  | zero =>
    have hu : u = .int .i64 p := by simpa using hu.symm
    subst hu
    have h1 : (W.alloc (.cells (xs.map (Value.int .i64)).toArray t (0, 0))).heap[W.heap.size]? = some (.cells (xs.map (Value.int .i64)).toArray t (0, 0)) := by show (W.heap.push _)[W.heap.size]? = _; simp
    have h2 := blk_cell h1 (j * 1 + 0)
    have e : (Addr.add ⟨W.heap.size, 0, none⟩ (j * (Kd.int .i64).sz + 0)) = ⟨W.heap.size, j * 1 + 0, none⟩ := by
      rw [show (Kd.int .i64).sz = 1 from rfl]
      simp [Addr.add]
      try omega
    rw [e, h2]
    simp [hj]
def cellsE (x : S33) : List Value := [.int .i64 x.f0, .int .i64 x.f1, .int .i64 x.f2]
theorem flat3 : ∀ (xs : List S33) (j : Nat) (p : S33) (i : Nat) (u : Value), xs[j]? = some p → (cellsE p)[i]? = some u → (xs.flatMap cellsE)[j * 3 + i]? = some u
  | x :: xs, 0, p, i, u, hj, hi => by
    obtain rfl : x = p := by simpa using hj
    have hl : i < (cellsE x).length := (List.getElem?_eq_some_iff.1 hi).1
    rw [List.flatMap_cons, Nat.zero_mul, Nat.zero_add, List.getElem?_append_left hl, hi]
  | x :: xs, j + 1, p, i, u, hj, hi => by
    have := flat3 xs j p i u (by simpa using hj) hi
    rw [List.flatMap_cons, List.getElem?_append_right (by show 3 ≤ _; omega)]
    show (xs.flatMap cellsE)[(j + 1) * 3 + i - 3]? = some u
    rw [show (j + 1) * 3 + i - 3 = j * 3 + i by omega]
    exact this
theorem lit_entries (W : World) (o : Obj) (xs : List S33) (t : Nat) (ho : o = .cells (xs.flatMap cellsE).toArray t (0, 0)) (hx : xs.length ≤ 9223372036854775807) (n b : Nat) (hn : n = xs.length) (hb : b = W.heap.size) : Kd.C k33 (W.alloc o) (some ⟨b, 0, none⟩) n xs := by
  subst hn hb ho
  refine ⟨rfl, hx, fun _ => ⟨_, rfl, fun j p hj => ⟨cellsE p, rfl, k33_mk _ p, fun i u hu => ?_⟩⟩⟩
  have h1 : (W.alloc (.cells (xs.flatMap cellsE).toArray t (0, 0))).heap[W.heap.size]? = some (.cells (xs.flatMap cellsE).toArray t (0, 0)) := by show (W.heap.push _)[W.heap.size]? = _; simp
  have h2 := blk_cell h1 (j * 3 + i)
  have e : (Addr.add ⟨W.heap.size, 0, none⟩ (j * (k33).sz + i)) = ⟨W.heap.size, j * 3 + i, none⟩ := by
    rw [show (k33).sz = 3 from rfl]
    simp [Addr.add]
    try omega
  rw [e, h2]
  have := flat3 xs j p i u hj hu
  simpa using this
end
end Go.Proofs.Ytboomdjkgheonaa.PSeenPlays
