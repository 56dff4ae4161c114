/- Acts as bytes (package script): the laws' first step, and what the laws share. -/
import Derived.Test.YtapkoiaeghjpdaaScr14
import Derived.Test.YtapkoiaeghjpdaaScr9
import Derived.Lib.SlBytesConst
namespace Go.Proofs.Ytapkoiaeghjpdaa.PScriptWrites
open Go.RowKit Go.Proofs.YtapkoiaeghjpdaaW.PrintWords Go.Proofs.YtapkoiaeghjpdaaW.PrintLast Go.Proofs.YtapkoiaeghjpdaaW.PrintMore
open Go.Proofs.YtapkoiaeghjpdaaO
attribute [local go_sem] max2_int min2_int max_two min_two max_three min_three max_four min_four
set_option linter.unusedVariables false
set_option linter.unusedSimpArgs false
section
variable {w0 w w' : World} {R L : List Asn} {α : Type} {d : Kd α} {e : Nat} {v : Value} {xs : List α}
theorem Own.rebase (h : Own w0 w L) (h2 : Own w w' (Row d e v xs :: [])) : Own w0 w' (Row d e v xs :: L) := by
  obtain ⟨F, hr, _⟩ := h2.row_out
  exact h.row_new h2.bel hr
theorem lit_C {w : World} (l : List Int) (t : Nat) (f : Nat × Nat) (hl : l.length ≤ 9223372036854775807) : Kd.C (Kd.int .u8) (w.alloc (.cells (l.map (Value.int .u8)).toArray t f)) (some ⟨w.heap.size, 0, none⟩) l.length l := by
  refine ⟨rfl, hl, fun _ => ⟨_, rfl, fun j p hj => ⟨[.int .u8 p], rfl, rfl, fun i u hu => ?_⟩⟩⟩
  cases i with
  | succ i => simp at hu
  | zero =>
    have hu2 : .int .u8 p = u := by simpa using hu
    subst hu2
    have hb : (w.alloc (.cells (l.map (Value.int .u8)).toArray t f)).heap[w.heap.size]? = some (.cells (l.map (Value.int .u8)).toArray t f) := by
      show (w.heap.push _)[w.heap.size]? = _
      simp
    have e2 : (⟨w.heap.size, 0, none⟩ : Addr).add (j * (Kd.int .u8).sz + 0) = ⟨w.heap.size, j, none⟩ := by
      show (⟨w.heap.size, 0, none⟩ : Addr).add (j * 1 + 0) = _
      rw [Nat.mul_one, Nat.add_zero]
      unfold Addr.add
      by_cases h : j = 0
      · subst h; rfl
      · simp [h]
    rw [e2, cell_of_row _ _ j _ _ _ hb]
    simp [hj]
theorem own_act_at {A : Option Addr} {n c : Nat} {l : List ActS} {e : TypeId} (h : Own w0 w (Row k33 e (.slice A n c) l :: R)) (k : Nat) (f0 f1 f2 : Int) (f3 : ByteArray) (f4 f5 : Int) (hx : l[k]? = some ⟨f0, f1, f2, f3, f4, f5⟩) : ∃ ad, A = some ad ∧ w.cell? (ad.add (k * 6)) = some (.int .u8 f0) ∧ w.cell? ⟨(ad.add (k * 6)).block, (ad.add (k * 6)).off + 1, none⟩ = some (.int .i64 f1) ∧ w.cell? ⟨(ad.add (k * 6)).block, (ad.add (k * 6)).off + 2, none⟩ = some (.int .i64 f2) ∧ w.cell? ⟨(ad.add (k * 6)).block, (ad.add (k * 6)).off + 3, none⟩ = some (.string f3) ∧ w.cell? ⟨(ad.add (k * 6)).block, (ad.add (k * 6)).off + 4, none⟩ = some (.int .i64 f4) ∧ w.cell? ⟨(ad.add (k * 6)).block, (ad.add (k * 6)).off + 5, none⟩ = some (.int .i64 f5) := by
  obtain ⟨A2, c2, e2, _, hC⟩ := h.row_reads
  cases e2
  have hk : k < l.length := (List.getElem?_eq_some_iff.1 hx).1
  obtain ⟨ad, e3, _⟩ := at_T33 hC (k : Int) (by omega) (by omega)
  subst e3
  exact ⟨ad, rfl, act_at hC (Below.refl _ _) k hk f0 f1 f2 f3 f4 f5 hx⟩
theorem add_zero' (p : Addr) : p.add 0 = p := by cases p; simp [Addr.add]
theorem add_six (p : Addr) : p.add 6 = ⟨p.block, p.off + 6, none⟩ := rfl
/-- Any row of acts, encoded. -/
theorem EncodeB (h : Own w0 w R) (A : Option Addr) (c : Nat) (l : List ActS) (hr : Kd.C k33 w A l.length l) (hQ : ∀ x ∈ l, actIn x) (hL : l.length ≤ 10000000) (rl : List Int) (code : Int) (he : encR l = (rl, code)) :
    Calls Try.prog 14 #[.slice A l.length c] w fun e w' => ∃ A' c', e = .returned (.tuple #[.slice A' rl.length c', .int .i64 code]) ∧ Own w0 w' (Row (Kd.int .u8) 5 (.slice A' rl.length c') rl :: R) :=
  (EncodeF (Own.nil w) A c l hr hQ hL rl code he).mono fun _ _ ⟨A', c', h1, h2⟩ => ⟨A', c', h1, Own.rebase h h2⟩
end
def ReadsF : Prop := ∀ (w0 w : World) (R : List Asn) (s : ByteArray), Own w0 w R → s.size < 1000000 → ∀ (a : ActS) (m : Int) (b : Bool), readV s = (a, m, b) → Calls Try.prog 19 #[.string s] w fun e w' => e = .returned (.tuple #[.agg #[.int .u8 a.f0, .int .i64 a.f1, .int .i64 a.f2, .string a.f3, .int .i64 a.f4, .int .i64 a.f5], .int .i64 m, .bool b]) ∧ Own w0 w' R
section
variable {w0 w w' : World} {R L : List Asn}
theorem DecodeX (HF : ReadsF) (h : Own w0 w R) (A : Option Addr) (c : Nat) (l : List Int) (hr : Kd.C (Kd.int .u8) w A l.length l) (hc : l.length ≤ c) (hg : rg l) (dl : List ActS) (hd : decR l = dl) :
    Calls Try.prog 11 #[.slice A l.length c] w fun e w' => ∃ A' c', e = .returned (.slice A' dl.length c') ∧ Own w0 w' (Row k33 33 (.slice A' dl.length c') dl :: R) := by
  have hgo := decR_go hg
  by_cases hn : l.length ≤ 65536
  · rw [List.take_of_length_le hn] at hgo
    exact DecodeF h A c l hr hc hn dl (hgo.trans hd) (fun w R s => HF _ w R s)
  · have hl : (l.take 65536).length = 65536 := by rw [List.length_take]; omega
    have hr2 := Kd.C_take hr (m := 65536) (by omega)
    rw [hl] at hr2
    exact DecodeG h A l.length c (l.take 65536) hr2 (by omega) hc (by omega) dl (hgo.trans hd) (fun w R s => HF _ w R s)
attribute [local go_sem high] eqA33
set_option maxHeartbeats 4000000 in
set_option maxRecDepth 100000 in
theorem awakeX (HF : ReadsF) (h : Own w0 w R) : Calls Try.prog 10 #[] w fun e w' => e = .returned (.bool true) ∧ Own w0 w' R := by
  have HFA := Aside0.mk HF
  have H0 := Aside0.mk h
  have kc := fun (w : World) (C : Array Value) (n c : Nat) => Lib.run_convert_bytes_const (P := Try.prog) w 22 5 C n c Try.underlying22 Try.underlying5
  have HC := Aside0.mk (show Kd.C (Kd.int .u8) (w.alloc (.cells #[.int .u8 0, .int .u8 1, .int .u8 0, .int .u8 1, .int .u8 97, .int .u8 20, .int .u8 10, .int .u8 4, .int .u8 172, .int .u8 2] 5 (10, 11))) (some ⟨w.heap.size, 0, none⟩) [(0 : Int), 1, 0, 1, 97, 20, 10, 4, 172, 2].length [0, 1, 0, 1, 97, 20, 10, 4, 172, 2] from lit_C [0, 1, 0, 1, 97, 20, 10, 4, 172, 2] _ _ (by decide))
  have HD := Aside0.mk awake_dec
  have HL := Aside0.mk (show [(0 : Int), 1, 0, 1, 97, 20, 10, 4, 172, 2].length ≤ 65536 by decide)
  have HL2 := Aside0.mk (show [(0 : Int), 1, 0, 1, 97, 20, 10, 4, 172, 2].length ≤ 10 by decide)
  clear h HF
  go_enter Try.func10, Try.ntmps10
  go_wp2_with (go_at_call 11; ((refine (DecodeF (H0.out.junk _) _ 10 _ HC.out HL2.out HL.out _ HD.out (fun w R s => HFA.out _ w R s)).mono ?_)); rintro e w1 ⟨A1, c1, rfl, h⟩; obtain ⟨ad, rfl, y0, y1, y2, y3, y4, y5⟩ := own_act_at h 0 1 0 0 ⟨#[97]⟩ 10 5 rfl; obtain ⟨ad2, e2, z0, z1, z2, z3, z4, z5⟩ := own_act_at h 1 4 300 0 ⟨#[]⟩ 0 0 rfl; obtain rfl : ad = ad2 := Option.some.inj e2; rw [Nat.zero_mul, add_zero'] at y0 y1 y2 y3 y4 y5; rw [Nat.one_mul, add_six] at z0 z1 z2 z3 z4 z5; clear e2 kc; have H1 := Aside0.mk h.tail; clear h)
  go_ret
  exact ⟨rfl, H1.out⟩
end
end Go.Proofs.Ytapkoiaeghjpdaa.PScriptWrites
