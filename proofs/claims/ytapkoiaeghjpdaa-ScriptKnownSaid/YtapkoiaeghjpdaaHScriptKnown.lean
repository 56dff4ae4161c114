/- The law ScriptKnown, walked. -/
import Derived.Test.YtapkoiaeghjpdaaScr17
import Derived.Test.YtapkoiaeghjpdaaHScriptBack
namespace Go.Proofs.Ytapkoiaeghjpdaa.PScriptWrites
open Go.RowKit Go.Proofs.YtapkoiaeghjpdaaW.PrintWords Go.Proofs.YtapkoiaeghjpdaaW.PrintLast Go.Proofs.YtapkoiaeghjpdaaW.PrintMore
open Go.Proofs.YtapkoiaeghjpdaaO
attribute [local go_sem] max2_int min2_int max_two min_two max_three min_three max_four min_four
set_option linter.unusedVariables false
set_option linter.unusedSimpArgs false
theorem own_C {w0 w : World} {R : List Asn} {α : Type} {d : Kd α} {A : Option Addr} {n c : Nat} {l : List α} {e : TypeId} (h : Own w0 w (Row d e (.slice A n c) l :: R)) : d.C w A n l := by
  obtain ⟨h1, _, h3⟩ := own_reads h
  rw [h1]
  exact h3
theorem EncodeOne {w0 w : World} {R : List Asn} (h : Own w0 w R) (A : Option Addr) (c : Nat) (x : ActS) (hr : Kd.C k33 w A [x].length [x]) (hQ : actIn x) (rl : List Int) (code : Int) (he : encR [x] = (rl, code)) :
    Calls Try.prog 14 #[.slice A 1 c] w fun e w' => ∃ A' c', e = .returned (.tuple #[.slice A' rl.length c', .int .i64 code]) ∧ Own w0 w' (Row (Kd.int .u8) 5 (.slice A' rl.length c') rl :: R) :=
  EncodeB h A c [x] hr (fun y hy => by rw [List.mem_singleton.1 hy]; exact hQ) (by simp) rl code he
theorem lit_act {w : World} (f0 f1 f2 : Int) (f3 : ByteArray) (f4 f5 : Int) (t : Nat) : Kd.C k33 (w.alloc (.cells #[.int .u8 f0, .int .i64 f1, .int .i64 f2, .string f3, .int .i64 f4, .int .i64 f5] t (0, 0))) (some ⟨w.heap.size, 0, none⟩) [(⟨f0, f1, f2, f3, f4, f5⟩ : ActS)].length [⟨f0, f1, f2, f3, f4, f5⟩] := by
  refine ⟨rfl, by simp, fun _ => ⟨_, rfl, fun j p hj => ?_⟩⟩
  have hb : (w.alloc (.cells #[.int .u8 f0, .int .i64 f1, .int .i64 f2, .string f3, .int .i64 f4, .int .i64 f5] t (0, 0))).heap[w.heap.size]? = some (.cells #[.int .u8 f0, .int .i64 f1, .int .i64 f2, .string f3, .int .i64 f4, .int .i64 f5] t (0, 0)) := by
    show (w.heap.push _)[w.heap.size]? = _
    simp
  cases j with
  | succ j => simp at hj
  | zero =>
    have hp : (⟨f0, f1, f2, f3, f4, f5⟩ : ActS) = p := by simpa using hj
    subst hp
    refine ⟨[.int .u8 f0, .int .i64 f1, .int .i64 f2, .string f3, .int .i64 f4, .int .i64 f5], rfl, Kd.K_of_M k33 (base := 0) (ok := fun _ => True) (k33_mkM w 0 (fun _ => True) ⟨f0, f1, f2, f3, f4, f5⟩), fun i u hu => ?_⟩
    have e2 : (⟨w.heap.size, 0, none⟩ : Addr).add (0 * (k33).sz + i) = ⟨w.heap.size, i, none⟩ := by
      rw [Nat.zero_mul, Nat.zero_add]
      unfold Addr.add
      by_cases h : i = 0
      · subst h; rfl
      · simp [h]
    rw [e2, cell_of_row _ _ i _ _ _ hb]
    simpa using hu
theorem numB_small (n : Nat) (h : n < 128) : numB n = [(n : Int)] := by rw [numB, if_pos h]
theorem dec_a : decR [0, 5, 7] = [⟨5, 7, 0, ⟨#[]⟩, 0, 0⟩] := (decR_go (L := [0, 5, 7]) (fun x hx => by simp at hx; omega)).symm.trans rfl
theorem dec_b : decR [9, 255] = [] := (decR_go (L := [9, 255]) (fun x hx => by simp at hx; omega)).symm.trans rfl
theorem dec_n : decR [] = [] := rfl
theorem enc_c : encR [(⟨3, 1, 2, ⟨#[]⟩, 0, 0⟩ : ActS)] = ([3, 1, 2], 0) := by
  have e : encA (⟨3, 1, 2, ⟨#[]⟩, 0, 0⟩ : ActS) = [3, 1, 2] := by
    unfold encA encF
    simp only
    rw [if_neg (by omega), if_neg (by omega), if_pos trivial, show uN 1 = 1 from rfl, show uN 2 = 2 from rfl, numB_small 1 (by omega), numB_small 2 (by omega)]
    rfl
  have ho : okA (⟨3, 1, 2, ⟨#[]⟩, 0, 0⟩ : ActS) = true := by
    unfold okA okF
    simp only
    rw [if_neg (by omega), if_neg (by omega), if_pos trivial, toList_empty]
    rfl
  have el : encL [(⟨3, 1, 2, ⟨#[]⟩, 0, 0⟩ : ActS)] = [3, 1, 2] := by rw [encL_cons, e]; rfl
  rw [← el]
  exact encR_yes (by simp [ho]) (by simp) (by rw [el]; simp)
theorem enc_e : encR [(⟨3, 1, 2, ⟨#[]⟩, 0, 1⟩ : ActS)] = ([], 1) := by
  have ho : okA (⟨3, 1, 2, ⟨#[]⟩, 0, 1⟩ : ActS) = false := by
    unfold okA okF
    simp only
    rw [if_neg (by omega), if_neg (by omega), if_pos trivial]
    simp
  unfold encR
  rw [if_neg (by simp [ho])]
theorem enc_f : encR [(⟨4, -1, 0, ⟨#[]⟩, 0, 0⟩ : ActS)] = ([], 1) := by
  have ho : okA (⟨4, -1, 0, ⟨#[]⟩, 0, 0⟩ : ActS) = false := by
    unfold okA okF numOk
    simp
  unfold encR
  rw [if_neg (by simp [ho])]
theorem in_c : actIn (⟨3, 1, 2, ⟨#[]⟩, 0, 0⟩ : ActS) := ⟨⟨by decide, by decide⟩, ⟨by decide, by decide⟩, by decide⟩
theorem in_e : actIn (⟨3, 1, 2, ⟨#[]⟩, 0, 1⟩ : ActS) := ⟨⟨by decide, by decide⟩, ⟨by decide, by decide⟩, by decide⟩
theorem in_f : actIn (⟨4, -1, 0, ⟨#[]⟩, 0, 0⟩ : ActS) := ⟨⟨by decide, by decide⟩, ⟨by decide, by decide⟩, by decide⟩
theorem DecodeN {w0 w : World} {R : List Asn} (h : Own w0 w R) (A : Option Addr) (n c : Nat) (l : List Int) (hn : l.length = n) (hr : Kd.C (Kd.int .u8) w A n l) (hc : n ≤ c) (hg : rg l) (dl : List ActS) (hd : decR l = dl) :
    Calls Try.prog 11 #[.slice A n c] w fun e w' => ∃ A' c', e = .returned (.slice A' dl.length c') ∧ Own w0 w' (Row k33 33 (.slice A' dl.length c') dl :: R) := by
  subst hn
  exact DecodeB h A c l hr hc hg dl hd
section
variable {w0 w : World} {R : List Asn}
theorem dec3 (h : Own w0 w R) : Calls Try.prog 11 #[.slice (some ⟨w.heap.size, 0, none⟩) 3 3] (w.alloc (.cells #[.int .u8 0, .int .u8 5, .int .u8 7] 5 (3, 4))) fun e w' => ∃ A' c', e = .returned (.slice A' 1 c') ∧ Own w0 w' (Row k33 33 (.slice A' 1 c') [⟨5, 7, 0, ⟨#[]⟩, 0, 0⟩] :: R) :=
  DecodeN (h.junk _) _ 3 3 [0, 5, 7] rfl (lit_C [0, 5, 7] _ _ (by decide)) (by decide) (fun x hx => by simp at hx; omega) [⟨5, 7, 0, ⟨#[]⟩, 0, 0⟩] dec_a
theorem dec2 (h : Own w0 w R) : Calls Try.prog 11 #[.slice (some ⟨w.heap.size, 0, none⟩) 2 2] (w.alloc (.cells #[.int .u8 9, .int .u8 255] 5 (2, 3))) fun e w' => ∃ A' c', e = .returned (.slice A' 0 c') ∧ Own w0 w' (Row k33 33 (.slice A' 0 c') [] :: R) :=
  DecodeN (h.junk _) _ 2 2 [9, 255] rfl (lit_C [9, 255] _ _ (by decide)) (by decide) (fun x hx => by simp at hx; omega) [] dec_b
theorem encC (h : Own w0 w R) : Calls Try.prog 14 #[.slice (some ⟨w.heap.size, 0, none⟩) 1 1] (w.alloc (.cells #[.int .u8 3, .int .i64 1, .int .i64 2, .string ⟨#[]⟩, .int .i64 0, .int .i64 0] 33 (0, 0))) fun e w' => ∃ A' c', e = .returned (.tuple #[.slice A' 3 c', .int .i64 0]) ∧ Own w0 w' (Row (Kd.int .u8) 5 (.slice A' 3 c') [3, 1, 2] :: R) :=
  EncodeOne (h.junk _) _ 1 _ (lit_act 3 1 2 ⟨#[]⟩ 0 0 _) in_c [3, 1, 2] 0 enc_c
theorem encE (h : Own w0 w R) : Calls Try.prog 14 #[.slice (some ⟨w.heap.size, 0, none⟩) 1 1] (w.alloc (.cells #[.int .u8 3, .int .i64 1, .int .i64 2, .string ⟨#[]⟩, .int .i64 0, .int .i64 1] 33 (0, 0))) fun e w' => ∃ A' c', e = .returned (.tuple #[.slice A' 0 c', .int .i64 1]) ∧ Own w0 w' (Row (Kd.int .u8) 5 (.slice A' 0 c') [] :: R) :=
  EncodeOne (h.junk _) _ 1 _ (lit_act 3 1 2 ⟨#[]⟩ 0 1 _) in_e [] 1 enc_e
theorem encF9 (h : Own w0 w R) : Calls Try.prog 14 #[.slice (some ⟨w.heap.size, 0, none⟩) 1 1] (w.alloc (.cells #[.int .u8 4, .int .i64 (-1), .int .i64 0, .string ⟨#[]⟩, .int .i64 0, .int .i64 0] 33 (0, 0))) fun e w' => ∃ A' c', e = .returned (.tuple #[.slice A' 0 c', .int .i64 1]) ∧ Own w0 w' (Row (Kd.int .u8) 5 (.slice A' 0 c') [] :: R) :=
  EncodeOne (h.junk _) _ 1 _ (lit_act 4 (-1) 0 ⟨#[]⟩ 0 0 _) in_f [] 1 enc_f
theorem same9 {A : Option Addr} {c : Nat} {L : List Asn} {P_ : Asn} (h : Own w0 w (P_ :: Row k33 33 (.slice A 1 c) [⟨5, 7, 0, ⟨#[]⟩, 0, 0⟩] :: L)) : Calls Try.prog 12 #[.slice A 1 c, .slice (some ⟨w.heap.size, 0, none⟩) 1 1] (w.alloc (.cells #[.int .u8 5, .int .i64 7, .int .i64 0, .string ⟨#[]⟩, .int .i64 0, .int .i64 0] 33 (0, 0))) fun e w' => e = .returned (.bool true) ∧ Own w0 w' (P_ :: Row k33 33 (.slice A 1 c) [⟨5, 7, 0, ⟨#[]⟩, 0, 0⟩] :: L) :=
  same_calls (h.junk _) A _ 1 1 c 1 [⟨5, 7, 0, ⟨#[]⟩, 0, 0⟩] rfl rfl (Kd.C_alloc (own_reads h.r1).2.2 _) (lit_act 5 7 0 ⟨#[]⟩ 0 0 _) (own_reads h.r1).2.1 (by decide) (by decide)
theorem decN (h : Own w0 w R) : Calls Try.prog 11 #[.slice none 0 0] w fun e w' => ∃ A' c', e = .returned (.slice A' 0 c') ∧ Own w0 w' (Row k33 33 (.slice A' 0 c') [] :: R) :=
  DecodeN h none 0 0 [] rfl (Kd.C_nil _ _) (by decide) (fun x hx => by simp at hx) _ dec_n
end
set_option maxHeartbeats 8000000 in
set_option maxRecDepth 100000 in
theorem ScriptKnown_law (w : World) : Calls Try.prog 4 #[] w fun e w' => e = .returned (.bool true) ∧ Below w.heap.size w w' := by
  have H0 := Aside0.mk (Own.nil w)
  have hs312 : (strOfNums [3, 1, 2]).toList = [3, 1, 2] := ba_toList _
  have kc := fun (w : World) (C : Array Value) (n c : Nat) => Lib.run_convert_bytes_const (P := Try.prog) w 22 5 C n c Try.underlying22 Try.underlying5
  go_enter Try.func4, Try.ntmps4
  go_wp2_with (first
    | (go_at_call 11; ((with_reducible refine (dec3 H0.out).mono ?_)); rintro e w1 ⟨A1, c1, rfl, h⟩; have H1 := Aside0.mk h; clear h)
    | (go_at_call 11; ((with_reducible refine (dec2 H1.out).mono ?_)); rintro e w2 ⟨A2, c2, rfl, h⟩; have H2 := Aside0.mk h.tail; clear h)
    | (go_at_call 14; ((with_reducible refine (encC H2.out).mono ?_)); rintro e w3 ⟨A3, c3, rfl, h⟩; have H3 := Aside0.mk h; clear h)
    | (go_at_call 14; ((with_reducible refine (encE H3.out).mono ?_)); rintro e w4 ⟨A4, c4, rfl, h⟩; have H4 := Aside0.mk h.tail; clear h)
    | (go_at_call 14; ((with_reducible refine (encF9 H4.out).mono ?_)); rintro e w5 ⟨A5, c5, rfl, h⟩; have H5 := Aside0.mk h.tail; clear h)
    | (go_at_call 10; ((with_reducible refine (awake_calls H5.out).mono ?_)); rintro e w6 ⟨rfl, h⟩; have H6 := Aside0.mk h; clear h)
    | (go_at_call 12; ((with_reducible refine (same9 H6.out).mono ?_)); rintro e w7 ⟨rfl, h⟩; have kcv := Kd.C_string (P := Try.prog) (c := c3) Try.underlying22 Try.underlying5 Try.underlying9 (own_C h); have H7 := Aside0.mk h; clear h)
    | (go_at_call 11; ((with_reducible refine (decN H7.out).mono ?_)); rintro e w8 ⟨A8, c8, rfl, h⟩; have H8 := Aside0.mk h; clear h))
  go_ret
  exact ⟨rfl, H8.out.bel⟩
end Go.Proofs.Ytapkoiaeghjpdaa.PScriptWrites
