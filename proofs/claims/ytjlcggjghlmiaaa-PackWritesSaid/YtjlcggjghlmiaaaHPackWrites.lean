/- The law PackWrites, walked: whatever the parts, it answers true. -/
import Derived.Test.YtjlcggjghlmiaaaPackG
namespace Go.Proofs.Ytjlcggjghlmiaaa.PPackWrites
open Go.RowKit Go.Proofs.YtjlcggjghlmiaaaW.PrintWords Go.Proofs.YtjlcggjghlmiaaaW.PrintLast Go.Proofs.YtjlcggjghlmiaaaW.PrintMore
open Go.Proofs.YtjlcggjghlmiaaaO
attribute [local go_sem] max2_int min2_int max_two min_two max_three min_three max_four min_four
set_option linter.unusedVariables false
set_option linter.unusedSimpArgs false
set_option maxHeartbeats 4000000 in
set_option maxRecDepth 100000 in
theorem PackWrites_great (A : Option Addr) (c : Nat) (l : List S38) (w : World) (hr : Kd.C k38 w A l.length l) (hc : l.length ≤ c) (hg : meterlaw02_Great.f 502 l = some true) :
    Calls Try.prog 4 #[.slice A l.length c] w fun e w' => e = .returned (.bool true) ∧ Below w.heap.size w w' := by
  have HG := Aside0.mk hg
  have HR := Aside0.mk hr
  have HC := Aside0.mk hc
  clear hg hr hc
  go_enter Try.func4, Try.ntmps4
  go_wp2_with (first
    | (go_at_call 9; with_reducible refine (awake_calls w).mono ?_; rintro e w1 ⟨rfl, hb⟩; have B1 := Aside0.mk hb; clear hb)
    | (go_at_call 15; with_reducible refine (meterlaw02_Great.calls 502 A c l true w1 (Kd.C_below HR.out B1.out) HC.out HG.out).mono ?_; rintro e w2 ⟨rfl, hb⟩; have B2 := Aside0.mk hb; clear hb))
  go_ret
  exact ⟨rfl, below_step B1.out B2.out⟩
set_option maxHeartbeats 4000000 in
set_option maxRecDepth 100000 in
theorem PackWrites_small (A : Option Addr) (c : Nat) (l : List S38) (w : World) (hr : Kd.C k38 w A l.length l) (hc : l.length ≤ c) (hx : ∀ x ∈ l, PartOk x) (hg : meterlaw02_Great.f 502 l = some false) (h5 : l.length ≤ 500) (ht : tot l ≤ 60000) :
    Calls Try.prog 4 #[.slice A l.length c] w fun e w' => e = .returned (.bool true) ∧ Below w.heap.size w w' := by
  have HG := Aside0.mk hg
  have HR := Aside0.mk hr
  have HC := Aside0.mk hc
  have HX := Aside0.mk hx
  have HM := Aside0.mk (allB_max l hx h5 ht)
  have HT := Aside0.mk (fun k hk => tot_mem ht k hk)
  clear hg hr hc hx ht
  go_enter Try.func4, Try.ntmps4
  go_wp2_with (first
    | (go_at_call 9; with_reducible refine (awake_calls w).mono ?_; rintro e w1 ⟨rfl, hb⟩; have B1 := Aside0.mk hb; clear hb)
    | (go_at_call 15; with_reducible refine (meterlaw02_Great.calls 502 A c l false w1 (Kd.C_below HR.out B1.out) HC.out HG.out).mono ?_; rintro e w2 ⟨rfl, hb⟩; have B2 := Aside0.mk hb; clear hb))
  have H0 := Aside0.mk (out_new (((Own.nil w).below (below_step B1.out B2.out)).alloc (.cells #[.slice none 0 0] 26 (0, 0))))
  go_loopw [5, 6] (fun v5 v6 wr => ∃ k : Nat, k ≤ l.length ∧ v5 = .string (strOfNums (allB (l.take k))) ∧ v6 = .int .i64 k ∧ Aside0 (Own w wr [Out w2.heap.size (allB (l.take k))])) (fun _ v6 _ => l.length - (intOf v6).toNat)
  case atStart => exact ⟨0, Nat.zero_le _, rfl, rfl, H0⟩
  case round =>
    obtain ⟨k, hk, rfl, rfl, HO⟩ := hrel
    by_cases hlt : k < l.length
    · have hxk := HX.out _ (List.getElem_mem hlt)
      have hsk := HT.out k hlt
      have hmk := HM.out k
      have hmk1 := HM.out (k + 1)
      rw [allB_snoc l k hlt] at hmk1
      have hsn := Lib.hid (allB_snoc l k hlt)
      have hgk := List.getElem?_eq_getElem hlt
      generalize l[k] = x at hxk hsk hsn hgk hmk1
      obtain ⟨f0, f1, f2, f3, f4, f5⟩ := x
      rcases A with _ | ad
      · exact absurd (HR.out.2.2 (by omega)) (by rintro ⟨_, h, _⟩; cases h)
      have HGK := Aside0.mk hgk
      have HXK := Aside0.mk hxk
      have hs1 := size_strOf (allB (l.take k))
      have hs2 := size_strOf (partB ⟨f0, f1, f2, f3, f4, f5⟩)
      rw [List.length_append] at hmk1
      have hsz : (strOfNums (allB (l.take k))).size + (strOfNums (partB ⟨f0, f1, f2, f3, f4, f5⟩)).size ≤ 9223372036854775807 := by omega
      obtain ⟨P, hP⟩ : ∃ P, partB ⟨f0, f1, f2, f3, f4, f5⟩ = P := ⟨_, rfl⟩
      have HP := Lib.hid hP
      rw [hP] at hsn hsz
      have he : strOfNums (allB (l.take k)) ++ strOfNums P = strOfNums (allB (l.take k) ++ P) := (strOf_append _ _).symm
      have HE := Lib.hid he
      have HL := Lib.hid (show (allB (l.take k)).length < 100000000000 by omega)
      have HF := Lib.hid (show f3.size < 1000000 by simp only at hsk; omega)
      clear hP he hgk hxk hs1 hs2 hmk hmk1 hsk
      obtain ⟨a0, a1, a2, a3, a4, a5⟩ := elem_at HR.out HO.out.bel k hlt f0 f1 f2 f3 f4 f5 HGK.out
      go_wp2_with (first
        | (go_at_call 16; with_reducible refine (write_calls HO.out f0 f1 f2 f3 f4 f5 HXK.out HF.out HL.out).mono ?_; rintro e w3 ⟨rfl, h⟩; rw [HP.out] at h; have H3 := Aside0.mk h; clear h a0 a1 a2 a3 a4 a5; obtain ⟨a0, a1, a2, a3, a4, a5⟩ := elem_at HR.out H3.out.bel k hlt f0 f1 f2 f3 f4 f5 HGK.out)
        | (go_at_call 16; with_reducible refine (write_nil w3 f0 f1 f2 f3 f4 f5).mono ?_; rintro e w4 ⟨rfl, h⟩; have H4 := Aside0.mk (H3.out.below h); clear h a0 a1 a2 a3 a4 a5; obtain ⟨a0, a1, a2, a3, a4, a5⟩ := elem_at HR.out H4.out.bel k hlt f0 f1 f2 f3 f4 f5 HGK.out)
        | (go_at_call 17; with_reducible refine (bytes_calls w4 f0 f1 f2 f3 f4 f5 HXK.out HF.out).mono ?_; rintro e w5 ⟨rfl, h⟩; rw [HP.out]; have H5 := Aside0.mk (H4.out.below h); clear h a0 a1 a2 a3 a4 a5)
        | (go_at_call 14; with_reducible refine (OutString H5.out).mono ?_; rintro e w6 ⟨rfl, rfl⟩; rw [← HE.out]))
      go_roundw
      case rel => exact ⟨k + 1, by omega, by rw [hsn.out, strOf_append], by go_num, by rw [hsn.out]; exact H5⟩
      case measure => simp [intOf]; omega
    · have hk' : k = l.length := by omega
      subst hk'
      go_wp2_with (go_at_call 14; with_reducible refine (ostr_nil _).mono ?_; rintro e w7 ⟨rfl, rfl⟩)
      go_ret
      exact ⟨rfl, HO.out.bel⟩
theorem PackWrites_walk (A : Option Addr) (c : Nat) (l : List S38) (w : World) (hr : Kd.C k38 w A l.length l) (hc : l.length ≤ c) (hx : ∀ x ∈ l, PartOk x) :
    Calls Try.prog 4 #[.slice A l.length c] w fun e w' => e = .returned (.bool true) ∧ Below w.heap.size w w' := by
  obtain ⟨r, hg, hgf⟩ := great_f l
  cases r with
  | true => exact PackWrites_great A c l w hr hc hg
  | false => exact PackWrites_small A c l w hr hc hx hg (hgf rfl).1 (hgf rfl).2
theorem PackWrites_law (A : Option Addr) (c : Nat) (l : List S38) (w : World) (hr : Kd.C k38 w A l.length l) (hc : l.length ≤ c) (hq : l.length ≤ 9223372036854775807 ∧ ∀ x ∈ l, Q38 x) :
    Calls Try.prog 4 #[.slice A l.length c] w fun e w' => e = .returned (.bool true) ∧ Below w.heap.size w w' :=
  PackWrites_walk A c l w hr hc fun x hx => ok_of_Q x (hq.2 x hx)
end Go.Proofs.Ytjlcggjghlmiaaa.PPackWrites
