/- The law PackAlone, walked: two writers, two readers, each by itself. -/
import Derived.Test.YtjlcggjghlmiaaaPackG
import Derived.Test.YtjlcggjghlmiaaaHPackApart
namespace Go.Proofs.Ytjlcggjghlmiaaa.PPackWrites
open Go.RowKit Go.Proofs.YtjlcggjghlmiaaaW.PrintWords Go.Proofs.YtjlcggjghlmiaaaW.PrintLast Go.Proofs.YtjlcggjghlmiaaaW.PrintMore
open Go.Proofs.YtjlcggjghlmiaaaO
attribute [local go_sem] max2_int min2_int max_two min_two max_three min_three max_four min_four
set_option linter.unusedVariables false
set_option linter.unusedSimpArgs false
def marksL (n : Nat) : List Int := (List.range n).map fun i => ((i % 256 : Nat) : Int)
theorem marksL_len (n : Nat) : (marksL n).length = n := by simp [marksL]
theorem marksL_succ (n : Nat) : marksL (n + 1) = marksL n ++ [((n % 256 : Nat) : Int)] := by simp [marksL, List.range_succ]
theorem marks_go (n : Nat) (hn : n < 1000000) : ∀ (d i : Nat), i + d = n → meterlaw02_marks.l0 (d + 1) n (marksL i ++ List.replicate d 0) i = some (marksL n)
  | 0, i, h => by
    simp only [meterlaw02_marks.l0]
    rw [if_neg (show ¬ ((i : Nat) : Int) < (n : Int) by omega)]
    obtain rfl : i = n := by omega
    simp
  | d + 1, i, h => by
    have ih := marks_go n hn d (i + 1) (by omega)
    simp only [meterlaw02_marks.l0]
    have hl : (marksL i ++ List.replicate (d + 1) (0 : Int)).length = i + (d + 1) := by rw [List.length_append, marksL_len, List.length_replicate]
    have hs : (marksL i ++ List.replicate (d + 1) (0 : Int)).set ((i : Nat) : Int).toNat (((i : Nat) : Int) % 256) = marksL (i + 1) ++ List.replicate d 0 := by
      rw [Int.toNat_natCast, List.set_append_right _ _ (by rw [marksL_len]; exact Nat.le_refl _), marksL_len, Nat.sub_self, List.replicate_succ, List.set_cons_zero, marksL_succ, List.append_assoc]
      simp
    have hw : wrap64 ((i : Int) + 1) = ((i + 1 : Nat) : Int) := by unfold wrap64; omega
    rw [if_pos (show ((i : Nat) : Int) < (n : Int) by omega), if_pos (show 0 ≤ ((i : Nat) : Int) by omega), if_pos (show ((i : Nat) : Int) < ((marksL i ++ List.replicate (d + 1) (0 : Int)).length : Int) by rw [hl]; omega), hs, hw]
    exact ih
theorem marks_f (n : Nat) (hn : n < 1000000) : meterlaw02_marks.f (n + 1) n = some (marksL n) := by
  unfold meterlaw02_marks.f
  rw [if_pos (show 0 ≤ ((n : Nat) : Int) by omega), Int.toNat_natCast, if_pos (by omega)]
  exact marks_go n hn n 0 (by omega)
theorem rdByte_bd (s : ByteArray) (a bad v a' bad' : Int) (h0 : 0 ≤ a) (h1 : a ≤ s.size) (h : rdByte s a bad = (v, a', bad')) : 0 ≤ a' ∧ a' ≤ s.size := by
  unfold rdByte finR byteR at h
  split at h
  · simp only [Prod.mk.injEq] at h
    omega
  · by_cases hs : a.toNat = s.size
    · rw [if_pos hs] at h
      simp at h
      omega
    · rw [if_neg hs] at h
      simp at h
      omega
theorem allB_range (l : List S38) (hx : ∀ x ∈ l, PartOk x) : ∀ y ∈ allB l, 0 ≤ y ∧ y < 256 := by
  intro y hy
  unfold allB at hy
  obtain ⟨x, hxl, hy⟩ := List.mem_flatMap.1 hy
  have h := hx x hxl
  unfold partB at hy
  split at hy
  · exact numB_range _ y hy
  split at hy
  · exact numB_range _ y hy
  split at hy
  · exact textB_range _ y hy
  split at hy
  · have := h.b0; have := h.b1
    rw [List.mem_singleton] at hy
    omega
  · cases hy
set_option maxHeartbeats 4000000 in
set_option maxRecDepth 100000 in
theorem PackAlone_great (A : Option Addr) (c : Nat) (l : List S38) (w : World) (hr : Kd.C k38 w A l.length l) (hc : l.length ≤ c) (hg : meterlaw02_Great.f 502 l = some true) :
    Calls Try.prog 6 #[.slice A l.length c] w fun e w' => e = .returned (.bool true) ∧ Below w.heap.size w w' := by
  have HG := Aside0.mk hg
  have HR := Aside0.mk hr
  have HC := Aside0.mk hc
  clear hg hr hc
  go_enter Try.func6, Try.ntmps6
  go_wp2_with (first
    | (go_at_call 9; with_reducible refine (awake_calls w).mono ?_; rintro e w1 ⟨rfl, hb⟩; have B1 := Aside0.mk hb; clear hb)
    | (go_at_call 15; with_reducible refine (meterlaw02_Great.calls 502 A c l true w1 (Kd.C_below HR.out B1.out) HC.out HG.out).mono ?_; rintro e w2 ⟨rfl, hb⟩; have B2 := Aside0.mk hb; clear hb))
  go_ret
  exact ⟨rfl, below_step B1.out B2.out⟩
set_option maxHeartbeats 4000000 in
set_option maxRecDepth 100000 in
theorem PackAlone_small (A : Option Addr) (c : Nat) (l : List S38) (w : World) (hr : Kd.C k38 w A l.length l) (hc : l.length ≤ c) (hx : ∀ x ∈ l, PartOk x) (hg : meterlaw02_Great.f 502 l = some false) (h5 : l.length ≤ 500) (ht : tot l ≤ 60000) :
    Calls Try.prog 6 #[.slice A l.length c] w fun e w' => e = .returned (.bool true) ∧ Below w.heap.size w w' := by
  have HG := Aside0.mk hg
  have HR := Aside0.mk hr
  have HC := Aside0.mk hc
  have HX := Aside0.mk hx
  have HM := Aside0.mk (allB_max l hx h5 ht)
  have HT := Aside0.mk (fun k hk => tot_mem ht k hk)
  have HRG := Aside0.mk (fun k => allB_range (l.take k) (fun x h => hx x (List.mem_of_mem_take h)))
  clear hg hr hc hx ht
  go_enter Try.func6, Try.ntmps6
  go_wp2_with (first
    | (go_at_call 9; with_reducible refine (awake_calls w).mono ?_; rintro e w1 ⟨rfl, hb⟩; have B1 := Aside0.mk hb; clear hb)
    | (go_at_call 15; with_reducible refine (meterlaw02_Great.calls 502 A c l false w1 (Kd.C_below HR.out B1.out) HC.out HG.out).mono ?_; rintro e w2 ⟨rfl, hb⟩; have B2 := Aside0.mk hb; clear hb))
  have h := out_new ((out_new (((Own.nil w).below (below_step B1.out B2.out)).alloc (.cells #[.slice none 0 0] 26 (0, 0)))).alloc (.cells #[.slice none 0 0] 26 (0, 0)))
  simp only [alloc_size] at h
  have H0 := Aside0.mk h
  clear h
  go_loopw [5] (fun v5 wr => ∃ k : Nat, k ≤ l.length ∧ v5 = .int .i64 k ∧ Aside0 (Own w wr [Out w2.heap.size (allB (l.take k)), Out (w2.heap.size + 1) (marksL k)])) (fun v5 _ => l.length - (intOf v5).toNat)
  case atStart => exact ⟨0, Nat.zero_le _, rfl, ⟨H0.out.r1⟩⟩
  case round =>
    obtain ⟨k, hk, rfl, HO⟩ := hrel
    by_cases hlt : k < l.length
    · have hxk := HX.out _ (List.getElem_mem hlt)
      have hsk := HT.out k hlt
      have hmk := HM.out k
      have hsn := Lib.hid (allB_snoc l k hlt)
      have hgk := List.getElem?_eq_getElem hlt
      generalize l[k] = x at hxk hsk hsn hgk
      obtain ⟨f0, f1, f2, f3, f4, f5⟩ := x
      rcases A with _ | ad
      · exact absurd (HR.out.2.2 (by omega)) (by rintro ⟨_, h, _⟩; cases h)
      have HGK := Aside0.mk hgk
      have HXK := Aside0.mk hxk
      obtain ⟨P, hP⟩ : ∃ P, partB ⟨f0, f1, f2, f3, f4, f5⟩ = P := ⟨_, rfl⟩
      have HP := Lib.hid hP
      rw [hP] at hsn
      have HL := Lib.hid (show (allB (l.take k)).length < 100000000000 by omega)
      have HF := Lib.hid (show f3.size < 1000000 by simp only at hsk; omega)
      have hbg : meterlaw02_begins.f (strOfNums (allB (l.take k))) (strOfNums (allB (l.take k) ++ P)) = some true := begins_of _ _ (HRG.out k) (by have h := HRG.out (k + 1); rw [hsn.out] at h; exact h) true (by simp)
      have HBG := Aside0.mk hbg
      have hmm := Aside0.mk (marks_f (k + 1) (by omega))
      have HML := Lib.hid (show (marksL k).length < 100000000000 by rw [marksL_len]; omega)
      have hb0 : (k : Int) % 256 = ((k % 256 : Nat) : Int) := by omega
      obtain ⟨b, hb⟩ : ∃ b : Int, b = ((k % 256 : Nat) : Int) := ⟨_, rfl⟩
      rw [← hb] at hb0
      have HBok := Aside0.mk (show PartOk ⟨3, 0, 0, ⟨#[]⟩, b, 0⟩ from ⟨by simp, by simp, by simp, by simp, by simp, by simp, by simp only; omega, by simp only; omega, by simp, by simp⟩)
      have hPb : marksL k ++ partB ⟨3, 0, 0, ⟨#[]⟩, b, 0⟩ = marksL (k + 1) := by
        rw [marksL_succ, hb]
        rfl
      have HPb := Lib.hid hPb
      have hk1 : wrap64 ((k : Int) + 1) = ((k + 1 : Nat) : Int) := by unfold wrap64; omega
      have hk2 : (k : Int) + 1 = ((k + 1 : Nat) : Int) := by omega
      have HK2 := Lib.hid hk2
      clear hP hgk hxk hmk hsk hbg hb hPb hk2 hk1
      obtain ⟨a0, a1, a2, a3, a4, a5⟩ := elem_at HR.out HO.out.bel k hlt f0 f1 f2 f3 f4 f5 HGK.out
      go_wp2_with (first
        | (go_at_call 14; with_reducible refine (OutString HO.out).mono ?_; rintro e w3 ⟨rfl, rfl⟩)
        | (go_at_call 16; with_reducible refine (write_calls HO.out f0 f1 f2 f3 f4 f5 HXK.out HF.out HL.out).mono ?_; rintro e w3 ⟨rfl, h⟩; rw [HP.out] at h; have H3 := Aside0.mk h; clear h a0 a1 a2 a3 a4 a5)
        | (go_at_call 16; with_reducible refine (write_calls H3.out.r1 3 0 0 ⟨#[]⟩ b 0 HBok.out (by decide) HML.out).mono ?_; rintro e w4 ⟨rfl, h⟩; rw [HPb.out] at h; have H4 := Aside0.mk h; clear h)
        | (go_at_call 14; with_reducible refine (OutString H4.out.r1).mono ?_; rintro e w5 ⟨rfl, rfl⟩)
        | (go_at_call 12; with_reducible refine (meterlaw02_begins.calls _ _ true w4 HBG.out).mono ?_; rintro e w5 ⟨rfl, h⟩; have H5 := Aside0.mk (H4.out.drawn h); clear h)
        | (go_at_call 14; with_reducible refine (OutString H5.out).mono ?_; rintro e w6 ⟨rfl, rfl⟩)
        | (go_at_call 25; rw [HK2.out]; (with_reducible refine (meterlaw02_marks.calls _ _ _ w5 hmm.out).mono ?_); rintro e w6 ⟨v6, rfl, hr6, hb6⟩; obtain ⟨A6, c6, e6⟩ := Kd.R_slice hr6; subst e6; have hcv := own_string (P := Try.prog) Try.underlying24 Try.underlying5 Try.underlying9 (Kd.own_of_R hr6); have H6 := Aside0.mk (H5.out.below hb6); clear hr6 hb6))
      go_roundw
      case rel => exact ⟨k + 1, by omega, by go_num, ⟨by rw [hsn.out]; exact H6.out.r1⟩⟩
      case measure => simp [intOf]; omega
    · have hk' : k = l.length := by omega
      subst hk'
      obtain ⟨S, hS⟩ : ∃ S, S = strOfNums (allB (l.take l.length)) := ⟨_, rfl⟩
      have hSz : S.size ≤ 1000000 := by rw [hS, size_strOf]; have := HM.out l.length; omega
      have HS := Lib.hid hS
      clear hS
      rcases hy1 : rdByte S 0 0 with ⟨v1, a1, b1⟩
      have hbd := rdByte_bd S 0 0 v1 a1 b1 (by omega) (by omega) hy1
      rcases hy2 : rdNum S a1 b1 with ⟨v2, a2, b2⟩
      have HY1 := Aside0.mk hy1
      have HY2 := Aside0.mk hy2
      have HBD := Aside0.mk hbd
      clear hy1 hy2 hbd
      go_wp2_with (first
        | (go_at_call 14; with_reducible refine (OutString HO.out).mono ?_; rintro e w3 ⟨rfl, rfl⟩; rw [← HS.out])
        | (go_at_call 18; with_reducible refine (InOf HO.out S).mono ?_; rintro e w3 ⟨gx, rfl, h⟩; have H1 := Aside0.mk h; clear h)
        | (go_at_call 18; with_reducible refine (InOf H1.out S).mono ?_; rintro e w4 ⟨gy, rfl, h⟩; have H2 := Aside0.mk h; clear h)
        | (go_at_call 19; with_reducible refine (InByte H2.out (by omega) (by omega) hSz _ _ _ HY1.out).mono ?_; rintro e w5 ⟨rfl, h⟩; have H3 := Aside0.mk h; clear h)
        | (go_at_call 26; with_reducible refine (InNum H3.out HBD.out.1 HBD.out.2 hSz _ _ _ HY2.out).mono ?_; rintro e w6 ⟨rfl, h⟩; have H4 := Aside0.mk h; clear h)
        | (go_at_call 22; with_reducible refine (InLeft H4.out.r1 (by omega) (by omega) hSz).mono ?_; rintro e w7 ⟨rfl, h⟩; rw [Int.sub_zero]; have H5 := Aside0.mk h; clear h)
        | (go_at_call 14; with_reducible refine (OutString H5.out.r2).mono ?_; rintro e w8 ⟨rfl, rfl⟩; rw [← HS.out]))
      go_ret
      exact ⟨rfl, H5.out.bel⟩
theorem PackAlone_law (A : Option Addr) (c : Nat) (l : List S38) (w : World) (hr : Kd.C k38 w A l.length l) (hc : l.length ≤ c) (hq : l.length ≤ 9223372036854775807 ∧ ∀ x ∈ l, Q38 x) :
    Calls Try.prog 6 #[.slice A l.length c] w fun e w' => e = .returned (.bool true) ∧ Below w.heap.size w w' := by
  have hx : ∀ x ∈ l, PartOk x := fun x hx => ok_of_Q x (hq.2 x hx)
  obtain ⟨r, hg, hgf⟩ := great_f l
  cases r with
  | true => exact PackAlone_great A c l w hr hc hg
  | false => exact PackAlone_small A c l w hr hc hx hg (hgf rfl).1 (hgf rfl).2
end Go.Proofs.Ytjlcggjghlmiaaa.PPackWrites
