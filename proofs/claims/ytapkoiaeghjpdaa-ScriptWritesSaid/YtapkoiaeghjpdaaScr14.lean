/- Acts as bytes (package script): Decode. -/
import Derived.Test.YtapkoiaeghjpdaaScr13
namespace Go.Proofs.Ytapkoiaeghjpdaa.PScriptWrites
open Go.RowKit Go.Proofs.YtapkoiaeghjpdaaW.PrintWords Go.Proofs.YtapkoiaeghjpdaaW.PrintLast Go.Proofs.YtapkoiaeghjpdaaW.PrintMore
open Go.Proofs.YtapkoiaeghjpdaaO
attribute [local go_sem] max2_int min2_int max_two min_two max_three min_three max_four min_four
set_option linter.unusedVariables false
set_option linter.unusedSimpArgs false
theorem infoAct : (Try.prog.info? 33).map (fun i => (i.zero, i.size, i.bytes)) = some (some (.agg #[.int .u8 0, .int .i64 0, .int .i64 0, .string ⟨#[]⟩, .int .i64 0, .int .i64 0]), 6, 56) := by kernel_rfl
section
variable {w0 w w' : World} {R : List Asn}
set_option maxHeartbeats 8000000 in
set_option maxRecDepth 100000 in
theorem DecodeF (h : Own w0 w R) (A : Option Addr) (c : Nat) (l : List Int) (hr : Kd.C (Kd.int .u8) w A l.length l) (hc : l.length ≤ c) (hl : l.length ≤ 65536) (dl : List ActS) (hd : decGo l.length (strOfNums l) [] = dl)
    (HF : ∀ (w : World) (R : List Asn) (s : ByteArray), Own w0 w R → s.size < 1000000 → ∀ (a : ActS) (m : Int) (b : Bool), readV s = (a, m, b) → Calls Try.prog 19 #[.string s] w fun e w' => e = .returned (.tuple #[.agg #[.int .u8 a.f0, .int .i64 a.f1, .int .i64 a.f2, .string a.f3, .int .i64 a.f4, .int .i64 a.f5], .int .i64 m, .bool b]) ∧ Own w0 w' R) :
    Calls Try.prog 11 #[.slice A l.length c] w fun e w' => ∃ A' c', e = .returned (.slice A' dl.length c') ∧ Own w0 w' (Row k33 33 (.slice A' dl.length c') dl :: R) := by
  have H := Aside0.mk (h.row_nil k33 33)
  have m1 : min (l.length : Int) 65536 = l.length := by omega
  have hcv := Kd.C_string (P := Try.prog) (A := A) (c := c) Try.underlying22 Try.underlying5 Try.underlying9 hr
  have HD := Lib.hid hd
  have HSZ := Aside0.mk (show (strOfNums l).size ≤ l.length by rw [size_strOf]; exact Nat.le_refl _)
  have HSZ2 := Aside0.mk (show (strOfNums l).size < 1000000 by rw [size_strOf]; omega)
  clear hr h hd
  go_enter Try.func11, Try.ntmps11
  go_wp2
  go_loopw [3, 4] (fun v3 v4 wr => ∃ (s : ByteArray) (acc : List ActS) (B : Option Addr) (d k : Nat), v3 = .string s ∧ v4 = .slice B acc.length d ∧ acc.length ≤ 4096 ∧ Aside0 (s.size ≤ k ∧ s.size < 1000000) ∧ Aside0 (decGo k s acc = dl) ∧ Aside0 (Own w0 wr (Row k33 33 (.slice B acc.length d) acc :: R))) (fun v3 _ _ => szV v3)
  case atStart => exact ⟨_, [], none, 0, l.length, rfl, rfl, by simp, ⟨HSZ.out, HSZ2.out⟩, ⟨HD.out⟩, H⟩
  case round =>
    obtain ⟨s, acc, B, d, k, rfl, rfl, ha, HK, HG, HO⟩ := hrel
    clear hcv m1
    by_cases c0 : s.size = 0
    · have hs0 : s = ⟨#[]⟩ := by apply ByteArray.ext; exact Array.eq_empty_of_size_eq_zero c0
      have hres : Aside0 (acc = dl) := ⟨by
        have h := HG.out
        cases k with
        | zero => exact h
        | succ k => unfold decGo at h; rwa [if_pos (.inl c0)] at h⟩
      subst hs0
      go_wp2
      go_ret
      rw [← hres.out]
      exact ⟨B, d, rfl, HO.out⟩
    · have hne : ¬ s.toList = [] := by
        intro e
        rw [ByteArray.toList_eq] at e
        have h2 : s.data.toList.length = 0 := by rw [e]; rfl
        rw [Array.length_toList] at h2
        exact c0 h2
      have hne2 : (s.toList == []) = false := by
        cases h : s.toList with
        | nil => exact absurd h hne
        | cons _ _ => rfl
      by_cases c1 : acc.length < 4096
      · have d1 : decide ((acc.length : Int) < 4096) = true := decide_eq_true (by omega)
        have exd : s.extract 0 s.size = s := by apply ByteArray.ext; simp
        have hsz := HK.out.2
        by_cases c2 : s.size ≤ 1020
        · have m2 : min (s.size : Int) 1020 = s.size := by omega
          have m3 : min s.size 1020 = s.size := by omega
          rcases hv : readV (s) with ⟨⟨f0, f1, f2, f3, f4, f5⟩, m, b⟩
          have HV := Lib.hid hv
          have HB := Aside0.mk (readV_in (s := s) (by omega) _ _ _ hv)
          clear hv
          have HS6 := Aside0.mk (show (s).size < 1000000 by omega)
          have hstep : Aside0 (∃ k', k = k' + 1 ∧ (if b = true then decGo k' (s.extract m.toNat s.size) (acc ++ [⟨f0, f1, f2, f3, f4, f5⟩]) else decGo k' (s.extract 1 s.size) acc) = dl) := ⟨by
            have h := HG.out
            have h1 := HK.out.1
            cases k with
            | zero => omega
            | succ k' =>
              refine ⟨k', rfl, ?_⟩
              unfold decGo at h
              rw [if_neg (by omega), m3, exd, HV.out] at h
              exact h⟩
          cases b with
          | true =>
            have hm0 := HB.out.1
            have hm1 := HB.out.2.1
            have hm2 := HB.out.2.2 rfl
            have hm3 : m ≤ (s.size : Int) := by
              have h := hm1
              try rw [ByteArray.size_extract] at h
              omega
            go_wp2_with (first
              | (go_at_call 19; (with_reducible refine (HF _ _ _ HO.out HS6.out _ _ _ HV.out).mono ?_); rintro e w5 ⟨rfl, h⟩; have H5 := Aside0.mk h; clear h)
              | ((with_reducible refine gate_builtin (b := .append) (xs := #[.tmp 35, .tmp 37]) rfl ?_); at_builtin; refine Own.append k33 rfl (.tmp 35) (.tmp 37) 24 33 (.agg #[.int .u8 0, .int .i64 0, .int .i64 0, .string ⟨#[]⟩, .int .i64 0, .int .i64 0]) 56 rfl Try.underlying24 infoAct rfl (by decide) (by omega) (.slice B acc.length d) acc ⟨f0, f1, f2, f3, f4, f5⟩ [.int .u8 f0, .int .i64 f1, .int .i64 f2, .string f3, .int .i64 f4, .int .i64 f5] rfl (by rw [alloc_size]; rfl) (fun _ => k33_mkM _ _ _ _) (H5.out.junk (.cells #[.int .u8 f0, .int .i64 f1, .int .i64 f2, .string f3, .int .i64 f4, .int .i64 f5] 33 (0, 0))) (by omega) ?_; intro A6 c6 w6 h; have H6 := Aside0.mk h; clear h))
            go_roundw
            case rel =>
              obtain ⟨k', hk, hg⟩ := hstep.out
              rw [if_pos trivial] at hg
              have h1 := HK.out
              exact ⟨_, acc ++ [(⟨f0, f1, f2, f3, f4, f5⟩ : ActS)], A6, c6, k', rfl, by rw [List.length_append]; rfl, by rw [List.length_append, List.length_singleton]; omega, ⟨by rw [ByteArray.size_extract]; omega, by rw [ByteArray.size_extract]; omega⟩, ⟨hg⟩, by rw [List.length_append]; exact H6⟩
            case measure =>
              show (s.extract m.toNat s.size).size < s.size
              rw [ByteArray.size_extract]
              omega
          | false =>
            go_wp2_with (go_at_call 19; (with_reducible refine (HF _ _ _ HO.out HS6.out _ _ _ HV.out).mono ?_); rintro e w5 ⟨rfl, h⟩; have H5 := Aside0.mk h; clear h)
            go_roundw
            case rel =>
              obtain ⟨k', hk, hg⟩ := hstep.out
              rw [if_neg (by simp)] at hg
              have h1 := HK.out
              exact ⟨_, acc, B, d, k', rfl, rfl, by omega, ⟨by rw [ByteArray.size_extract]; omega, by rw [ByteArray.size_extract]; omega⟩, ⟨hg⟩, ⟨H5.out.junk _⟩⟩
            case measure =>
              show (s.extract 1 s.size).size < s.size
              rw [ByteArray.size_extract]
              omega
        · have m2 : min (s.size : Int) 1020 = 1020 := by omega
          have m3 : min s.size 1020 = 1020 := by omega
          have c3 : 1020 ≤ s.size := by omega
          rcases hv : readV (s.extract 0 1020) with ⟨⟨f0, f1, f2, f3, f4, f5⟩, m, b⟩
          have HV := Lib.hid hv
          have HB := Aside0.mk (readV_in (s := s.extract 0 1020) (by (rw [ByteArray.size_extract]; omega)) _ _ _ hv)
          clear hv
          have HS6 := Aside0.mk (show (s.extract 0 1020).size < 1000000 by (rw [ByteArray.size_extract]; omega))
          have hstep : Aside0 (∃ k', k = k' + 1 ∧ (if b = true then decGo k' (s.extract m.toNat s.size) (acc ++ [⟨f0, f1, f2, f3, f4, f5⟩]) else decGo k' (s.extract 1 s.size) acc) = dl) := ⟨by
            have h := HG.out
            have h1 := HK.out.1
            cases k with
            | zero => omega
            | succ k' =>
              refine ⟨k', rfl, ?_⟩
              unfold decGo at h
              rw [if_neg (by omega), m3,  HV.out] at h
              exact h⟩
          cases b with
          | true =>
            have hm0 := HB.out.1
            have hm1 := HB.out.2.1
            have hm2 := HB.out.2.2 rfl
            have hm3 : m ≤ (s.size : Int) := by
              have h := hm1
              try rw [ByteArray.size_extract] at h
              omega
            go_wp2_with (first
              | (go_at_call 19; (with_reducible refine (HF _ _ _ HO.out HS6.out _ _ _ HV.out).mono ?_); rintro e w5 ⟨rfl, h⟩; have H5 := Aside0.mk h; clear h)
              | ((with_reducible refine gate_builtin (b := .append) (xs := #[.tmp 35, .tmp 37]) rfl ?_); at_builtin; refine Own.append k33 rfl (.tmp 35) (.tmp 37) 24 33 (.agg #[.int .u8 0, .int .i64 0, .int .i64 0, .string ⟨#[]⟩, .int .i64 0, .int .i64 0]) 56 rfl Try.underlying24 infoAct rfl (by decide) (by omega) (.slice B acc.length d) acc ⟨f0, f1, f2, f3, f4, f5⟩ [.int .u8 f0, .int .i64 f1, .int .i64 f2, .string f3, .int .i64 f4, .int .i64 f5] rfl (by rw [alloc_size]; rfl) (fun _ => k33_mkM _ _ _ _) (H5.out.junk (.cells #[.int .u8 f0, .int .i64 f1, .int .i64 f2, .string f3, .int .i64 f4, .int .i64 f5] 33 (0, 0))) (by omega) ?_; intro A6 c6 w6 h; have H6 := Aside0.mk h; clear h))
            go_roundw
            case rel =>
              obtain ⟨k', hk, hg⟩ := hstep.out
              rw [if_pos trivial] at hg
              have h1 := HK.out
              exact ⟨_, acc ++ [(⟨f0, f1, f2, f3, f4, f5⟩ : ActS)], A6, c6, k', rfl, by rw [List.length_append]; rfl, by rw [List.length_append, List.length_singleton]; omega, ⟨by rw [ByteArray.size_extract]; omega, by rw [ByteArray.size_extract]; omega⟩, ⟨hg⟩, by rw [List.length_append]; exact H6⟩
            case measure =>
              show (s.extract m.toNat s.size).size < s.size
              rw [ByteArray.size_extract]
              omega
          | false =>
            go_wp2_with (go_at_call 19; (with_reducible refine (HF _ _ _ HO.out HS6.out _ _ _ HV.out).mono ?_); rintro e w5 ⟨rfl, h⟩; have H5 := Aside0.mk h; clear h)
            go_roundw
            case rel =>
              obtain ⟨k', hk, hg⟩ := hstep.out
              rw [if_neg (by simp)] at hg
              have h1 := HK.out
              exact ⟨_, acc, B, d, k', rfl, rfl, by omega, ⟨by rw [ByteArray.size_extract]; omega, by rw [ByteArray.size_extract]; omega⟩, ⟨hg⟩, ⟨H5.out.junk _⟩⟩
            case measure =>
              show (s.extract 1 s.size).size < s.size
              rw [ByteArray.size_extract]
              omega
      · have d1 : decide ((acc.length : Int) < 4096) = false := decide_eq_false (by omega)
        have hres : Aside0 (acc = dl) := ⟨by
          have h := HG.out
          cases k with
          | zero => exact h
          | succ k => unfold decGo at h; rwa [if_pos (.inr (by omega))] at h⟩
        go_wp2
        go_ret
        rw [← hres.out]
        exact ⟨B, d, rfl, HO.out⟩
set_option maxHeartbeats 8000000 in
set_option maxRecDepth 100000 in
theorem DecodeG (h : Own w0 w R) (A : Option Addr) (n c : Nat) (l : List Int) (hr : Kd.C (Kd.int .u8) w A 65536 l) (hn : 65536 < n) (hc : n ≤ c) (hl : l.length ≤ 65536) (dl : List ActS) (hd : decGo l.length (strOfNums l) [] = dl)
    (HF : ∀ (w : World) (R : List Asn) (s : ByteArray), Own w0 w R → s.size < 1000000 → ∀ (a : ActS) (m : Int) (b : Bool), readV s = (a, m, b) → Calls Try.prog 19 #[.string s] w fun e w' => e = .returned (.tuple #[.agg #[.int .u8 a.f0, .int .i64 a.f1, .int .i64 a.f2, .string a.f3, .int .i64 a.f4, .int .i64 a.f5], .int .i64 m, .bool b]) ∧ Own w0 w' R) :
    Calls Try.prog 11 #[.slice A n c] w fun e w' => ∃ A' c', e = .returned (.slice A' dl.length c') ∧ Own w0 w' (Row k33 33 (.slice A' dl.length c') dl :: R) := by
  have H := Aside0.mk (h.row_nil k33 33)
  have m1 : min (n : Int) 65536 = 65536 := by omega
  have hlc : 65536 ≤ c := by omega
  have hcv := Kd.C_string (P := Try.prog) (A := A) (c := c) Try.underlying22 Try.underlying5 Try.underlying9 hr
  have HD := Lib.hid hd
  have HSZ := Aside0.mk (show (strOfNums l).size ≤ l.length by rw [size_strOf]; exact Nat.le_refl _)
  have HSZ2 := Aside0.mk (show (strOfNums l).size < 1000000 by rw [size_strOf]; omega)
  clear hr h hd
  go_enter Try.func11, Try.ntmps11
  go_wp2
  go_loopw [3, 4] (fun v3 v4 wr => ∃ (s : ByteArray) (acc : List ActS) (B : Option Addr) (d k : Nat), v3 = .string s ∧ v4 = .slice B acc.length d ∧ acc.length ≤ 4096 ∧ Aside0 (s.size ≤ k ∧ s.size < 1000000) ∧ Aside0 (decGo k s acc = dl) ∧ Aside0 (Own w0 wr (Row k33 33 (.slice B acc.length d) acc :: R))) (fun v3 _ _ => szV v3)
  case atStart => exact ⟨_, [], none, 0, l.length, rfl, rfl, by simp, ⟨HSZ.out, HSZ2.out⟩, ⟨HD.out⟩, H⟩
  case round =>
    obtain ⟨s, acc, B, d, k, rfl, rfl, ha, HK, HG, HO⟩ := hrel
    clear hcv m1 hn hc hlc
    by_cases c0 : s.size = 0
    · have hs0 : s = ⟨#[]⟩ := by apply ByteArray.ext; exact Array.eq_empty_of_size_eq_zero c0
      have hres : Aside0 (acc = dl) := ⟨by
        have h := HG.out
        cases k with
        | zero => exact h
        | succ k => unfold decGo at h; rwa [if_pos (.inl c0)] at h⟩
      subst hs0
      go_wp2
      go_ret
      rw [← hres.out]
      exact ⟨B, d, rfl, HO.out⟩
    · have hne : ¬ s.toList = [] := by
        intro e
        rw [ByteArray.toList_eq] at e
        have h2 : s.data.toList.length = 0 := by rw [e]; rfl
        rw [Array.length_toList] at h2
        exact c0 h2
      have hne2 : (s.toList == []) = false := by
        cases h : s.toList with
        | nil => exact absurd h hne
        | cons _ _ => rfl
      by_cases c1 : acc.length < 4096
      · have d1 : decide ((acc.length : Int) < 4096) = true := decide_eq_true (by omega)
        have exd : s.extract 0 s.size = s := by apply ByteArray.ext; simp
        have hsz := HK.out.2
        by_cases c2 : s.size ≤ 1020
        · have m2 : min (s.size : Int) 1020 = s.size := by omega
          have m3 : min s.size 1020 = s.size := by omega
          rcases hv : readV (s) with ⟨⟨f0, f1, f2, f3, f4, f5⟩, m, b⟩
          have HV := Lib.hid hv
          have HB := Aside0.mk (readV_in (s := s) (by omega) _ _ _ hv)
          clear hv
          have HS6 := Aside0.mk (show (s).size < 1000000 by omega)
          have hstep : Aside0 (∃ k', k = k' + 1 ∧ (if b = true then decGo k' (s.extract m.toNat s.size) (acc ++ [⟨f0, f1, f2, f3, f4, f5⟩]) else decGo k' (s.extract 1 s.size) acc) = dl) := ⟨by
            have h := HG.out
            have h1 := HK.out.1
            cases k with
            | zero => omega
            | succ k' =>
              refine ⟨k', rfl, ?_⟩
              unfold decGo at h
              rw [if_neg (by omega), m3, exd, HV.out] at h
              exact h⟩
          cases b with
          | true =>
            have hm0 := HB.out.1
            have hm1 := HB.out.2.1
            have hm2 := HB.out.2.2 rfl
            have hm3 : m ≤ (s.size : Int) := by
              have h := hm1
              try rw [ByteArray.size_extract] at h
              omega
            go_wp2_with (first
              | (go_at_call 19; (with_reducible refine (HF _ _ _ HO.out HS6.out _ _ _ HV.out).mono ?_); rintro e w5 ⟨rfl, h⟩; have H5 := Aside0.mk h; clear h)
              | ((with_reducible refine gate_builtin (b := .append) (xs := #[.tmp 35, .tmp 37]) rfl ?_); at_builtin; refine Own.append k33 rfl (.tmp 35) (.tmp 37) 24 33 (.agg #[.int .u8 0, .int .i64 0, .int .i64 0, .string ⟨#[]⟩, .int .i64 0, .int .i64 0]) 56 rfl Try.underlying24 infoAct rfl (by decide) (by omega) (.slice B acc.length d) acc ⟨f0, f1, f2, f3, f4, f5⟩ [.int .u8 f0, .int .i64 f1, .int .i64 f2, .string f3, .int .i64 f4, .int .i64 f5] rfl (by rw [alloc_size]; rfl) (fun _ => k33_mkM _ _ _ _) (H5.out.junk (.cells #[.int .u8 f0, .int .i64 f1, .int .i64 f2, .string f3, .int .i64 f4, .int .i64 f5] 33 (0, 0))) (by omega) ?_; intro A6 c6 w6 h; have H6 := Aside0.mk h; clear h))
            go_roundw
            case rel =>
              obtain ⟨k', hk, hg⟩ := hstep.out
              rw [if_pos trivial] at hg
              have h1 := HK.out
              exact ⟨_, acc ++ [(⟨f0, f1, f2, f3, f4, f5⟩ : ActS)], A6, c6, k', rfl, by rw [List.length_append]; rfl, by rw [List.length_append, List.length_singleton]; omega, ⟨by rw [ByteArray.size_extract]; omega, by rw [ByteArray.size_extract]; omega⟩, ⟨hg⟩, by rw [List.length_append]; exact H6⟩
            case measure =>
              show (s.extract m.toNat s.size).size < s.size
              rw [ByteArray.size_extract]
              omega
          | false =>
            go_wp2_with (go_at_call 19; (with_reducible refine (HF _ _ _ HO.out HS6.out _ _ _ HV.out).mono ?_); rintro e w5 ⟨rfl, h⟩; have H5 := Aside0.mk h; clear h)
            go_roundw
            case rel =>
              obtain ⟨k', hk, hg⟩ := hstep.out
              rw [if_neg (by simp)] at hg
              have h1 := HK.out
              exact ⟨_, acc, B, d, k', rfl, rfl, by omega, ⟨by rw [ByteArray.size_extract]; omega, by rw [ByteArray.size_extract]; omega⟩, ⟨hg⟩, ⟨H5.out.junk _⟩⟩
            case measure =>
              show (s.extract 1 s.size).size < s.size
              rw [ByteArray.size_extract]
              omega
        · have m2 : min (s.size : Int) 1020 = 1020 := by omega
          have m3 : min s.size 1020 = 1020 := by omega
          have c3 : 1020 ≤ s.size := by omega
          rcases hv : readV (s.extract 0 1020) with ⟨⟨f0, f1, f2, f3, f4, f5⟩, m, b⟩
          have HV := Lib.hid hv
          have HB := Aside0.mk (readV_in (s := s.extract 0 1020) (by (rw [ByteArray.size_extract]; omega)) _ _ _ hv)
          clear hv
          have HS6 := Aside0.mk (show (s.extract 0 1020).size < 1000000 by (rw [ByteArray.size_extract]; omega))
          have hstep : Aside0 (∃ k', k = k' + 1 ∧ (if b = true then decGo k' (s.extract m.toNat s.size) (acc ++ [⟨f0, f1, f2, f3, f4, f5⟩]) else decGo k' (s.extract 1 s.size) acc) = dl) := ⟨by
            have h := HG.out
            have h1 := HK.out.1
            cases k with
            | zero => omega
            | succ k' =>
              refine ⟨k', rfl, ?_⟩
              unfold decGo at h
              rw [if_neg (by omega), m3,  HV.out] at h
              exact h⟩
          cases b with
          | true =>
            have hm0 := HB.out.1
            have hm1 := HB.out.2.1
            have hm2 := HB.out.2.2 rfl
            have hm3 : m ≤ (s.size : Int) := by
              have h := hm1
              try rw [ByteArray.size_extract] at h
              omega
            go_wp2_with (first
              | (go_at_call 19; (with_reducible refine (HF _ _ _ HO.out HS6.out _ _ _ HV.out).mono ?_); rintro e w5 ⟨rfl, h⟩; have H5 := Aside0.mk h; clear h)
              | ((with_reducible refine gate_builtin (b := .append) (xs := #[.tmp 35, .tmp 37]) rfl ?_); at_builtin; refine Own.append k33 rfl (.tmp 35) (.tmp 37) 24 33 (.agg #[.int .u8 0, .int .i64 0, .int .i64 0, .string ⟨#[]⟩, .int .i64 0, .int .i64 0]) 56 rfl Try.underlying24 infoAct rfl (by decide) (by omega) (.slice B acc.length d) acc ⟨f0, f1, f2, f3, f4, f5⟩ [.int .u8 f0, .int .i64 f1, .int .i64 f2, .string f3, .int .i64 f4, .int .i64 f5] rfl (by rw [alloc_size]; rfl) (fun _ => k33_mkM _ _ _ _) (H5.out.junk (.cells #[.int .u8 f0, .int .i64 f1, .int .i64 f2, .string f3, .int .i64 f4, .int .i64 f5] 33 (0, 0))) (by omega) ?_; intro A6 c6 w6 h; have H6 := Aside0.mk h; clear h))
            go_roundw
            case rel =>
              obtain ⟨k', hk, hg⟩ := hstep.out
              rw [if_pos trivial] at hg
              have h1 := HK.out
              exact ⟨_, acc ++ [(⟨f0, f1, f2, f3, f4, f5⟩ : ActS)], A6, c6, k', rfl, by rw [List.length_append]; rfl, by rw [List.length_append, List.length_singleton]; omega, ⟨by rw [ByteArray.size_extract]; omega, by rw [ByteArray.size_extract]; omega⟩, ⟨hg⟩, by rw [List.length_append]; exact H6⟩
            case measure =>
              show (s.extract m.toNat s.size).size < s.size
              rw [ByteArray.size_extract]
              omega
          | false =>
            go_wp2_with (go_at_call 19; (with_reducible refine (HF _ _ _ HO.out HS6.out _ _ _ HV.out).mono ?_); rintro e w5 ⟨rfl, h⟩; have H5 := Aside0.mk h; clear h)
            go_roundw
            case rel =>
              obtain ⟨k', hk, hg⟩ := hstep.out
              rw [if_neg (by simp)] at hg
              have h1 := HK.out
              exact ⟨_, acc, B, d, k', rfl, rfl, by omega, ⟨by rw [ByteArray.size_extract]; omega, by rw [ByteArray.size_extract]; omega⟩, ⟨hg⟩, ⟨H5.out.junk _⟩⟩
            case measure =>
              show (s.extract 1 s.size).size < s.size
              rw [ByteArray.size_extract]
              omega
      · have d1 : decide ((acc.length : Int) < 4096) = false := decide_eq_false (by omega)
        have hres : Aside0 (acc = dl) := ⟨by
          have h := HG.out
          cases k with
          | zero => exact h
          | succ k => unfold decGo at h; rwa [if_pos (.inr (by omega))] at h⟩
        go_wp2
        go_ret
        rw [← hres.out]
        exact ⟨B, d, rfl, HO.out⟩
end
end Go.Proofs.Ytapkoiaeghjpdaa.PScriptWrites
