/- The law ScriptJoin, walked. -/
import Derived.Test.YtapkoiaeghjpdaaScr17
import Derived.Test.YtapkoiaeghjpdaaHScriptBack
namespace Go.Proofs.Ytapkoiaeghjpdaa.PScriptWrites
open Go.RowKit Go.Proofs.YtapkoiaeghjpdaaW.PrintWords Go.Proofs.YtapkoiaeghjpdaaW.PrintLast Go.Proofs.YtapkoiaeghjpdaaW.PrintMore
open Go.Proofs.YtapkoiaeghjpdaaO
attribute [local go_sem] max2_int min2_int max_two min_two max_three min_three max_four min_four
set_option linter.unusedVariables false
set_option linter.unusedSimpArgs false
theorem own_C {w0 w : World} {R : List Asn} {α : Type} {d : Kd α} {A : Option Addr} {n c : Nat} {l : List α} {e : TypeId} (h : Own w0 w (Row d e (.slice A n c) l :: R)) : d.C w A n l := by
  obtain ⟨h1, _, h3⟩ := own_reads h
  rw [h1]
  exact h3
theorem encR_one {a : ActS} (ha : actIn a) : encR [a] = if okA a = true then (encA a, 0) else ([], 1) := by
  have e : encL [a] = encA a := by rw [encL_cons]; simp [encL]
  unfold encR
  by_cases h : okA a = true
  · have h1 := encA_len a ha h
    rw [if_pos (by simp [h]), if_pos h, if_neg (by rw [e]; simp; omega), e]
  · rw [if_neg (by simpa using h), if_neg h]
theorem EncodeOne {w0 w : World} {R : List Asn} (h : Own w0 w R) (A : Option Addr) (c : Nat) (x : ActS) (hr : Kd.C k33 w A [x].length [x]) (hQ : actIn x) (rl : List Int) (code : Int) (he : encR [x] = (rl, code)) :
    Calls Try.prog 14 #[.slice A 1 c] w fun e w' => ∃ A' c', e = .returned (.tuple #[.slice A' rl.length c', .int .i64 code]) ∧ Own w0 w' (Row (Kd.int .u8) 5 (.slice A' rl.length c') rl :: R) :=
  EncodeB h A c [x] hr (fun y hy => by rw [List.mem_singleton.1 hy]; exact hQ) (by simp) rl code he
/-- The acts' bytes, the wrong ones left out. -/
def encS (l : List ActS) : List Int := l.flatMap fun a => if okA a = true then encA a else []
theorem encS_snoc (l : List ActS) (i : Nat) (x : ActS) (h : l[i]? = some x) : encS (l.take (i + 1)) = encS (l.take i) ++ (if okA x = true then encA x else []) := by
  obtain ⟨hi, e⟩ := List.getElem?_eq_some_iff.1 h
  unfold encS
  rw [List.take_succ_eq_append_getElem hi, e, List.flatMap_append]
  simp
theorem encS_len (l : List ActS) (h : ∀ x ∈ l, actIn x) : (encS l).length ≤ 1000 * l.length := by
  induction l with
  | nil => simp [encS]
  | cons a l ih =>
    have h2 := ih (fun x hx => h x (by simp [hx]))
    unfold encS at *
    rw [List.flatMap_cons, List.length_append, List.length_cons]
    have h1 : (if okA a = true then encA a else []).length ≤ 1000 := by
      split
      · exact encA_len a (h a (by simp)) (by assumption)
      · simp
    omega
theorem encS_ok (l : List ActS) (h : l.all okA = true) : encS l = encL l := by
  induction l with
  | nil => rfl
  | cons a l ih =>
    rw [List.all_cons, Bool.and_eq_true] at h
    have h2 := ih h.2
    unfold encS encL at *
    rw [List.flatMap_cons, List.flatMap_cons, if_pos h.1, h2]
set_option maxHeartbeats 8000000 in
set_option maxRecDepth 100000 in
theorem ScriptJoin_great (A : Option Addr) (c : Nat) (l : List ActS) (w : World) (hr : Kd.C k33 w A l.length l) (hc : l.length ≤ c) {k : Nat} (hf : meterlaw27_Great.f k l = some true) :
    Calls Try.prog 9 #[.slice A l.length c] w fun e w' => e = .returned (.bool true) ∧ Below w.heap.size w w' := by
  have HR := Aside0.mk hr
  have HC := Aside0.mk hc
  have HF := Aside0.mk hf
  have H0 := Aside0.mk (Own.nil w)
  clear hr hc hf
  go_enter Try.func9, Try.ntmps9
  go_wp2_with (first
    | (go_at_call 10; ((with_reducible refine (awake_calls H0.out).mono ?_)); rintro e w1 ⟨rfl, h⟩; have H1 := Aside0.mk h; clear h)
    | (go_at_call 15; ((with_reducible refine (great_calls H1.out HF.out A c (C_of_own H1.out HR.out) HC.out).mono ?_)); rintro e w2 ⟨rfl, h⟩; have H2 := Aside0.mk h; clear h))
  go_ret
  exact ⟨rfl, H2.out.bel⟩
set_option maxHeartbeats 8000000 in
set_option maxRecDepth 100000 in
theorem ScriptJoin_bad (A : Option Addr) (c : Nat) (l : List ActS) (w : World) (hr : Kd.C k33 w A l.length l) (hc : l.length ≤ c) {k : Nat} (hf : meterlaw27_Great.f k l = some false) (hq : Small l) (hno : l.all okA = false) (x : List Int) (hx : x = []) (he : encR l = (x, 1)) :
    Calls Try.prog 9 #[.slice A l.length c] w fun e w' => e = .returned (.bool true) ∧ Below w.heap.size w w' := by
  have HR := Aside0.mk hr
  have HC := Aside0.mk hc
  have HF := Aside0.mk hf
  have H0 := Aside0.mk (Own.nil w)
  have HQ := Aside0.mk hq.2
  have HL := Aside0.mk (show l.length ≤ 10000000 from by have := hq.1; omega)
  have HLL := Aside0.mk (show l.length ≤ 1000000 from by have := hq.1; omega)
  have hl5 := hq.1
  have HE := Aside0.mk he
  have HNO := Lib.hid hno
  have HX := Aside0.mk (show (((x.length : Int)) == 0) = true by subst hx; rfl)
  clear hr hc hf hq he hno hx
  go_enter Try.func9, Try.ntmps9
  go_wp2_with (first
    | (go_at_call 10; ((with_reducible refine (awake_calls H0.out).mono ?_)); rintro e w1 ⟨rfl, h⟩; have H1 := Aside0.mk h; clear h)
    | (go_at_call 15; ((with_reducible refine (great_calls H1.out HF.out A c (C_of_own H1.out HR.out) HC.out).mono ?_)); rintro e w2 ⟨rfl, h⟩; have H2 := Aside0.mk h; clear h)
    | (go_at_call 14; ((with_reducible refine (EncodeB H2.out A c l (C_of_own H2.out HR.out) HQ.out HL.out x 1 HE.out).mono ?_)); rintro e w3 ⟨A1, c1, rfl, h⟩; have H3 := Aside0.mk h; clear h))
  rename World => wo
  go_loopw [5, 6, 7] (fun v5 v6 v7 wr => ∃ i : Nat, i ≤ l.length ∧ v5 = .bool ((l.take i).all okA) ∧ v6 = .string (strOfNums (encS (l.take i))) ∧ v7 = .int .i64 i ∧ Aside0 (Own w wr (Row (Kd.int .u8) 5 (.slice A1 x.length c1) x :: []))) (fun _ _ v7 _ => l.length - (RowKit.intOf v7).toNat)
  case atStart => exact ⟨0, Nat.zero_le _, rfl, rfl, rfl, H3⟩
  case round =>
    obtain ⟨i, hi, rfl, rfl, rfl, HO⟩ := hrel
    by_cases hlt : i < l.length
    · have hgx := List.getElem?_eq_getElem hlt
      obtain ⟨xi, hxi⟩ : ∃ xi, l[i] = xi := ⟨_, rfl⟩
      rw [hxi] at hgx
      have hmem := List.mem_of_getElem? hgx
      have hqx := HQ.out xi hmem
      clear hmem
      have has := all_snoc l i xi hgx
      have hss := congrArg strOfNums (encS_snoc l i xi hgx)
      rw [strOf_append] at hss
      have hsl := encS_len (l.take i) (fun y hy => HQ.out y (List.mem_of_mem_take hy))
      rw [List.length_take, Nat.min_eq_left hi] at hsl
      have hS0 := size_strOf (encS (l.take i))
      have hl0 : (if okA xi = true then encA xi else []).length ≤ 1000 := by
        split
        · exact encA_len xi hqx (by assumption)
        · simp
      obtain ⟨f0, f1, f2, f3, f4, f5⟩ := xi
      rcases A with _ | ad
      · exact absurd (HR.out.2.2 (by omega)) (by rintro ⟨_, h, _⟩; cases h)
      obtain ⟨A9, ks, hC9⟩ := cut_act (C_of_own HO.out HR.out) HC.out i _ hgx
      have HC9 := Aside0.mk hC9
      have HGX := Aside0.mk hgx
      have HLT := Aside0.mk hlt
      have HQX := Aside0.mk hqx
      have HW4 := Aside0.mk hqx.1
      have HW5 := Aside0.mk hqx.2.1
      have HW3 := Aside0.mk hqx.2.2
      obtain ⟨ex, hex⟩ : ∃ ex, (if okA ⟨f0, f1, f2, f3, f4, f5⟩ = true then encA ⟨f0, f1, f2, f3, f4, f5⟩ else []) = ex := ⟨_, rfl⟩
      rw [hex] at hss hl0
      obtain ⟨T, hT⟩ : ∃ T, strOfNums ex = T := ⟨_, rfl⟩
      have hT0 := size_strOf ex
      rw [hT] at hss hT0
      have HT := Aside0.mk hT
      obtain ⟨S, hS⟩ : ∃ S, strOfNums (encS (l.take i)) = S := ⟨_, rfl⟩
      rw [hS] at hss hS0 ⊢
      obtain ⟨bb, hbb⟩ : ∃ bb, (l.take i).all okA = bb := ⟨_, rfl⟩
      rw [hbb] at has ⊢
      have HSS := Lib.hid hss
      have hsz : S.size + T.size ≤ 9223372036854775807 := by omega
      clear hxi hgx hC9 hT hS hss hsl hS0 hT0 hl0
      obtain ⟨ok, hok⟩ : ∃ ok, okA (⟨f0, f1, f2, f3, f4, f5⟩ : ActS) = ok := ⟨_, rfl⟩
      have HOK := Lib.hid (show okF f0 f1 f2 f3 f4 f5 = ok from hok)
      rw [hok] at has
      clear hbb
      cases ok with
      | true =>
        have HAS := Lib.hid has
        clear has
        have HEX := Aside0.mk (show encR [(⟨f0, f1, f2, f3, f4, f5⟩ : ActS)] = (ex, 0) by rw [encR_one hqx, hok, ← hex, hok]; rfl)
        clear hqx hex hok
        cases bb with
        | true =>
          go_wp2_with (first
            | (go_at_call 14; ((with_reducible refine (EncodeOne HO.out A9 (c - i) ⟨f0, f1, f2, f3, f4, f5⟩ HC9.out HQX.out ex 0 HEX.out).mono ?_)); rintro e w6 ⟨A6, c6, rfl, h⟩; obtain ⟨a0, a1, a2, a3, a4, a5⟩ := act_at HR.out h.bel i HLT.out f0 f1 f2 f3 f4 f5 HGX.out; have H6 := Aside0.mk h; clear h)
            | (go_at_call 17; ((with_reducible refine (RightF H6.out f0 f1 f2 f3 f4 f5 HW4.out HW5.out HW3.out).mono ?_)); rintro e w7 ⟨rfl, h⟩; rw [HOK.out]; have kcv := Kd.C_string (P := Try.prog) (c := c6) Try.underlying22 Try.underlying5 Try.underlying9 (own_C h); rw [HT.out] at kcv; have H7 := Aside0.mk h; clear h a0 a1 a2 a3 a4 a5))
          go_roundw
          case rel => exact ⟨i + 1, by omega, by rw [HAS.out] <;> rfl, by rw [HSS.out] <;> rfl, by first | rfl | go_num, ⟨H7.out.tail⟩⟩
          case measure => first | (simp [RowKit.intOf]; done) | (simp [RowKit.intOf]; omega)
        | false =>
          go_wp2_with (first
            | (go_at_call 14; ((with_reducible refine (EncodeOne HO.out A9 (c - i) ⟨f0, f1, f2, f3, f4, f5⟩ HC9.out HQX.out ex 0 HEX.out).mono ?_)); rintro e w6 ⟨A6, c6, rfl, h⟩; obtain ⟨a0, a1, a2, a3, a4, a5⟩ := act_at HR.out h.bel i HLT.out f0 f1 f2 f3 f4 f5 HGX.out; have H6 := Aside0.mk h; clear h)
            | (go_at_call 17; ((with_reducible refine (RightF H6.out f0 f1 f2 f3 f4 f5 HW4.out HW5.out HW3.out).mono ?_)); rintro e w7 ⟨rfl, h⟩; rw [HOK.out]; have kcv := Kd.C_string (P := Try.prog) (c := c6) Try.underlying22 Try.underlying5 Try.underlying9 (own_C h); rw [HT.out] at kcv; have H7 := Aside0.mk h; clear h a0 a1 a2 a3 a4 a5))
          go_roundw
          case rel => exact ⟨i + 1, by omega, by rw [HAS.out] <;> rfl, by rw [HSS.out] <;> rfl, by first | rfl | go_num, ⟨H7.out.tail⟩⟩
          case measure => first | (simp [RowKit.intOf]; done) | (simp [RowKit.intOf]; omega)
      | false =>
        have HAS := Lib.hid has
        clear has
        have HEX := Aside0.mk (show encR [(⟨f0, f1, f2, f3, f4, f5⟩ : ActS)] = (ex, 1) by rw [encR_one hqx, hok, ← hex, hok]; rfl)
        clear hqx hex hok
        cases bb with
        | true =>
          go_wp2_with (first
            | (go_at_call 14; ((with_reducible refine (EncodeOne HO.out A9 (c - i) ⟨f0, f1, f2, f3, f4, f5⟩ HC9.out HQX.out ex 1 HEX.out).mono ?_)); rintro e w6 ⟨A6, c6, rfl, h⟩; obtain ⟨a0, a1, a2, a3, a4, a5⟩ := act_at HR.out h.bel i HLT.out f0 f1 f2 f3 f4 f5 HGX.out; have H6 := Aside0.mk h; clear h)
            | (go_at_call 17; ((with_reducible refine (RightF H6.out f0 f1 f2 f3 f4 f5 HW4.out HW5.out HW3.out).mono ?_)); rintro e w7 ⟨rfl, h⟩; rw [HOK.out]; have kcv := Kd.C_string (P := Try.prog) (c := c6) Try.underlying22 Try.underlying5 Try.underlying9 (own_C h); rw [HT.out] at kcv; have H7 := Aside0.mk h; clear h a0 a1 a2 a3 a4 a5))
          go_roundw
          case rel => exact ⟨i + 1, by omega, by rw [HAS.out] <;> rfl, by rw [HSS.out] <;> rfl, by first | rfl | go_num, ⟨H7.out.tail⟩⟩
          case measure => first | (simp [RowKit.intOf]; done) | (simp [RowKit.intOf]; omega)
        | false =>
          go_wp2_with (first
            | (go_at_call 14; ((with_reducible refine (EncodeOne HO.out A9 (c - i) ⟨f0, f1, f2, f3, f4, f5⟩ HC9.out HQX.out ex 1 HEX.out).mono ?_)); rintro e w6 ⟨A6, c6, rfl, h⟩; obtain ⟨a0, a1, a2, a3, a4, a5⟩ := act_at HR.out h.bel i HLT.out f0 f1 f2 f3 f4 f5 HGX.out; have H6 := Aside0.mk h; clear h)
            | (go_at_call 17; ((with_reducible refine (RightF H6.out f0 f1 f2 f3 f4 f5 HW4.out HW5.out HW3.out).mono ?_)); rintro e w7 ⟨rfl, h⟩; rw [HOK.out]; have kcv := Kd.C_string (P := Try.prog) (c := c6) Try.underlying22 Try.underlying5 Try.underlying9 (own_C h); rw [HT.out] at kcv; have H7 := Aside0.mk h; clear h a0 a1 a2 a3 a4 a5))
          go_roundw
          case rel => exact ⟨i + 1, by omega, by rw [HAS.out] <;> rfl, by rw [HSS.out] <;> rfl, by first | rfl | go_num, ⟨H7.out.tail⟩⟩
          case measure => first | (simp [RowKit.intOf]; done) | (simp [RowKit.intOf]; omega)
    · obtain rfl : i = l.length := by omega
      rw [List.take_length]
      rw [HNO.out]
      have e0 := HX.out
      obtain ⟨S, hS⟩ : ∃ S, strOfNums (encS l) = S := ⟨_, rfl⟩
      rw [hS]
      clear hS
      go_wp2
      go_ret
      exact ⟨rfl, HO.out.bel⟩
set_option maxHeartbeats 8000000 in
set_option maxRecDepth 100000 in
theorem ScriptJoin_long (A : Option Addr) (c : Nat) (l : List ActS) (w : World) (hr : Kd.C k33 w A l.length l) (hc : l.length ≤ c) {k : Nat} (hf : meterlaw27_Great.f k l = some false) (hq : Small l) (hno : l.all okA = true) (x : List Int) (hx : x = []) (he : encR l = (x, 3)) (h4 : l.length > 4096) :
    Calls Try.prog 9 #[.slice A l.length c] w fun e w' => e = .returned (.bool true) ∧ Below w.heap.size w w' := by
  have HR := Aside0.mk hr
  have HC := Aside0.mk hc
  have HF := Aside0.mk hf
  have H0 := Aside0.mk (Own.nil w)
  have HQ := Aside0.mk hq.2
  have HL := Aside0.mk (show l.length ≤ 10000000 from by have := hq.1; omega)
  have HLL := Aside0.mk (show l.length ≤ 1000000 from by have := hq.1; omega)
  have hl5 := hq.1
  have HE := Aside0.mk he
  have HNO := Lib.hid hno
  have HX := Aside0.mk (show (((x.length : Int)) == 0) = true by subst hx; rfl)
  have d5 : decide ((l.length : Int) > 4096) = true := decide_eq_true (by omega)
  have d5' : decide (4096 < (l.length : Int)) = true := decide_eq_true (by omega)
  have d5'' : decide (4096 < l.length) = true := decide_eq_true (by omega)
  clear hr hc hf hq he hno hx
  go_enter Try.func9, Try.ntmps9
  go_wp2_with (first
    | (go_at_call 10; ((with_reducible refine (awake_calls H0.out).mono ?_)); rintro e w1 ⟨rfl, h⟩; have H1 := Aside0.mk h; clear h)
    | (go_at_call 15; ((with_reducible refine (great_calls H1.out HF.out A c (C_of_own H1.out HR.out) HC.out).mono ?_)); rintro e w2 ⟨rfl, h⟩; have H2 := Aside0.mk h; clear h)
    | (go_at_call 14; ((with_reducible refine (EncodeB H2.out A c l (C_of_own H2.out HR.out) HQ.out HL.out x 3 HE.out).mono ?_)); rintro e w3 ⟨A1, c1, rfl, h⟩; have H3 := Aside0.mk h; clear h))
  rename World => wo
  go_loopw [5, 6, 7] (fun v5 v6 v7 wr => ∃ i : Nat, i ≤ l.length ∧ v5 = .bool ((l.take i).all okA) ∧ v6 = .string (strOfNums (encS (l.take i))) ∧ v7 = .int .i64 i ∧ Aside0 (Own w wr (Row (Kd.int .u8) 5 (.slice A1 x.length c1) x :: []))) (fun _ _ v7 _ => l.length - (RowKit.intOf v7).toNat)
  case atStart => exact ⟨0, Nat.zero_le _, rfl, rfl, rfl, H3⟩
  case round =>
    obtain ⟨i, hi, rfl, rfl, rfl, HO⟩ := hrel
    by_cases hlt : i < l.length
    · have hgx := List.getElem?_eq_getElem hlt
      obtain ⟨xi, hxi⟩ : ∃ xi, l[i] = xi := ⟨_, rfl⟩
      rw [hxi] at hgx
      have hmem := List.mem_of_getElem? hgx
      have hqx := HQ.out xi hmem
      clear hmem
      have has := all_snoc l i xi hgx
      have hss := congrArg strOfNums (encS_snoc l i xi hgx)
      rw [strOf_append] at hss
      have hsl := encS_len (l.take i) (fun y hy => HQ.out y (List.mem_of_mem_take hy))
      rw [List.length_take, Nat.min_eq_left hi] at hsl
      have hS0 := size_strOf (encS (l.take i))
      have hl0 : (if okA xi = true then encA xi else []).length ≤ 1000 := by
        split
        · exact encA_len xi hqx (by assumption)
        · simp
      obtain ⟨f0, f1, f2, f3, f4, f5⟩ := xi
      rcases A with _ | ad
      · exact absurd (HR.out.2.2 (by omega)) (by rintro ⟨_, h, _⟩; cases h)
      obtain ⟨A9, ks, hC9⟩ := cut_act (C_of_own HO.out HR.out) HC.out i _ hgx
      have HC9 := Aside0.mk hC9
      have HGX := Aside0.mk hgx
      have HLT := Aside0.mk hlt
      have HQX := Aside0.mk hqx
      have HW4 := Aside0.mk hqx.1
      have HW5 := Aside0.mk hqx.2.1
      have HW3 := Aside0.mk hqx.2.2
      obtain ⟨ex, hex⟩ : ∃ ex, (if okA ⟨f0, f1, f2, f3, f4, f5⟩ = true then encA ⟨f0, f1, f2, f3, f4, f5⟩ else []) = ex := ⟨_, rfl⟩
      rw [hex] at hss hl0
      obtain ⟨T, hT⟩ : ∃ T, strOfNums ex = T := ⟨_, rfl⟩
      have hT0 := size_strOf ex
      rw [hT] at hss hT0
      have HT := Aside0.mk hT
      obtain ⟨S, hS⟩ : ∃ S, strOfNums (encS (l.take i)) = S := ⟨_, rfl⟩
      rw [hS] at hss hS0 ⊢
      obtain ⟨bb, hbb⟩ : ∃ bb, (l.take i).all okA = bb := ⟨_, rfl⟩
      rw [hbb] at has ⊢
      have HSS := Lib.hid hss
      have hsz : S.size + T.size ≤ 9223372036854775807 := by omega
      clear hxi hgx hC9 hT hS hss hsl hS0 hT0 hl0
      obtain ⟨ok, hok⟩ : ∃ ok, okA (⟨f0, f1, f2, f3, f4, f5⟩ : ActS) = ok := ⟨_, rfl⟩
      have HOK := Lib.hid (show okF f0 f1 f2 f3 f4 f5 = ok from hok)
      rw [hok] at has
      clear hbb
      cases ok with
      | true =>
        have HAS := Lib.hid has
        clear has
        have HEX := Aside0.mk (show encR [(⟨f0, f1, f2, f3, f4, f5⟩ : ActS)] = (ex, 0) by rw [encR_one hqx, hok, ← hex, hok]; rfl)
        clear hqx hex hok
        cases bb with
        | true =>
          go_wp2_with (first
            | (go_at_call 14; ((with_reducible refine (EncodeOne HO.out A9 (c - i) ⟨f0, f1, f2, f3, f4, f5⟩ HC9.out HQX.out ex 0 HEX.out).mono ?_)); rintro e w6 ⟨A6, c6, rfl, h⟩; obtain ⟨a0, a1, a2, a3, a4, a5⟩ := act_at HR.out h.bel i HLT.out f0 f1 f2 f3 f4 f5 HGX.out; have H6 := Aside0.mk h; clear h)
            | (go_at_call 17; ((with_reducible refine (RightF H6.out f0 f1 f2 f3 f4 f5 HW4.out HW5.out HW3.out).mono ?_)); rintro e w7 ⟨rfl, h⟩; rw [HOK.out]; have kcv := Kd.C_string (P := Try.prog) (c := c6) Try.underlying22 Try.underlying5 Try.underlying9 (own_C h); rw [HT.out] at kcv; have H7 := Aside0.mk h; clear h a0 a1 a2 a3 a4 a5))
          go_roundw
          case rel => exact ⟨i + 1, by omega, by rw [HAS.out] <;> rfl, by rw [HSS.out] <;> rfl, by first | rfl | go_num, ⟨H7.out.tail⟩⟩
          case measure => first | (simp [RowKit.intOf]; done) | (simp [RowKit.intOf]; omega)
        | false =>
          go_wp2_with (first
            | (go_at_call 14; ((with_reducible refine (EncodeOne HO.out A9 (c - i) ⟨f0, f1, f2, f3, f4, f5⟩ HC9.out HQX.out ex 0 HEX.out).mono ?_)); rintro e w6 ⟨A6, c6, rfl, h⟩; obtain ⟨a0, a1, a2, a3, a4, a5⟩ := act_at HR.out h.bel i HLT.out f0 f1 f2 f3 f4 f5 HGX.out; have H6 := Aside0.mk h; clear h)
            | (go_at_call 17; ((with_reducible refine (RightF H6.out f0 f1 f2 f3 f4 f5 HW4.out HW5.out HW3.out).mono ?_)); rintro e w7 ⟨rfl, h⟩; rw [HOK.out]; have kcv := Kd.C_string (P := Try.prog) (c := c6) Try.underlying22 Try.underlying5 Try.underlying9 (own_C h); rw [HT.out] at kcv; have H7 := Aside0.mk h; clear h a0 a1 a2 a3 a4 a5))
          go_roundw
          case rel => exact ⟨i + 1, by omega, by rw [HAS.out] <;> rfl, by rw [HSS.out] <;> rfl, by first | rfl | go_num, ⟨H7.out.tail⟩⟩
          case measure => first | (simp [RowKit.intOf]; done) | (simp [RowKit.intOf]; omega)
      | false =>
        have HAS := Lib.hid has
        clear has
        have HEX := Aside0.mk (show encR [(⟨f0, f1, f2, f3, f4, f5⟩ : ActS)] = (ex, 1) by rw [encR_one hqx, hok, ← hex, hok]; rfl)
        clear hqx hex hok
        cases bb with
        | true =>
          go_wp2_with (first
            | (go_at_call 14; ((with_reducible refine (EncodeOne HO.out A9 (c - i) ⟨f0, f1, f2, f3, f4, f5⟩ HC9.out HQX.out ex 1 HEX.out).mono ?_)); rintro e w6 ⟨A6, c6, rfl, h⟩; obtain ⟨a0, a1, a2, a3, a4, a5⟩ := act_at HR.out h.bel i HLT.out f0 f1 f2 f3 f4 f5 HGX.out; have H6 := Aside0.mk h; clear h)
            | (go_at_call 17; ((with_reducible refine (RightF H6.out f0 f1 f2 f3 f4 f5 HW4.out HW5.out HW3.out).mono ?_)); rintro e w7 ⟨rfl, h⟩; rw [HOK.out]; have kcv := Kd.C_string (P := Try.prog) (c := c6) Try.underlying22 Try.underlying5 Try.underlying9 (own_C h); rw [HT.out] at kcv; have H7 := Aside0.mk h; clear h a0 a1 a2 a3 a4 a5))
          go_roundw
          case rel => exact ⟨i + 1, by omega, by rw [HAS.out] <;> rfl, by rw [HSS.out] <;> rfl, by first | rfl | go_num, ⟨H7.out.tail⟩⟩
          case measure => first | (simp [RowKit.intOf]; done) | (simp [RowKit.intOf]; omega)
        | false =>
          go_wp2_with (first
            | (go_at_call 14; ((with_reducible refine (EncodeOne HO.out A9 (c - i) ⟨f0, f1, f2, f3, f4, f5⟩ HC9.out HQX.out ex 1 HEX.out).mono ?_)); rintro e w6 ⟨A6, c6, rfl, h⟩; obtain ⟨a0, a1, a2, a3, a4, a5⟩ := act_at HR.out h.bel i HLT.out f0 f1 f2 f3 f4 f5 HGX.out; have H6 := Aside0.mk h; clear h)
            | (go_at_call 17; ((with_reducible refine (RightF H6.out f0 f1 f2 f3 f4 f5 HW4.out HW5.out HW3.out).mono ?_)); rintro e w7 ⟨rfl, h⟩; rw [HOK.out]; have kcv := Kd.C_string (P := Try.prog) (c := c6) Try.underlying22 Try.underlying5 Try.underlying9 (own_C h); rw [HT.out] at kcv; have H7 := Aside0.mk h; clear h a0 a1 a2 a3 a4 a5))
          go_roundw
          case rel => exact ⟨i + 1, by omega, by rw [HAS.out] <;> rfl, by rw [HSS.out] <;> rfl, by first | rfl | go_num, ⟨H7.out.tail⟩⟩
          case measure => first | (simp [RowKit.intOf]; done) | (simp [RowKit.intOf]; omega)
    · obtain rfl : i = l.length := by omega
      rw [List.take_length]
      rw [HNO.out]
      have e0 := HX.out
      obtain ⟨S, hS⟩ : ∃ S, strOfNums (encS l) = S := ⟨_, rfl⟩
      rw [hS]
      clear hS
      go_wp2
      go_ret
      exact ⟨rfl, HO.out.bel⟩
set_option maxHeartbeats 8000000 in
set_option maxRecDepth 100000 in
theorem ScriptJoin_over (A : Option Addr) (c : Nat) (l : List ActS) (w : World) (hr : Kd.C k33 w A l.length l) (hc : l.length ≤ c) {k : Nat} (hf : meterlaw27_Great.f k l = some false) (hq : Small l) (hno : l.all okA = true) (x : List Int) (hx : x = []) (he : encR l = (x, 3)) (h4 : l.length ≤ 4096) (h6 : (encL l).length > 65536) :
    Calls Try.prog 9 #[.slice A l.length c] w fun e w' => e = .returned (.bool true) ∧ Below w.heap.size w w' := by
  have HR := Aside0.mk hr
  have HC := Aside0.mk hc
  have HF := Aside0.mk hf
  have H0 := Aside0.mk (Own.nil w)
  have HQ := Aside0.mk hq.2
  have HL := Aside0.mk (show l.length ≤ 10000000 from by have := hq.1; omega)
  have HLL := Aside0.mk (show l.length ≤ 1000000 from by have := hq.1; omega)
  have hl5 := hq.1
  have HE := Aside0.mk he
  have HNO := Lib.hid hno
  have HX := Aside0.mk (show (((x.length : Int)) == 0) = true by subst hx; rfl)
  have HS6 := Aside0.mk (show (strOfNums (encS l)).size > 65536 by rw [size_strOf, encS_ok l hno]; exact h6)
  have d5 : decide ((l.length : Int) > 4096) = false := decide_eq_false (by omega)
  have d5' : decide (4096 < (l.length : Int)) = false := decide_eq_false (by omega)
  have d5'' : decide (4096 < l.length) = false := decide_eq_false (by omega)
  clear hr hc hf hq he hno hx h6
  go_enter Try.func9, Try.ntmps9
  go_wp2_with (first
    | (go_at_call 10; ((with_reducible refine (awake_calls H0.out).mono ?_)); rintro e w1 ⟨rfl, h⟩; have H1 := Aside0.mk h; clear h)
    | (go_at_call 15; ((with_reducible refine (great_calls H1.out HF.out A c (C_of_own H1.out HR.out) HC.out).mono ?_)); rintro e w2 ⟨rfl, h⟩; have H2 := Aside0.mk h; clear h)
    | (go_at_call 14; ((with_reducible refine (EncodeB H2.out A c l (C_of_own H2.out HR.out) HQ.out HL.out x 3 HE.out).mono ?_)); rintro e w3 ⟨A1, c1, rfl, h⟩; have H3 := Aside0.mk h; clear h))
  rename World => wo
  go_loopw [5, 6, 7] (fun v5 v6 v7 wr => ∃ i : Nat, i ≤ l.length ∧ v5 = .bool ((l.take i).all okA) ∧ v6 = .string (strOfNums (encS (l.take i))) ∧ v7 = .int .i64 i ∧ Aside0 (Own w wr (Row (Kd.int .u8) 5 (.slice A1 x.length c1) x :: []))) (fun _ _ v7 _ => l.length - (RowKit.intOf v7).toNat)
  case atStart => exact ⟨0, Nat.zero_le _, rfl, rfl, rfl, H3⟩
  case round =>
    obtain ⟨i, hi, rfl, rfl, rfl, HO⟩ := hrel
    by_cases hlt : i < l.length
    · have hgx := List.getElem?_eq_getElem hlt
      obtain ⟨xi, hxi⟩ : ∃ xi, l[i] = xi := ⟨_, rfl⟩
      rw [hxi] at hgx
      have hmem := List.mem_of_getElem? hgx
      have hqx := HQ.out xi hmem
      clear hmem
      have has := all_snoc l i xi hgx
      have hss := congrArg strOfNums (encS_snoc l i xi hgx)
      rw [strOf_append] at hss
      have hsl := encS_len (l.take i) (fun y hy => HQ.out y (List.mem_of_mem_take hy))
      rw [List.length_take, Nat.min_eq_left hi] at hsl
      have hS0 := size_strOf (encS (l.take i))
      have hl0 : (if okA xi = true then encA xi else []).length ≤ 1000 := by
        split
        · exact encA_len xi hqx (by assumption)
        · simp
      obtain ⟨f0, f1, f2, f3, f4, f5⟩ := xi
      rcases A with _ | ad
      · exact absurd (HR.out.2.2 (by omega)) (by rintro ⟨_, h, _⟩; cases h)
      obtain ⟨A9, ks, hC9⟩ := cut_act (C_of_own HO.out HR.out) HC.out i _ hgx
      have HC9 := Aside0.mk hC9
      have HGX := Aside0.mk hgx
      have HLT := Aside0.mk hlt
      have HQX := Aside0.mk hqx
      have HW4 := Aside0.mk hqx.1
      have HW5 := Aside0.mk hqx.2.1
      have HW3 := Aside0.mk hqx.2.2
      obtain ⟨ex, hex⟩ : ∃ ex, (if okA ⟨f0, f1, f2, f3, f4, f5⟩ = true then encA ⟨f0, f1, f2, f3, f4, f5⟩ else []) = ex := ⟨_, rfl⟩
      rw [hex] at hss hl0
      obtain ⟨T, hT⟩ : ∃ T, strOfNums ex = T := ⟨_, rfl⟩
      have hT0 := size_strOf ex
      rw [hT] at hss hT0
      have HT := Aside0.mk hT
      obtain ⟨S, hS⟩ : ∃ S, strOfNums (encS (l.take i)) = S := ⟨_, rfl⟩
      rw [hS] at hss hS0 ⊢
      obtain ⟨bb, hbb⟩ : ∃ bb, (l.take i).all okA = bb := ⟨_, rfl⟩
      rw [hbb] at has ⊢
      have HSS := Lib.hid hss
      have hsz : S.size + T.size ≤ 9223372036854775807 := by omega
      clear hxi hgx hC9 hT hS hss hsl hS0 hT0 hl0
      obtain ⟨ok, hok⟩ : ∃ ok, okA (⟨f0, f1, f2, f3, f4, f5⟩ : ActS) = ok := ⟨_, rfl⟩
      have HOK := Lib.hid (show okF f0 f1 f2 f3 f4 f5 = ok from hok)
      rw [hok] at has
      clear hbb
      cases ok with
      | true =>
        have HAS := Lib.hid has
        clear has
        have HEX := Aside0.mk (show encR [(⟨f0, f1, f2, f3, f4, f5⟩ : ActS)] = (ex, 0) by rw [encR_one hqx, hok, ← hex, hok]; rfl)
        clear hqx hex hok
        cases bb with
        | true =>
          go_wp2_with (first
            | (go_at_call 14; ((with_reducible refine (EncodeOne HO.out A9 (c - i) ⟨f0, f1, f2, f3, f4, f5⟩ HC9.out HQX.out ex 0 HEX.out).mono ?_)); rintro e w6 ⟨A6, c6, rfl, h⟩; obtain ⟨a0, a1, a2, a3, a4, a5⟩ := act_at HR.out h.bel i HLT.out f0 f1 f2 f3 f4 f5 HGX.out; have H6 := Aside0.mk h; clear h)
            | (go_at_call 17; ((with_reducible refine (RightF H6.out f0 f1 f2 f3 f4 f5 HW4.out HW5.out HW3.out).mono ?_)); rintro e w7 ⟨rfl, h⟩; rw [HOK.out]; have kcv := Kd.C_string (P := Try.prog) (c := c6) Try.underlying22 Try.underlying5 Try.underlying9 (own_C h); rw [HT.out] at kcv; have H7 := Aside0.mk h; clear h a0 a1 a2 a3 a4 a5))
          go_roundw
          case rel => exact ⟨i + 1, by omega, by rw [HAS.out] <;> rfl, by rw [HSS.out] <;> rfl, by first | rfl | go_num, ⟨H7.out.tail⟩⟩
          case measure => first | (simp [RowKit.intOf]; done) | (simp [RowKit.intOf]; omega)
        | false =>
          go_wp2_with (first
            | (go_at_call 14; ((with_reducible refine (EncodeOne HO.out A9 (c - i) ⟨f0, f1, f2, f3, f4, f5⟩ HC9.out HQX.out ex 0 HEX.out).mono ?_)); rintro e w6 ⟨A6, c6, rfl, h⟩; obtain ⟨a0, a1, a2, a3, a4, a5⟩ := act_at HR.out h.bel i HLT.out f0 f1 f2 f3 f4 f5 HGX.out; have H6 := Aside0.mk h; clear h)
            | (go_at_call 17; ((with_reducible refine (RightF H6.out f0 f1 f2 f3 f4 f5 HW4.out HW5.out HW3.out).mono ?_)); rintro e w7 ⟨rfl, h⟩; rw [HOK.out]; have kcv := Kd.C_string (P := Try.prog) (c := c6) Try.underlying22 Try.underlying5 Try.underlying9 (own_C h); rw [HT.out] at kcv; have H7 := Aside0.mk h; clear h a0 a1 a2 a3 a4 a5))
          go_roundw
          case rel => exact ⟨i + 1, by omega, by rw [HAS.out] <;> rfl, by rw [HSS.out] <;> rfl, by first | rfl | go_num, ⟨H7.out.tail⟩⟩
          case measure => first | (simp [RowKit.intOf]; done) | (simp [RowKit.intOf]; omega)
      | false =>
        have HAS := Lib.hid has
        clear has
        have HEX := Aside0.mk (show encR [(⟨f0, f1, f2, f3, f4, f5⟩ : ActS)] = (ex, 1) by rw [encR_one hqx, hok, ← hex, hok]; rfl)
        clear hqx hex hok
        cases bb with
        | true =>
          go_wp2_with (first
            | (go_at_call 14; ((with_reducible refine (EncodeOne HO.out A9 (c - i) ⟨f0, f1, f2, f3, f4, f5⟩ HC9.out HQX.out ex 1 HEX.out).mono ?_)); rintro e w6 ⟨A6, c6, rfl, h⟩; obtain ⟨a0, a1, a2, a3, a4, a5⟩ := act_at HR.out h.bel i HLT.out f0 f1 f2 f3 f4 f5 HGX.out; have H6 := Aside0.mk h; clear h)
            | (go_at_call 17; ((with_reducible refine (RightF H6.out f0 f1 f2 f3 f4 f5 HW4.out HW5.out HW3.out).mono ?_)); rintro e w7 ⟨rfl, h⟩; rw [HOK.out]; have kcv := Kd.C_string (P := Try.prog) (c := c6) Try.underlying22 Try.underlying5 Try.underlying9 (own_C h); rw [HT.out] at kcv; have H7 := Aside0.mk h; clear h a0 a1 a2 a3 a4 a5))
          go_roundw
          case rel => exact ⟨i + 1, by omega, by rw [HAS.out] <;> rfl, by rw [HSS.out] <;> rfl, by first | rfl | go_num, ⟨H7.out.tail⟩⟩
          case measure => first | (simp [RowKit.intOf]; done) | (simp [RowKit.intOf]; omega)
        | false =>
          go_wp2_with (first
            | (go_at_call 14; ((with_reducible refine (EncodeOne HO.out A9 (c - i) ⟨f0, f1, f2, f3, f4, f5⟩ HC9.out HQX.out ex 1 HEX.out).mono ?_)); rintro e w6 ⟨A6, c6, rfl, h⟩; obtain ⟨a0, a1, a2, a3, a4, a5⟩ := act_at HR.out h.bel i HLT.out f0 f1 f2 f3 f4 f5 HGX.out; have H6 := Aside0.mk h; clear h)
            | (go_at_call 17; ((with_reducible refine (RightF H6.out f0 f1 f2 f3 f4 f5 HW4.out HW5.out HW3.out).mono ?_)); rintro e w7 ⟨rfl, h⟩; rw [HOK.out]; have kcv := Kd.C_string (P := Try.prog) (c := c6) Try.underlying22 Try.underlying5 Try.underlying9 (own_C h); rw [HT.out] at kcv; have H7 := Aside0.mk h; clear h a0 a1 a2 a3 a4 a5))
          go_roundw
          case rel => exact ⟨i + 1, by omega, by rw [HAS.out] <;> rfl, by rw [HSS.out] <;> rfl, by first | rfl | go_num, ⟨H7.out.tail⟩⟩
          case measure => first | (simp [RowKit.intOf]; done) | (simp [RowKit.intOf]; omega)
    · obtain rfl : i = l.length := by omega
      rw [List.take_length]
      rw [HNO.out]
      have e0 := HX.out
      obtain ⟨S, hS⟩ : ∃ S, strOfNums (encS l) = S := ⟨_, rfl⟩
      have hs6 := HS6.out
      rw [hS] at hs6 ⊢
      have d6 : decide ((S.size : Int) > 65536) = true := decide_eq_true (by omega)
      have d6' : decide (65536 < (S.size : Int)) = true := decide_eq_true (by omega)
      have d6'' : decide (65536 < S.size) = true := decide_eq_true (by omega)
      clear hS hs6
      go_wp2
      go_ret
      exact ⟨rfl, HO.out.bel⟩
set_option maxHeartbeats 8000000 in
set_option maxRecDepth 100000 in
theorem ScriptJoin_fine (A : Option Addr) (c : Nat) (l : List ActS) (w : World) (hr : Kd.C k33 w A l.length l) (hc : l.length ≤ c) {k : Nat} (hf : meterlaw27_Great.f k l = some false) (hq : Small l) (hno : l.all okA = true) (x : List Int) (hx : encL l = x) (he : encR l = (x, 0)) (h4 : l.length ≤ 4096) (h6 : x.length ≤ 65536) :
    Calls Try.prog 9 #[.slice A l.length c] w fun e w' => e = .returned (.bool true) ∧ Below w.heap.size w w' := by
  have HR := Aside0.mk hr
  have HC := Aside0.mk hc
  have HF := Aside0.mk hf
  have H0 := Aside0.mk (Own.nil w)
  have HQ := Aside0.mk hq.2
  have HL := Aside0.mk (show l.length ≤ 10000000 from by have := hq.1; omega)
  have HLL := Aside0.mk (show l.length ≤ 1000000 from by have := hq.1; omega)
  have hl5 := hq.1
  have HE := Aside0.mk he
  have HNO := Lib.hid hno
  have HSX := Aside0.mk (show strOfNums (encS l) = strOfNums x by rw [encS_ok l hno, hx])
  have HS6 := Aside0.mk (show (strOfNums x).size ≤ 65536 by rw [size_strOf]; exact h6)
  have d5 : decide ((l.length : Int) > 4096) = false := decide_eq_false (by omega)
  have d5' : decide (4096 < (l.length : Int)) = false := decide_eq_false (by omega)
  have d5'' : decide (4096 < l.length) = false := decide_eq_false (by omega)
  clear hr hc hf hq he hno hx
  go_enter Try.func9, Try.ntmps9
  go_wp2_with (first
    | (go_at_call 10; ((with_reducible refine (awake_calls H0.out).mono ?_)); rintro e w1 ⟨rfl, h⟩; have H1 := Aside0.mk h; clear h)
    | (go_at_call 15; ((with_reducible refine (great_calls H1.out HF.out A c (C_of_own H1.out HR.out) HC.out).mono ?_)); rintro e w2 ⟨rfl, h⟩; have H2 := Aside0.mk h; clear h)
    | (go_at_call 14; ((with_reducible refine (EncodeB H2.out A c l (C_of_own H2.out HR.out) HQ.out HL.out x 0 HE.out).mono ?_)); rintro e w3 ⟨A1, c1, rfl, h⟩; have H3 := Aside0.mk h; clear h))
  rename World => wo
  go_loopw [5, 6, 7] (fun v5 v6 v7 wr => ∃ i : Nat, i ≤ l.length ∧ v5 = .bool ((l.take i).all okA) ∧ v6 = .string (strOfNums (encS (l.take i))) ∧ v7 = .int .i64 i ∧ Aside0 (Own w wr (Row (Kd.int .u8) 5 (.slice A1 x.length c1) x :: []))) (fun _ _ v7 _ => l.length - (RowKit.intOf v7).toNat)
  case atStart => exact ⟨0, Nat.zero_le _, rfl, rfl, rfl, H3⟩
  case round =>
    obtain ⟨i, hi, rfl, rfl, rfl, HO⟩ := hrel
    by_cases hlt : i < l.length
    · have hgx := List.getElem?_eq_getElem hlt
      obtain ⟨xi, hxi⟩ : ∃ xi, l[i] = xi := ⟨_, rfl⟩
      rw [hxi] at hgx
      have hmem := List.mem_of_getElem? hgx
      have hqx := HQ.out xi hmem
      clear hmem
      have has := all_snoc l i xi hgx
      have hss := congrArg strOfNums (encS_snoc l i xi hgx)
      rw [strOf_append] at hss
      have hsl := encS_len (l.take i) (fun y hy => HQ.out y (List.mem_of_mem_take hy))
      rw [List.length_take, Nat.min_eq_left hi] at hsl
      have hS0 := size_strOf (encS (l.take i))
      have hl0 : (if okA xi = true then encA xi else []).length ≤ 1000 := by
        split
        · exact encA_len xi hqx (by assumption)
        · simp
      obtain ⟨f0, f1, f2, f3, f4, f5⟩ := xi
      rcases A with _ | ad
      · exact absurd (HR.out.2.2 (by omega)) (by rintro ⟨_, h, _⟩; cases h)
      obtain ⟨A9, ks, hC9⟩ := cut_act (C_of_own HO.out HR.out) HC.out i _ hgx
      have HC9 := Aside0.mk hC9
      have HGX := Aside0.mk hgx
      have HLT := Aside0.mk hlt
      have HQX := Aside0.mk hqx
      have HW4 := Aside0.mk hqx.1
      have HW5 := Aside0.mk hqx.2.1
      have HW3 := Aside0.mk hqx.2.2
      obtain ⟨ex, hex⟩ : ∃ ex, (if okA ⟨f0, f1, f2, f3, f4, f5⟩ = true then encA ⟨f0, f1, f2, f3, f4, f5⟩ else []) = ex := ⟨_, rfl⟩
      rw [hex] at hss hl0
      obtain ⟨T, hT⟩ : ∃ T, strOfNums ex = T := ⟨_, rfl⟩
      have hT0 := size_strOf ex
      rw [hT] at hss hT0
      have HT := Aside0.mk hT
      obtain ⟨S, hS⟩ : ∃ S, strOfNums (encS (l.take i)) = S := ⟨_, rfl⟩
      rw [hS] at hss hS0 ⊢
      obtain ⟨bb, hbb⟩ : ∃ bb, (l.take i).all okA = bb := ⟨_, rfl⟩
      rw [hbb] at has ⊢
      have HSS := Lib.hid hss
      have hsz : S.size + T.size ≤ 9223372036854775807 := by omega
      clear hxi hgx hC9 hT hS hss hsl hS0 hT0 hl0
      obtain ⟨ok, hok⟩ : ∃ ok, okA (⟨f0, f1, f2, f3, f4, f5⟩ : ActS) = ok := ⟨_, rfl⟩
      have HOK := Lib.hid (show okF f0 f1 f2 f3 f4 f5 = ok from hok)
      rw [hok] at has
      clear hbb
      cases ok with
      | true =>
        have HAS := Lib.hid has
        clear has
        have HEX := Aside0.mk (show encR [(⟨f0, f1, f2, f3, f4, f5⟩ : ActS)] = (ex, 0) by rw [encR_one hqx, hok, ← hex, hok]; rfl)
        clear hqx hex hok
        cases bb with
        | true =>
          go_wp2_with (first
            | (go_at_call 14; ((with_reducible refine (EncodeOne HO.out A9 (c - i) ⟨f0, f1, f2, f3, f4, f5⟩ HC9.out HQX.out ex 0 HEX.out).mono ?_)); rintro e w6 ⟨A6, c6, rfl, h⟩; obtain ⟨a0, a1, a2, a3, a4, a5⟩ := act_at HR.out h.bel i HLT.out f0 f1 f2 f3 f4 f5 HGX.out; have H6 := Aside0.mk h; clear h)
            | (go_at_call 17; ((with_reducible refine (RightF H6.out f0 f1 f2 f3 f4 f5 HW4.out HW5.out HW3.out).mono ?_)); rintro e w7 ⟨rfl, h⟩; rw [HOK.out]; have kcv := Kd.C_string (P := Try.prog) (c := c6) Try.underlying22 Try.underlying5 Try.underlying9 (own_C h); rw [HT.out] at kcv; have H7 := Aside0.mk h; clear h a0 a1 a2 a3 a4 a5))
          go_roundw
          case rel => exact ⟨i + 1, by omega, by rw [HAS.out] <;> rfl, by rw [HSS.out] <;> rfl, by first | rfl | go_num, ⟨H7.out.tail⟩⟩
          case measure => first | (simp [RowKit.intOf]; done) | (simp [RowKit.intOf]; omega)
        | false =>
          go_wp2_with (first
            | (go_at_call 14; ((with_reducible refine (EncodeOne HO.out A9 (c - i) ⟨f0, f1, f2, f3, f4, f5⟩ HC9.out HQX.out ex 0 HEX.out).mono ?_)); rintro e w6 ⟨A6, c6, rfl, h⟩; obtain ⟨a0, a1, a2, a3, a4, a5⟩ := act_at HR.out h.bel i HLT.out f0 f1 f2 f3 f4 f5 HGX.out; have H6 := Aside0.mk h; clear h)
            | (go_at_call 17; ((with_reducible refine (RightF H6.out f0 f1 f2 f3 f4 f5 HW4.out HW5.out HW3.out).mono ?_)); rintro e w7 ⟨rfl, h⟩; rw [HOK.out]; have kcv := Kd.C_string (P := Try.prog) (c := c6) Try.underlying22 Try.underlying5 Try.underlying9 (own_C h); rw [HT.out] at kcv; have H7 := Aside0.mk h; clear h a0 a1 a2 a3 a4 a5))
          go_roundw
          case rel => exact ⟨i + 1, by omega, by rw [HAS.out] <;> rfl, by rw [HSS.out] <;> rfl, by first | rfl | go_num, ⟨H7.out.tail⟩⟩
          case measure => first | (simp [RowKit.intOf]; done) | (simp [RowKit.intOf]; omega)
      | false =>
        have HAS := Lib.hid has
        clear has
        have HEX := Aside0.mk (show encR [(⟨f0, f1, f2, f3, f4, f5⟩ : ActS)] = (ex, 1) by rw [encR_one hqx, hok, ← hex, hok]; rfl)
        clear hqx hex hok
        cases bb with
        | true =>
          go_wp2_with (first
            | (go_at_call 14; ((with_reducible refine (EncodeOne HO.out A9 (c - i) ⟨f0, f1, f2, f3, f4, f5⟩ HC9.out HQX.out ex 1 HEX.out).mono ?_)); rintro e w6 ⟨A6, c6, rfl, h⟩; obtain ⟨a0, a1, a2, a3, a4, a5⟩ := act_at HR.out h.bel i HLT.out f0 f1 f2 f3 f4 f5 HGX.out; have H6 := Aside0.mk h; clear h)
            | (go_at_call 17; ((with_reducible refine (RightF H6.out f0 f1 f2 f3 f4 f5 HW4.out HW5.out HW3.out).mono ?_)); rintro e w7 ⟨rfl, h⟩; rw [HOK.out]; have kcv := Kd.C_string (P := Try.prog) (c := c6) Try.underlying22 Try.underlying5 Try.underlying9 (own_C h); rw [HT.out] at kcv; have H7 := Aside0.mk h; clear h a0 a1 a2 a3 a4 a5))
          go_roundw
          case rel => exact ⟨i + 1, by omega, by rw [HAS.out] <;> rfl, by rw [HSS.out] <;> rfl, by first | rfl | go_num, ⟨H7.out.tail⟩⟩
          case measure => first | (simp [RowKit.intOf]; done) | (simp [RowKit.intOf]; omega)
        | false =>
          go_wp2_with (first
            | (go_at_call 14; ((with_reducible refine (EncodeOne HO.out A9 (c - i) ⟨f0, f1, f2, f3, f4, f5⟩ HC9.out HQX.out ex 1 HEX.out).mono ?_)); rintro e w6 ⟨A6, c6, rfl, h⟩; obtain ⟨a0, a1, a2, a3, a4, a5⟩ := act_at HR.out h.bel i HLT.out f0 f1 f2 f3 f4 f5 HGX.out; have H6 := Aside0.mk h; clear h)
            | (go_at_call 17; ((with_reducible refine (RightF H6.out f0 f1 f2 f3 f4 f5 HW4.out HW5.out HW3.out).mono ?_)); rintro e w7 ⟨rfl, h⟩; rw [HOK.out]; have kcv := Kd.C_string (P := Try.prog) (c := c6) Try.underlying22 Try.underlying5 Try.underlying9 (own_C h); rw [HT.out] at kcv; have H7 := Aside0.mk h; clear h a0 a1 a2 a3 a4 a5))
          go_roundw
          case rel => exact ⟨i + 1, by omega, by rw [HAS.out] <;> rfl, by rw [HSS.out] <;> rfl, by first | rfl | go_num, ⟨H7.out.tail⟩⟩
          case measure => first | (simp [RowKit.intOf]; done) | (simp [RowKit.intOf]; omega)
    · obtain rfl : i = l.length := by omega
      rw [List.take_length]
      rw [HNO.out, HSX.out]
      have hs6 := HS6.out
      have kcv := Kd.C_string (P := Try.prog) (c := c1) Try.underlying22 Try.underlying5 Try.underlying9 (own_C HO.out)
      obtain ⟨S, hS⟩ : ∃ S, strOfNums x = S := ⟨_, rfl⟩
      rw [hS] at hs6 kcv ⊢
      have d6 : decide ((S.size : Int) > 65536) = false := decide_eq_false (by omega)
      have d6' : decide (65536 < (S.size : Int)) = false := decide_eq_false (by omega)
      have d6'' : decide (65536 < S.size) = false := decide_eq_false (by omega)
      clear hS hs6
      go_wp2
      go_ret
      exact ⟨rfl, HO.out.bel⟩
theorem ScriptJoin_law (A : Option Addr) (c : Nat) (l : List ActS) (w : World) (hr : Kd.C k33 w A l.length l) (hc : l.length ≤ c) (hq : l.length ≤ 9223372036854775807 ∧ ∀ x ∈ l, Q33 x) :
    Calls Try.prog 9 #[.slice A l.length c] w fun e w' => e = .returned (.bool true) ∧ Below w.heap.size w w' := by
  obtain ⟨k, r, hf, hg⟩ := great_f l
  cases r with
  | true => exact ScriptJoin_great A c l w hr hc hf
  | false =>
  have hsm := small_of hq.2 (hg rfl)
  by_cases ho : l.all okA = true
  · by_cases h4 : l.length > 4096
    · exact ScriptJoin_long A c l w hr hc hf hsm ho [] rfl (by unfold encR; rw [if_pos ho, if_pos (.inl h4)]) h4
    · by_cases h6 : (encL l).length > 65536
      · exact ScriptJoin_over A c l w hr hc hf hsm ho [] rfl (by unfold encR; rw [if_pos ho, if_pos (.inr h6)]) (by omega) h6
      · exact ScriptJoin_fine A c l w hr hc hf hsm ho _ rfl (encR_yes ho (by omega) (by omega)) (by omega) (by omega)
  · have ho' : l.all okA = false := by simpa using ho
    exact ScriptJoin_bad A c l w hr hc hf hsm ho' [] rfl (by unfold encR; rw [if_neg ho])
end Go.Proofs.Ytapkoiaeghjpdaa.PScriptWrites
