/- Numbers that came (package acks): New, Merge, Missing, Whole. -/
import Derived.Test.YtbdimkpbkhcpfaaAck2
namespace Go.Proofs.Ytbdimkpbkhcpfaa.PAcksPlays
open Go.RowKit Go.Proofs.YtbdimkpbkhcpfaaW.PrintWords Go.Proofs.YtbdimkpbkhcpfaaW.PrintLast Go.Proofs.YtbdimkpbkhcpfaaW.PrintMore
open Go.Proofs.YtbdimkpbkhcpfaaO
attribute [local go_sem] max2_int min2_int max_two min_two max_three min_three max_four min_four
set_option linter.unusedVariables false
set_option linter.unusedSimpArgs false
section
variable {w0 w w' : World} {R : List Asn} {g : Nat} {L : List Int}
theorem AcksAdd (h : Own w0 w (Acks g L :: R)) (n : Int) (hn : (Lit.int .i64 n).wf = true) (hl : L.length < 100000000000) (b : Bool) (hb : freshB L n = b) : Calls Try.prog 18 #[.pointer (some ⟨g, 0, none⟩), .int .i64 n] w fun e w' => e = .returned (.bool b) ∧ Own w0 w' (Acks g (addL L n) :: R) := by
  subst hb
  cases hf : freshB L n with
  | true =>
    have e : addL L n = L ++ [n] := by unfold addL; rw [if_pos hf]
    rw [e]
    exact AcksAdd_yes h n hn hf hl
  | false =>
    have e : addL L n = L := by unfold addL; rw [if_neg (by rw [hf]; simp)]
    rw [e]
    exact AcksAdd_no h n hn hf
set_option maxHeartbeats 4000000 in
theorem AcksNew (h : Own w0 w R) : Calls Try.prog 10 #[] w fun e w' => ∃ g : Nat, e = .returned (.pointer (some ⟨g, 0, none⟩)) ∧ Own w0 w' (Acks g [] :: R) := by
  have h1 := h.alloc (.cells #[.int .i64 0, .map none] 49)
  have h2 : Own w0 (w.alloc (.cells #[.int .i64 0, .map none] 49)) (MapS (.map none) 0 [] :: Blk w.heap.size (.cells #[.int .i64 0, .map none] 49) :: R) :=
    h1.make (Below.refl _ _) ⟨fun _ => False, .inl ⟨rfl, rfl, fun _ => id⟩, fun k hk => hk.elim⟩
  have H := Aside0.mk (acks_shut (L := []) (low := 0) (M := []) ⟨Right.nil, ⟨fun i a b => absurd a (by omega), by simp⟩, List.Pairwise.nil, fun x => by simp⟩ h2.r1)
  clear h h1 h2
  go_enter Try.func10, Try.ntmps10
  go_wp2
  go_ret
  exact ⟨_, rfl, H.out⟩
set_option maxHeartbeats 4000000 in
theorem AcksLow_nil (w : World) : Calls Try.prog 13 #[.pointer none] w fun e w' => e = .returned (.int .i64 0) ∧ w = w' := by
  go_enter Try.func13, Try.ntmps13
  go_wp2
  go_ret
  exact ⟨rfl, rfl⟩
theorem AcksLowIs (h : Own w0 w (Acks g L :: R)) : ∃ low : Nat, LowIs L low ∧ Calls Try.prog 13 #[.pointer (some ⟨g, 0, none⟩)] w fun e w' => e = .returned (.int .i64 low) ∧ w = w' := by
  obtain ⟨low, M, v, h1, h2⟩ := acks_open h
  exact ⟨low, h1.2.1, (AcksLow h).mono fun e w' ⟨low', hl, he, hw⟩ => ⟨by rw [he, h1.2.1.uniq hl], hw⟩⟩
theorem acks_right (h : Own w0 w (Acks g L :: R)) : Right L := by
  obtain ⟨low, M, v, h1, h2⟩ := acks_open h
  exact h1.1
theorem acks_low (h : Own w0 w (Acks g L :: R)) : ∃ low : Nat, LowIs L low := by
  obtain ⟨low, M, v, h1, h2⟩ := acks_open h
  exact ⟨low, h1.2.1⟩
theorem low_le {low : Nat} (h : Right L) (h1 : LowIs L low) : low ≤ 2147483647 := by
  by_cases h0 : low = 0
  · omega
  · have := (h.2 _ (h1.1 (low : Int) (by omega) (by omega))).2
    omega
set_option maxHeartbeats 4000000 in
theorem AcksWhole (h : Own w0 w (Acks g L :: R)) (upto : Int) (low : Nat) (hl : LowIs L low) : Calls Try.prog 20 #[.pointer (some ⟨g, 0, none⟩), .int .i64 upto] w fun e w' => e = .returned (.bool (decide (upto < 1 ∨ upto ≤ low))) ∧ w = w' := by
  have H := Aside0.mk ((AcksLow h).mono fun e w' ⟨low', hl', he, hw⟩ => (⟨by rw [he, hl.uniq hl'], hw⟩ : e = Ending.returned (.int .i64 low) ∧ w = w'))
  clear h hl
  by_cases h1 : upto < 1
  · have d1 : decide (upto < 1) = true := decide_eq_true h1
    go_enter Try.func20, Try.ntmps20
    go_wp2
    go_ret
    exact ⟨by rw [decide_eq_true (Or.inl h1)]; rfl, rfl⟩
  · have d1 : decide (upto < 1) = false := decide_eq_false h1
    have HE := Lib.hid (show decide (upto < 1 ∨ upto ≤ low) = decide (upto ≤ low) from decide_eq_decide.2 ⟨fun q => q.elim (fun q => absurd q h1) id, .inr⟩)
    go_enter Try.func20, Try.ntmps20
    go_wp2_with (go_at_call 13; (refine H.out.mono ?_); rintro e w1 ⟨rfl, rfl⟩)
    go_ret
    exact ⟨by rw [HE.out]; rfl, rfl⟩
set_option maxHeartbeats 4000000 in
theorem AcksWhole_nil (upto : Int) (w : World) : Calls Try.prog 20 #[.pointer none, .int .i64 upto] w fun e w' => e = .returned (.bool (decide (upto < 1))) ∧ w = w' := by
  by_cases h1 : upto < 1
  · have d1 : decide (upto < 1) = true := decide_eq_true h1
    go_enter Try.func20, Try.ntmps20
    go_wp2
    go_ret
    exact ⟨by rw [d1]; rfl, rfl⟩
  · have d1 : decide (upto < 1) = false := decide_eq_false h1
    have d2 : decide (upto ≤ 0) = false := decide_eq_false (by omega)
    go_enter Try.func20, Try.ntmps20
    go_wp2_with (go_at_call 13; (refine (AcksLow_nil _).mono ?_); rintro e w1 ⟨rfl, rfl⟩)
    go_ret
    exact ⟨by first | (rw [d1]; rfl) | rfl, rfl⟩
/-- All numbers up to one are put. -/
def addUp (L : List Int) : Nat → List Int
  | 0 => L
  | k + 1 => addL (addUp L k) ((k + 1 : Nat) : Int)
theorem addL_mem_of {n : Int} (h : n ∈ L) : addL L n = L := by
  unfold addL freshB
  rw [if_neg]
  intro q
  exact (of_decide_eq_true q).2.2 h
theorem addUp_low {low : Nat} (h : LowIs L low) : ∀ k, k ≤ low → addUp L k = L
  | 0, _ => rfl
  | k + 1, hk => by
    have ih := addUp_low h k (by omega)
    show addL (addUp L k) _ = L
    rw [ih]
    exact addL_mem_of (h.1 _ (by omega) (by omega))
theorem addUp_len (L : List Int) : ∀ k, L.length ≤ (addUp L k).length ∧ (addUp L k).length ≤ L.length + k
  | 0 => ⟨Nat.le_refl _, Nat.le_refl _⟩
  | k + 1 => by
    have h1 := addUp_len L k
    have h2 := addL_len (addUp L k) ((k + 1 : Nat) : Int)
    show L.length ≤ (addL (addUp L k) _).length ∧ (addL (addUp L k) _).length ≤ _
    omega
theorem addAll_len : ∀ (l : List Int) (L : List Int), L.length ≤ (l.foldl addL L).length ∧ (l.foldl addL L).length ≤ L.length + l.length
  | [], L => ⟨Nat.le_refl _, Nat.le_refl _⟩
  | x :: l, L => by
    have h1 := addAll_len l (addL L x)
    have h2 := addL_len L x
    rw [List.foldl_cons, List.length_cons]
    omega
theorem addL_count (L : List Int) (n : Int) : (addL L n).length = L.length + if freshB L n = true then 1 else 0 := by
  unfold addL
  split <;> simp
/-- What Merge makes of it. -/
def mergeL (L : List Int) (hi : Int) (set : List Int) : List Int := set.foldl addL (addUp L (if 1048576 < hi then 1048576 else hi).toNat)
theorem take_fold (l : List Int) (L : List Int) (k : Nat) (h : k < l.length) : (l.take (k + 1)).foldl addL L = addL ((l.take k).foldl addL L) l[k] := by
  rw [List.take_succ_eq_append_getElem h, List.foldl_append]
  rfl
set_option maxHeartbeats 8000000 in
set_option maxRecDepth 100000 in
theorem AcksMerge (h : Own w0 w (Acks g L :: R)) (hi : Int) (A : Option Addr) (c : Nat) (l : List Int) (hc : l.length ≤ c) (hset : ∀ (L' : List Int) (w' : World), Own w0 w' (Acks g L' :: R) → Kd.C (Kd.int .i64) w' A l.length l) (hw : ∀ x ∈ l, (Lit.int .i64 x).wf = true) (hl : L.length + l.length ≤ 1000000000) :
    Calls Try.prog 15 #[.pointer (some ⟨g, 0, none⟩), .int .i64 hi, .slice A l.length c] w fun e w' => e = .returned (.int .i64 (((mergeL L hi l).length : Int) - (L.length : Int))) ∧ Own w0 w' (Acks g (mergeL L hi l) :: R) := by
  obtain ⟨low, hlow⟩ := acks_low h
  have hlw := low_le (acks_right h) hlow
  obtain ⟨low', M, v, h1, h2⟩ := acks_open h
  obtain rfl := hlow.uniq h1.2.1
  have y0 : w.cell? ⟨g, 0, none⟩ = some (.int .i64 low) := (blk_cell h2.at0 0).trans rfl
  obtain ⟨m, hm⟩ : ∃ m : Int, m = if 1048576 < hi then 1048576 else hi := ⟨_, rfl⟩
  have hm6 : m ≤ 1048576 := by rw [hm]; split <;> omega
  have HML := Lib.hid (show mergeL L hi l = l.foldl addL (addUp L m.toNat) by rw [hm]; rfl)
  have hmin : (if 1048576 < hi then (1048576 : Int) else hi) = m := hm.symm
  have HS := Aside0.mk hset
  have HWF := Aside0.mk hw
  have HLOW := Aside0.mk hlow
  have H := Aside0.mk h
  clear h h1 h2 hm hset hw hlow
  go_enter Try.func15, Try.ntmps15
  go_wp2
  clear y0
  go_loopw [7, 8] (fun v7 v8 wr => ∃ k : Nat, low ≤ k ∧ (low = k ∨ (k : Int) ≤ m) ∧ v8 = .int .i64 ((k : Int) + 1) ∧ v7 = .int .i64 (((addUp L k).length : Int) - (L.length : Int)) ∧ Aside0 (Own w0 wr (Acks g (addUp L k) :: R))) (fun _ v8 _ => 3000000000 - (RowKit.intOf v8).toNat)
  case atStart => exact ⟨low, Nat.le_refl _, .inl rfl, rfl, by rw [addUp_low HLOW.out low (Nat.le_refl _)]; simp, ⟨by rw [addUp_low HLOW.out low (Nat.le_refl _)]; exact H.out⟩⟩
  case round =>
    obtain ⟨k, hk1, hk2, rfl, rfl, HO⟩ := hrel
    have hln := addUp_len L k
    by_cases hle : (k : Int) + 1 ≤ m
    · have d1 : decide ((k : Int) + 1 ≤ m) = true := decide_eq_true hle
      have hct := addL_count (addUp L k) ((k : Int) + 1)
      have hk3 : (k : Int) ≤ 1048576 := by omega
      clear hk2
      cases hf : freshB (addUp L k) ((k : Int) + 1) with
      | true =>
        have HF := Aside0.mk hf
        rw [if_pos hf] at hct
        have HCT := Lib.hid hct
        clear hct hf
        go_wp2_with (go_at_call 18; (refine (AcksAdd HO.out ((k : Int) + 1) (wf64 _ (by omega) (by omega)) (by omega) true HF.out).mono ?_); rintro e w1 ⟨rfl, h⟩; have H1 := Aside0.mk h; clear h)
        go_roundw
        case rel => exact ⟨k + 1, by omega, .inr (by omega), by first | rfl | go_num, by show Value.int .i64 _ = Value.int .i64 (((addL (addUp L k) ((k : Int) + 1)).length : Int) - _); rw [HCT.out]; go_num, H1⟩
        case measure => simp [RowKit.intOf]; omega
      | false =>
        have HF := Aside0.mk hf
        rw [if_neg (by simp [hf])] at hct
        have HCT := Lib.hid hct
        clear hct hf
        go_wp2_with (go_at_call 18; (refine (AcksAdd HO.out ((k : Int) + 1) (wf64 _ (by omega) (by omega)) (by omega) false HF.out).mono ?_); rintro e w1 ⟨rfl, h⟩; have H1 := Aside0.mk h; clear h)
        go_roundw
        case rel => exact ⟨k + 1, by omega, .inr (by omega), by first | rfl | go_num, by show Value.int .i64 _ = Value.int .i64 (((addL (addUp L k) ((k : Int) + 1)).length : Int) - _); rw [HCT.out]; rfl, H1⟩
        case measure => simp [RowKit.intOf]; omega
    · have d1 : decide ((k : Int) + 1 ≤ m) = false := decide_eq_false hle
      have hup : addUp L k = addUp L m.toNat := by
        rcases hk2 with rfl | hk2
        · rw [addUp_low HLOW.out _ (Nat.le_refl _), addUp_low HLOW.out _ (by omega)]
        · congr 1
          omega
      rw [hup] at HO
      have hup2 := congrArg List.length hup
      have HU := Lib.hid hup2
      have hlm := addUp_len L m.toNat
      obtain ⟨L1, hL1⟩ : ∃ L1, L1 = addUp L m.toNat := ⟨_, rfl⟩
      rw [← hL1] at HO HU hlm
      have HL1 := Lib.hid hL1
      clear hk2 hup hup2 hL1
      obtain ⟨nn, hnn⟩ : ∃ nn : Int, nn = ((addUp L k).length : Int) - (L.length : Int) := ⟨_, rfl⟩
      rw [← hnn]
      have HNN := Lib.hid (show nn = (L1.length : Int) - (L.length : Int) by rw [hnn, HU.out])
      clear hnn
      go_wp2
      go_loopw [7, 31] (fun v7 v31 wr => ∃ j : Nat, j ≤ l.length ∧ v31 = .int .i64 j ∧ v7 = .int .i64 ((((l.take j).foldl addL L1).length : Int) - (L.length : Int)) ∧ Aside0 (Own w0 wr (Acks g ((l.take j).foldl addL L1) :: R))) (fun _ v31 _ => l.length - (RowKit.intOf v31).toNat)
      case atStart => exact ⟨0, Nat.zero_le _, rfl, by rw [HNN.out]; rfl, HO⟩
      case round =>
        obtain ⟨j, hj, rfl, rfl, HQ⟩ := hrel
        have hlj := addAll_len (l.take j) L1
        rw [List.length_take] at hlj
        by_cases hlt : j < l.length
        · have htf := take_fold l L1 j hlt
          have hxw := HWF.out _ (List.getElem_mem hlt)
          have hx2 : l[j]? = some l[j] := List.getElem?_eq_getElem hlt
          obtain ⟨x, hx⟩ : ∃ x, x = l[j] := ⟨_, rfl⟩
          rw [← hx] at htf hxw hx2
          obtain ⟨ad, rfl, hca⟩ : ∃ ad, A = some ad ∧ wr.cell? (ad.add j) = some (.int .i64 x) := by
            have hC := HS.out _ _ HQ.out
            obtain ⟨ad, c9, e, hK, h7, hc9⟩ := Kd.C_get hC 0 (j : Int) (by omega) (by omega)
            refine ⟨ad, e, ?_⟩
            have hrd : c9 = [.int .i64 (l.getD ((j : Int)).toNat 0)] := h7
            subst hrd
            have := hc9 0 _ rfl
            rw [Int.toNat_natCast, List.getD_eq_getElem?_getD, hx2] at this
            have e2 : j * (Kd.int .i64).sz + 0 = j := by show j * 1 + 0 = j; omega
            rw [e2] at this
            exact this
          have hct := addL_count ((l.take j).foldl addL L1) x
          have HTF := Lib.hid htf
          obtain ⟨Lj, hLj⟩ : ∃ Lj, Lj = (l.take j).foldl addL L1 := ⟨_, rfl⟩
          rw [← hLj] at hlj hct HQ HTF ⊢
          clear htf hx hx2 hLj
          cases hf : freshB Lj x with
          | true =>
            have HF := Aside0.mk hf
            rw [if_pos hf] at hct
            have HCT := Lib.hid hct
            clear hct hf
            go_wp2_with (go_at_call 18; (refine (AcksAdd HQ.out x hxw (by omega) true HF.out).mono ?_); rintro e w1 ⟨rfl, h⟩; have H1 := Aside0.mk h; clear h)
            go_roundw
            case rel => exact ⟨j + 1, by omega, by go_num, by rw [HTF.out, HCT.out]; go_num, by rw [HTF.out]; exact H1⟩
            case measure => simp [RowKit.intOf]; omega
          | false =>
            have HF := Aside0.mk hf
            rw [if_neg (by simp [hf])] at hct
            have HCT := Lib.hid hct
            clear hct hf
            go_wp2_with (go_at_call 18; (refine (AcksAdd HQ.out x hxw (by omega) false HF.out).mono ?_); rintro e w1 ⟨rfl, h⟩; have H1 := Aside0.mk h; clear h)
            go_roundw
            case rel => exact ⟨j + 1, by omega, by go_num, by rw [HTF.out, HCT.out]; rfl, by rw [HTF.out]; exact H1⟩
            case measure => simp [RowKit.intOf]; omega
        · have hj' : j = l.length := by omega
          subst hj'
          have HT : Aside0 (Own w0 wr (Acks g (mergeL L hi l) :: R)) := ⟨by rw [HML.out, ← HL1.out]; have := HQ.out; rwa [List.take_length] at this⟩
          have HV := Lib.hid (show (((l.take l.length).foldl addL L1).length : Int) - (L.length : Int) = ((mergeL L hi l).length : Int) - (L.length : Int) by rw [HML.out, ← HL1.out, List.take_length])
          go_wp2
          go_ret
          exact ⟨by rw [← HV.out]; rfl, HT.out⟩
end
end Go.Proofs.Ytbdimkpbkhcpfaa.PAcksPlays
