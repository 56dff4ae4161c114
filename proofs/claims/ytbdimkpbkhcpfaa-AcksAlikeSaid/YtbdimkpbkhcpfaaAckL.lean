/- The laws' helpers over numbers that came: what acts make, what the guards let in. -/
import Derived.Test.YtbdimkpbkhcpfaaAck5
import Derived.Test.YtbdimkpbkhcpfaaQ
namespace Go.Proofs.Ytbdimkpbkhcpfaa.PAcksPlays
open Go.RowKit Go.Proofs.YtbdimkpbkhcpfaaW.PrintWords Go.Proofs.YtbdimkpbkhcpfaaW.PrintLast Go.Proofs.YtbdimkpbkhcpfaaW.PrintMore
open Go.Proofs.YtbdimkpbkhcpfaaO
attribute [local go_sem] max2_int min2_int max_two min_two max_three min_three max_four min_four
set_option linter.unusedVariables false
set_option linter.unusedSimpArgs false
theorem AcksLowE {w0 w : World} {R : List Asn} {g : Nat} {L : List Int} (h : Own w0 w (Acks g L :: R)) (low : Nat) (hl : LowIs L low) : Calls Try.prog 13 #[.pointer (some ⟨g, 0, none⟩)] w fun e w' => e = .returned (.int .i64 low) ∧ w = w' :=
  (AcksLow h).mono fun e w' ⟨low', hl', he, hw⟩ => ⟨by rw [he, hl.uniq hl'], hw⟩
theorem AcksSetE {w0 w : World} {R : List Asn} {g : Nat} {L : List Int} (h : Own w0 w (Acks g L :: R)) (hL : L.length ≤ 1000000000) (low : Nat) (M : List Int) (hl : LowIs L low) (hM : SetIs L low M) : Calls Try.prog 12 #[.pointer (some ⟨g, 0, none⟩)] w fun e w' => ∃ A c, e = .returned (.slice A M.length c) ∧ M.length ≤ c ∧ Own w0 w' (Row (Kd.int .i64) 3 (.slice A M.length c) M :: Acks g L :: R) := by
  obtain ⟨low', M', h1, h2, hc⟩ := AcksSet h hL
  obtain rfl := hl.uniq h1
  obtain rfl := hM.uniq h2
  refine hc.mono fun e w' ⟨v, he, ho⟩ => ?_
  obtain ⟨A, c, rfl, hlc, _⟩ := ho.row_reads
  exact ⟨A, c, he, hlc, ho⟩
theorem low0 : LowIs [] 0 := ⟨fun i a b => absurd a (by omega), by simp⟩
theorem set0 : SetIs [] 0 [] := ⟨List.Pairwise.nil, fun x => by simp⟩
set_option maxHeartbeats 4000000 in
set_option maxRecDepth 100000 in
theorem awake_calls (w : World) : Calls Try.prog 8 #[] w fun e w' => e = .returned (.bool true) ∧ Below w.heap.size w w' := by
  have H0 := Aside0.mk (Own.nil w)
  have f1 : freshB [] 2 = true := by decide
  have f2 : freshB [2] 1 = true := by decide
  have f3 : freshB [2, 1] 2 = false := by decide
  have F1 := Lib.hid f1
  have F2 := Lib.hid f2
  have F3 := Lib.hid f3
  have e1 := Lib.hid (show addL [] 2 = [2] by unfold addL; rw [if_pos f1]; rfl)
  have e2 := Lib.hid (show addL [2] 1 = [2, 1] by unfold addL; rw [if_pos f2]; rfl)
  have l1 := Aside0.mk (show LowIs [2] 0 from ⟨fun i a b => absurd a (by omega), by simp⟩)
  have l2 := Aside0.mk (show LowIs [2, 1] 2 from ⟨fun i a b => by have : i = 1 ∨ i = 2 := by omega
                                                                  rcases this with rfl | rfl <;> simp, by simp⟩)
  have s2 := Aside0.mk (show SetIs [2, 1] 2 [] from ⟨List.Pairwise.nil, fun x => by simp; omega⟩)
  clear f1 f2 f3
  go_enter Try.func8, Try.ntmps8
  go_wp2_with (first
    | (go_at_call 10; ((with_reducible refine (AcksNew H0.out).mono ?_)); rintro e w1 ⟨g, rfl, h⟩; have H1 := Aside0.mk h; clear h)
    | (go_at_call 18; ((with_reducible refine (AcksAdd H1.out 2 (by decide) (by simp) true F1.out).mono ?_)); rintro e w2 ⟨rfl, h⟩; rw [e1.out] at h; have H2 := Aside0.mk h; clear h)
    | (go_at_call 13; ((with_reducible refine (AcksLowE H2.out 0 l1.out).mono ?_)); rintro e w3 ⟨rfl, rfl⟩)
    | (go_at_call 18; ((with_reducible refine (AcksAdd H2.out 1 (by decide) (by simp) true F2.out).mono ?_)); rintro e w4 ⟨rfl, h⟩; rw [e2.out] at h; have H3 := Aside0.mk h; clear h)
    | (go_at_call 13; ((with_reducible refine (AcksLowE H3.out 2 l2.out).mono ?_)); rintro e w5 ⟨rfl, rfl⟩)
    | (go_at_call 12; ((with_reducible refine (AcksSetE H3.out (by simp) 2 [] l2.out s2.out).mono ?_)); rintro e w6 ⟨A, c, rfl, _, h⟩; have H4 := Aside0.mk h; clear h)
    | (go_at_call 18; ((with_reducible refine (AcksAdd H4.out.tail 2 (by decide) (by simp) false F3.out).mono ?_)); rintro e w7 ⟨rfl, h⟩; have H5 := Aside0.mk h; clear h))
  go_ret
  exact ⟨rfl, H5.out.bel⟩
/-- What an act makes. -/
def tellL (L : List Int) (x : S30) : List Int := if x.f0 = 0 then addL L x.f1 else if x.f0 = 1 then mergeL L x.f1 x.f2 else L
/-- What is let in of an act. -/
def ActOk (x : S30) : Prop := x.f2.length ≤ 20 ∧ (x.f0 = 1 → x.f1 ≤ 200) ∧ (Lit.int .i64 x.f1).wf = true ∧ ∀ y ∈ x.f2, (Lit.int .i64 y).wf = true
theorem mergeL_len (L : List Int) (hi : Int) (l : List Int) (h : hi ≤ 200) : L.length ≤ (mergeL L hi l).length ∧ (mergeL L hi l).length ≤ L.length + 200 + l.length := by
  unfold mergeL
  rw [if_neg (by omega)]
  have h1 := addUp_len L hi.toNat
  have h2 := addAll_len l (addUp L hi.toNat)
  omega
theorem tellL_len (L : List Int) (x : S30) (h : ActOk x) : L.length ≤ (tellL L x).length ∧ (tellL L x).length ≤ L.length + 220 := by
  unfold tellL
  split
  · have := addL_len L x.f1
    omega
  split
  · rename_i h1
    have := mergeL_len L x.f1 x.f2 (h.2.1 h1)
    have := h.1
    omega
  · omega
def afterL (l : List S30) : List Int := l.foldl tellL []
theorem afterL_snoc (l : List S30) (k : Nat) (h : k < l.length) : afterL (l.take (k + 1)) = tellL (afterL (l.take k)) l[k] := by
  unfold afterL
  rw [List.take_succ_eq_append_getElem h, List.foldl_append]
  rfl
theorem foldl_len (l : List S30) (h : ∀ x ∈ l, ActOk x) : ∀ L : List Int, (l.foldl tellL L).length ≤ L.length + 220 * l.length := by
  induction l with
  | nil => intro L; exact Nat.le_add_right _ _
  | cons x l ih =>
    intro L
    rw [List.foldl_cons, List.length_cons]
    have := ih (fun y hy => h y (List.mem_cons_of_mem _ hy)) (tellL L x)
    have := (tellL_len L x (h x (List.mem_cons_self ..))).2
    omega
set_option maxHeartbeats 4000000 in
set_option maxRecDepth 100000 in
theorem tell_calls {w0 w : World} {R : List Asn} {g : Nat} {L : List Int} (h : Own w0 w (Acks g L :: R)) (f0 f1 : Int) (A : Option Addr) (c : Nat) (f2 : List Int) (hx : ActOk ⟨f0, f1, f2⟩) (hc : f2.length ≤ c) (hC : Kd.C (Kd.int .i64) w0 A f2.length f2) (hL : L.length ≤ 100000000) :
    Calls Try.prog 11 #[.pointer (some ⟨g, 0, none⟩), .agg #[.int .i64 f0, .int .i64 f1, .slice A f2.length c]] w fun e w' => e = .returned (.tuple #[]) ∧ Own w0 w' (Acks g (tellL L ⟨f0, f1, f2⟩) :: R) := by
  obtain ⟨x1, x2, x3, x4⟩ := hx
  simp only at x1 x2 x3 x4
  by_cases k0 : f0 = 0
  · subst k0
    have H0 := Aside0.mk (h.junk (.cells #[.int .i64 0, .int .i64 f1, .slice A f2.length c] 30 (0, 0)))
    obtain ⟨b, hb⟩ : ∃ b, freshB L f1 = b := ⟨_, rfl⟩
    have HB := Lib.hid hb
    clear h x1 x2 hb
    go_enter Try.func11, Try.ntmps11
    go_wp2_with (go_at_call 18; ((with_reducible refine (AcksAdd H0.out f1 x3 (by omega) b HB.out).mono ?_)); rintro e w1 ⟨rfl, h⟩; have H1 := Aside0.mk h; clear h)
    exact Go.Great.bodyPost_end0 (by kernel_rfl) rfl ⟨rfl, H1.out⟩
  by_cases k1 : f0 = 1
  · subst k1
    have H0 := Aside0.mk (h.junk (.cells #[.int .i64 1, .int .i64 f1, .slice A f2.length c] 30 (0, 0)))
    have HX4 := Aside0.mk x4
    have HC := Aside0.mk hC
    clear h x2 x4 hC
    go_enter Try.func11, Try.ntmps11
    go_wp2_with (go_at_call 15; ((with_reducible refine (AcksMerge H0.out f1 A c f2 hc (fun L' w' h => Kd.C_below HC.out h.bel) HX4.out (by omega)).mono ?_)); rintro e w1 ⟨rfl, h⟩; have H1 := Aside0.mk h; clear h)
    exact Go.Great.bodyPost_end0 (by kernel_rfl) rfl ⟨rfl, H1.out⟩
  have P := Aside0.mk (show tellL L ⟨f0, f1, f2⟩ = L by unfold tellL; rw [if_neg k0, if_neg k1])
  have H0 := Aside0.mk (h.junk (.cells #[.int .i64 f0, .int .i64 f1, .slice A f2.length c] 30 (0, 0)))
  clear h x2 x4 hC
  have e0 : (f0 == 0) = false := beq_eq_false_iff_ne.mpr k0
  have e1 : (f0 == 1) = false := beq_eq_false_iff_ne.mpr k1
  go_enter Try.func11, Try.ntmps11
  go_wp2
  exact Go.Great.bodyPost_end0 (by kernel_rfl) rfl ⟨rfl, by rw [P.out]; exact H0.out⟩
theorem great_go (l : List S30) : ∀ (d k : Nat), k + d = min l.length 61 → (∀ j, j < k → (h : j < l.length) → l[j].f2.length ≤ 20 ∧ (l[j].f0 = 1 → l[j].f1 ≤ 200)) → ∃ r, meterlaw12_Great.l0 (2 * d + 2) l k = some r ∧ (r = false → l.length ≤ 60 ∧ ∀ x ∈ l, x.f2.length ≤ 20 ∧ (x.f0 = 1 → x.f1 ≤ 200))
  | 0, k, h, hp => by
    by_cases h6 : 60 < l.length
    · have : k = 61 ∧ (k < l.length ∨ k = l.length) := by omega
      refine ⟨true, ?_, fun h => by cases h⟩
      simp only [meterlaw12_Great.l0]
      by_cases hk : k < l.length
      · rw [if_pos (show ((k : Nat) : Int) < (l.length : Int) by omega), show decide (((k : Nat) : Int) ≤ 60) = false from decide_eq_false (by omega)]
        simp only [meterlaw12_Great.j1]
        rw [if_neg (by simp)]
        congr 1
        exact decide_eq_true (by omega)
      · rw [if_neg (show ¬ ((k : Nat) : Int) < (l.length : Int) by omega)]
        simp only [meterlaw12_Great.j1]
        rw [if_neg (by simp)]
        congr 1
        exact decide_eq_true (by omega)
    · refine ⟨false, ?_, fun _ => ⟨by omega, fun x hx => ?_⟩⟩
      · simp only [meterlaw12_Great.l0]
        rw [if_neg (show ¬ ((k : Nat) : Int) < (l.length : Int) by omega)]
        simp only [meterlaw12_Great.j1]
        rw [if_neg (by simp)]
        congr 1
        exact decide_eq_false (by omega)
      · obtain ⟨j, hj⟩ := List.getElem?_of_mem hx
        obtain ⟨hjl, rfl⟩ := List.getElem?_eq_some_iff.1 hj
        exact hp j (by omega) hjl
  | d + 1, k, h, hp => by
    have hk : k < l.length := by omega
    have hrd : rd_T30 l (k : Int) = l[k] := by unfold rd_T30; rw [Int.toNat_natCast, List.getD_eq_getElem?_getD, List.getElem?_eq_getElem hk]; rfl
    have hw : wrap64 ((k : Int) + 1) = ((k + 1 : Nat) : Int) := by unfold wrap64; omega
    rw [show 2 * (d + 1) + 2 = (2 * d + 2) + 1 + 1 by omega]
    simp only [meterlaw12_Great.l0]
    rw [if_pos (show ((k : Nat) : Int) < (l.length : Int) by omega), show decide (((k : Nat) : Int) ≤ 60) = true from decide_eq_true (by omega)]
    simp only [meterlaw12_Great.j1]
    rw [if_pos trivial, if_pos (show 0 ≤ ((k : Nat) : Int) by omega), if_pos (show ((k : Nat) : Int) < (l.length : Int) by omega), hrd, hw]
    by_cases h2 : (l[k].f2.length : Int) > 20
    · rw [if_pos h2]
      exact ⟨true, rfl, fun h => by cases h⟩
    rw [if_neg h2]
    by_cases h0 : l[k].f0 = 1
    · rw [if_pos h0]
      by_cases h3 : l[k].f1 > 200
      · rw [if_pos h3]
        exact ⟨true, rfl, fun h => by cases h⟩
      · rw [if_neg h3]
        refine great_go l d (k + 1) (by omega) fun j hj hjl => ?_
        by_cases hjk : j = k
        · subst hjk
          exact ⟨by omega, fun _ => by omega⟩
        · exact hp j (by omega) hjl
    · rw [if_neg h0]
      refine great_go l d (k + 1) (by omega) fun j hj hjl => ?_
      by_cases hjk : j = k
      · subst hjk
        exact ⟨by omega, fun q => absurd q h0⟩
      · exact hp j (by omega) hjl
theorem great_f (l : List S30) : ∃ r, meterlaw12_Great.f (2 * min l.length 61 + 2) l = some r ∧ (r = false → l.length ≤ 60 ∧ ∀ x ∈ l, x.f2.length ≤ 20 ∧ (x.f0 = 1 → x.f1 ≤ 200)) :=
  great_go l (min l.length 61) 0 (by omega) fun j hj => by omega
theorem ok_of_Q (x : S30) (h : Q30 x) (h2 : x.f2.length ≤ 20 ∧ (x.f0 = 1 → x.f1 ≤ 200)) : ActOk x := ⟨h2.1, h2.2, h.2.1, h.2.2.2⟩
/-- An element, in whatever world that has come of the first one. -/
theorem elem_at {w v : World} {ad : Addr} {n : Nat} {l : List S30} (hr : Kd.C k30 w (some ad) n l) (hb : Below w.heap.size w v) (k : Nat) (hk : k < n) (f0 f1 : Int) (f2 : List Int) (hx : l[k]? = some ⟨f0, f1, f2⟩) :
    ∃ A2 c2, v.cell? (ad.add (k * 3)) = some (.int .i64 f0) ∧ v.cell? ⟨(ad.add (k * 3)).block, (ad.add (k * 3)).off + 1, none⟩ = some (.int .i64 f1) ∧ v.cell? ⟨(ad.add (k * 3)).block, (ad.add (k * 3)).off + 2, none⟩ = some (.slice A2 f2.length c2) ∧ f2.length ≤ c2 ∧ Kd.C (Kd.int .i64) w A2 f2.length f2 := by
  obtain ⟨ad', A2, c2, e, h0, h1, h2, h3, h4⟩ := at_T30 hr (k : Int) (by omega) (by omega)
  cases e
  have hrd : rd_T30 l (k : Int) = ⟨f0, f1, f2⟩ := by unfold rd_T30; rw [Int.toNat_natCast, List.getD_eq_getElem?_getD, hx]; rfl
  rw [hrd, Int.toNat_natCast] at h0 h1 h2
  rw [hrd] at h3 h4
  have hlt : (ad.add (k * 3)).block < w.heap.size := World.block_lt_of_cell? w _ h0
  exact ⟨A2, c2, (hb.cell hlt).trans h0, (hb.cell (p := ⟨_, _, none⟩) hlt).trans h1, (hb.cell (p := ⟨_, _, none⟩) hlt).trans h2, h3, h4⟩
set_option maxHeartbeats 4000000 in
set_option maxRecDepth 100000 in
theorem after_calls {w0 w : World} {R : List Asn} (h : Own w0 w R) (A : Option Addr) (c : Nat) (l : List S30) (hr : Kd.C k30 w0 A l.length l) (hc : l.length ≤ c) (hx : ∀ x ∈ l, ActOk x) (hl : l.length ≤ 60) :
    Calls Try.prog 17 #[.slice A l.length c] w fun e w' => ∃ g : Nat, e = .returned (.pointer (some ⟨g, 0, none⟩)) ∧ Own w0 w' (Acks g (afterL l) :: R) := by
  have HR := Aside0.mk hr
  have HX := Aside0.mk hx
  have H := Aside0.mk h
  have HLN := Aside0.mk (fun k : Nat => show (afterL (l.take k)).length ≤ 100000000 by
    have := foldl_len (l.take k) (fun x h => hx x (List.mem_of_mem_take h)) []
    rw [List.length_take] at this
    unfold afterL
    simp only [List.length_nil] at this
    omega)
  clear hr hx h
  go_enter Try.func17, Try.ntmps17
  go_wp2_with (go_at_call 10; ((with_reducible refine (AcksNew H.out).mono ?_)); rintro e w1 ⟨g, rfl, h⟩; have H1 := Aside0.mk h; clear h)
  go_loopw [4] (fun v4 wr => ∃ k : Nat, k ≤ l.length ∧ v4 = .int .i64 k ∧ Aside0 (Own w0 wr (Acks g (afterL (l.take k)) :: R))) (fun v4 _ => l.length - (RowKit.intOf v4).toNat)
  case atStart => exact ⟨0, Nat.zero_le _, rfl, H1⟩
  case round =>
    obtain ⟨k, hk, rfl, HO⟩ := hrel
    by_cases hlt : k < l.length
    · have hxk := HX.out _ (List.getElem_mem hlt)
      have hsn := Lib.hid (afterL_snoc l k hlt)
      have hgk := List.getElem?_eq_getElem hlt
      generalize l[k] = x at hxk hsn hgk
      obtain ⟨f0, f1, f2⟩ := x
      rcases A with _ | ad
      · exact absurd (HR.out.2.2 (by omega)) (by rintro ⟨_, h, _⟩; cases h)
      have HXK := Aside0.mk hxk
      obtain ⟨A2, c2, a0, a1, a2, a3, a4⟩ := elem_at HR.out HO.out.bel k hlt f0 f1 f2 hgk
      have HC2 := Aside0.mk a4
      clear hgk hxk a4
      go_wp2_with (go_at_call 11; ((with_reducible refine (tell_calls HO.out f0 f1 A2 c2 f2 HXK.out a3 HC2.out (HLN.out k)).mono ?_)); rintro e w2 ⟨rfl, h⟩; have H2 := Aside0.mk h; clear h)
      go_roundw
      case rel => exact ⟨k + 1, by omega, by go_num, by rw [hsn.out]; exact H2⟩
      case measure => simp [RowKit.intOf]; omega
    · have hk' : k = l.length := by omega
      subst hk'
      rw [List.take_length] at HO
      go_wp2
      go_ret
      exact ⟨g, rfl, HO.out⟩
end Go.Proofs.Ytbdimkpbkhcpfaa.PAcksPlays
