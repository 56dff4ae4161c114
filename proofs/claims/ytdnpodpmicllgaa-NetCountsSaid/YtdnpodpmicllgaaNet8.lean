/- Packets on their way (package net): a net behind acts. -/
import Derived.Test.YtdnpodpmicllgaaNet7
import Derived.Test.YtdnpodpmicllgaaQ
import Derived.Great.Walk
namespace Go.Proofs.Ytdnpodpmicllgaa.PNetPlays
open Go.RowKit Go.Proofs.YtdnpodpmicllgaaW.PrintWords Go.Proofs.YtdnpodpmicllgaaW.PrintLast Go.Proofs.YtdnpodpmicllgaaW.PrintMore
open Go.Proofs.YtdnpodpmicllgaaO Go.Proofs.YtdnpodpmicllgaaC
attribute [local go_sem] max2_int min2_int max_two min_two max_three min_three max_four min_four
set_option linter.unusedVariables false
set_option linter.unusedSimpArgs false
theorem act_at {w v : World} {A : Option Addr} {l : List ACT} (hr : Kd.C k40 w A l.length l) (hb : Below w.heap.size w v) (k : Nat) (x : ACT) (hx : l[k]? = some x) : ∃ ad, A = some ad ∧ v.cell? (ad.add (k * 6)) = some (.int .i64 x.f0) ∧ v.cell? ⟨(ad.add (k * 6)).block, (ad.add (k * 6)).off + 1, none⟩ = some (.int .i64 x.f1.f0) ∧ v.cell? ⟨(ad.add (k * 6)).block, (ad.add (k * 6)).off + 2, none⟩ = some (.int .i64 x.f1.f1) ∧ v.cell? ⟨(ad.add (k * 6)).block, (ad.add (k * 6)).off + 3, none⟩ = some (.string x.f1.f2) ∧ v.cell? ⟨(ad.add (k * 6)).block, (ad.add (k * 6)).off + 4, none⟩ = some (.int .i64 x.f2) ∧ v.cell? ⟨(ad.add (k * 6)).block, (ad.add (k * 6)).off + 5, none⟩ = some (.int .u8 x.f3) := by
  have hk := (List.getElem?_eq_some_iff.1 hx).1
  have hrd : rd_T40 l (k : Int) = x := by unfold rd_T40; rw [Int.toNat_natCast, List.getD_eq_getElem?_getD, hx]; rfl
  obtain ⟨ad, e, h0, h1, h2, h3, h4, h5⟩ := at_T40 hr (k : Int) (by omega) (by omega)
  rw [hrd, Int.toNat_natCast] at h0 h1 h2 h3 h4 h5
  have hlt : (ad.add (k * 6)).block < w.heap.size := World.block_lt_of_cell? w _ h0
  exact ⟨ad, e, (hb.cell hlt).trans h0, (hb.cell (p := ⟨_, _, none⟩) hlt).trans h1, (hb.cell (p := ⟨_, _, none⟩) hlt).trans h2, (hb.cell (p := ⟨_, _, none⟩) hlt).trans h3, (hb.cell (p := ⟨_, _, none⟩) hlt).trans h4, (hb.cell (p := ⟨_, _, none⟩) hlt).trans h5⟩
/-- How often a packet is posted. -/
def timesT (t : Int) : Nat := if (t % 80).toNat = 0 then 1 else (t % 80).toNat
def postN (way : List Pk) (p : Pk) : Nat → List Pk
  | 0 => way
  | k + 1 => (postR (postN way p k) p).1
def doR (way : List Pk) (y : ACT) : List Pk := if y.f0 = 0 then postN way y.f1 (timesT y.f3) else if y.f0 = 1 then (takeR way y.f2).1 else if y.f0 = 2 then (takeR way y.f2).1 else if y.f0 = 3 then (dupR way y.f2).1 else way
theorem postR_len (way : List Pk) (p : Pk) : (postR way p).1.length ≤ way.length + 1 := by
  unfold postR
  split
  · exact (putR_len way p).2
  · exact Nat.le_succ _
theorem postN_len (way : List Pk) (p : Pk) : ∀ k, (postN way p k).length ≤ way.length + k
  | 0 => Nat.le_refl _
  | k + 1 => by
    have h1 := postN_len way p k
    have h2 := postR_len (postN way p k) p
    show (postR (postN way p k) p).1.length ≤ _
    omega
theorem takeR_len (way : List Pk) (i : Int) : (takeR way i).1.length ≤ way.length := by
  by_cases hi : 0 ≤ i ∧ i < way.length
  · obtain ⟨k, rfl⟩ := Int.eq_ofNat_of_zero_le hi.1
    rw [takeR_yes (List.getElem?_eq_getElem (show k < way.length by omega))]
    exact List.length_eraseIdx_le ..
  · rw [takeR_no hi]
    exact Nat.le_refl _
theorem dupR_len (way : List Pk) (i : Int) : (dupR way i).1.length ≤ way.length + 1 := by
  unfold dupR
  split
  · split
    · exact (putR_len way _).2
    · exact Nat.le_succ _
  · exact Nat.le_succ _
theorem times_le (t : Int) : 1 ≤ timesT t ∧ timesT t ≤ 80 := by
  unfold timesT
  split <;> omega
theorem doR_len (way : List Pk) (y : ACT) : (doR way y).length ≤ way.length + 80 := by
  have h1 := postN_len way y.f1 (timesT y.f3)
  have h2 := (times_le y.f3).2
  have h3 := takeR_len way y.f2
  have h4 := dupR_len way y.f2
  unfold doR
  split
  · omega
  · split
    · omega
    · split
      · omega
      · split <;> omega
theorem fold_len (l : List ACT) : ∀ way : List Pk, (l.foldl doR way).length ≤ way.length + 80 * l.length := by
  induction l with
  | nil => intro way; exact Nat.le_refl _
  | cons x l ih =>
    intro way
    have h1 := ih (doR way x)
    have h2 := doR_len way x
    rw [List.foldl_cons, List.length_cons]
    omega
theorem u8_mod {t : Int} (h : (Lit.int .u8 t).wf = true) : wrap64 (t.tmod 80) = t % 80 := by
  simp [Lit.wf, IntKind.min, IntKind.max, IntKind.signed, IntKind.bits] at h
  rw [Int.tmod_eq_emod_of_nonneg h.1]
  unfold wrap64
  omega
theorem snoc_fold {α β : Type} (f : β → α → β) (b : β) (l : List α) (k : Nat) (x : α) (hx : l[k]? = some x) : (l.take (k + 1)).foldl f b = f ((l.take k).foldl f b) x := by
  rw [List.take_add_one, hx, Option.toList_some, List.foldl_append]
  rfl
section
variable {w0 w w' : World} {R : List Asn} {g N : Nat} {way : List Pk}
set_option maxHeartbeats 8000000 in
set_option maxRecDepth 100000 in
theorem after_calls (h : Own w0 w R) (A : Option Addr) (c : Nat) (l : List ACT) (hr : Kd.C k40 w0 A l.length l) (hl : l.length ≤ 300) (hq : ∀ x ∈ l, Q40 x) : Calls Try.prog 20 #[.slice A l.length c] w fun e w' => ∃ g : Nat, e = .returned (.pointer (some ⟨g, 0, none⟩)) ∧ Own w0 w' (NetA g (l.foldl doR []) (80 * l.length) :: R) := by
  have H0 := Aside0.mk h
  have HR := Aside0.mk hr
  have HQ := Aside0.mk hq
  have hM : l.length ≤ 9223372036854775807 := by omega
  clear h hr hq
  go_enter Try.func20, Try.ntmps20
  go_wp2_with (go_at_call 8; ((with_reducible refine (NetNew H0.out).mono ?_)); rintro e w1 ⟨g, rfl, h⟩; have H1 := Aside0.mk h; clear h)
  go_loopw [4] (fun v4 wr => ∃ k : Nat, k ≤ l.length ∧ v4 = .int .i64 k ∧ Aside0 (Own w0 wr (NetA g ((l.take k).foldl doR []) (80 * k) :: R))) (fun v4 _ => l.length - (RowKit.intOf v4).toNat)
  case atStart => exact ⟨0, Nat.zero_le _, rfl, H1⟩
  case round =>
    obtain ⟨k, hk, rfl, HO⟩ := hrel
    by_cases hlt : k < l.length
    · have hgk := List.getElem?_eq_getElem hlt
      generalize l[k] = x at hgk
      have S1 := Lib.hid (snoc_fold doR [] l k x hgk)
      have hsl := fold_len (l.take k) []
      rw [List.length_take, List.length_nil] at hsl
      generalize (l.take k).foldl doR [] = sa at S1 HO hsl
      have SL := Aside0.mk (show sa.length ≤ 1000000000 by omega)
      have SN := Aside0.mk (show 80 * k < 1000000000 by omega)
      have hsl2 : sa.length ≤ 24000 := by omega
      have HT0 := Aside0.mk (HQ.out x (List.mem_of_getElem? hgk)).2.2.2
      obtain ⟨y0, ⟨p0, p1, p2⟩, y2, y3⟩ := x
      obtain ⟨ad, rfl, d0, d1, d2, d3, d4, d5⟩ := act_at HR.out HO.out.bel k _ hgk
      dsimp only at d0 d1 d2 d3 d4 d5 HT0
      have h9 := (HO.out.alloc (.cells #[.int .i64 y0, .int .i64 p0, .int .i64 p1, .string p2, .int .i64 y2, .int .u8 y3] 40))
      have HX := Aside0.mk h9.r1
      have z0 := (blk_cell h9.at0 0).trans rfl
      have z1 := (blk_cell h9.at0 1).trans rfl
      have z2 := (blk_cell h9.at0 2).trans rfl
      have z3 := (blk_cell h9.at0 3).trans rfl
      have z4 := (blk_cell h9.at0 4).trans rfl
      have z5 := (blk_cell h9.at0 5).trans rfl
      clear HO hgk hsl h9
      go_upto_block 2 with fail
      obtain ⟨gb, hgb⟩ : ∃ gb, gb = wr.heap.size := ⟨_, rfl⟩
      obtain ⟨wx, hwx⟩ : ∃ wx, wx = wr.alloc (.cells #[.int .i64 y0, .int .i64 p0, .int .i64 p1, .string p2, .int .i64 y2, .int .u8 y3] 40) := ⟨_, rfl⟩
      rw [← hwx] at z0 z1 z2 z3 z4 z5 HX ⊢
      rw [← hgb] at z0 z1 z2 z3 z4 z5 HX ⊢
      clear hgb hwx d0 d1 d2 d3 d4 d5
      by_cases h0 : y0 = 0
      · subst h0
        have PS := Aside0.mk (show doR sa ⟨0, ⟨p0, p1, p2⟩, y2, y3⟩ = postN sa ⟨p0, p1, p2⟩ (timesT y3) from if_pos rfl)
        go_wp2
        go_loopw [6] (fun v6 wr2 => ∃ j : Nat, j ≤ timesT y3 ∧ v6 = .int .i64 j ∧ Aside0 (Own w0 wr2 (NetA g (postN sa ⟨p0, p1, p2⟩ j) (80 * k + j) :: Blk gb (.cells #[.int .i64 0, .int .i64 p0, .int .i64 p1, .string p2, .int .i64 y2, .int .u8 y3] 40 (0, 0)) :: R))) (fun v6 _ => timesT y3 - (RowKit.intOf v6).toNat)
        case atStart => exact ⟨0, Nat.zero_le _, rfl, HX⟩
        case round =>
          obtain ⟨j, hj, rfl, HJ⟩ := hrel
          have hT := times_le y3
          have hjl := postN_len sa ⟨p0, p1, p2⟩ j
          have hj1 : 80 * k + j < 1000000000 := by omega
          have hj2 : (postN sa ⟨p0, p1, p2⟩ j).length ≤ 1000000000 := by omega
          have HJ1 := Aside0.mk hj1
          have HJ2 := Aside0.mk hj2
          have z1 := (blk_cell HJ.out.at1 1).trans rfl
          have z2 := (blk_cell HJ.out.at1 2).trans rfl
          have z3 := (blk_cell HJ.out.at1 3).trans rfl
          have z5 := (blk_cell HJ.out.at1 5).trans rfl
          by_cases hj0 : j = 0
          · subst hj0
            go_wp2_with (go_at_call 9; ((with_reducible refine (NetPostE HJ.out p0 p1 p2 HJ1.out HJ2.out _ _ rfl).mono ?_)); rintro e w6 ⟨rfl, h⟩; have H6 := Aside0.mk h; clear h)
            go_roundw
            case rel => exact ⟨0 + 1, by omega, by first | rfl | go_num, H6⟩
            case measure => first | (simp [RowKit.intOf]; done) | (simp [RowKit.intOf]; omega)
          · have qj : ((j : Int) == 0) = false := beq_eq_false_iff_ne.mpr (by omega)
            have h80 := u8_mod HT0.out
            by_cases hc : j < timesT y3
            · have dT : decide ((j : Int) < wrap64 (y3.tmod 80)) = true := decide_eq_true (by rw [h80]; unfold timesT at hc; split at hc <;> omega)
              clear h80
              go_wp2_with (go_at_call 9; ((with_reducible refine (NetPostE HJ.out p0 p1 p2 HJ1.out HJ2.out _ _ rfl).mono ?_)); rintro e w6 ⟨rfl, h⟩; have H6 := Aside0.mk h; clear h)
              go_roundw
              case rel => exact ⟨j + 1, by omega, by first | rfl | go_num, H6⟩
              case measure => first | (simp [RowKit.intOf]; done) | (simp [RowKit.intOf]; omega)
            · have dT : decide ((j : Int) < wrap64 (y3.tmod 80)) = false := decide_eq_false (by rw [h80]; unfold timesT at hc; split at hc <;> omega)
              obtain rfl : j = timesT y3 := by omega
              clear h80 hc hj
              go_wp2
              go_roundw
              case rel => exact ⟨k + 1, by omega, by first | rfl | go_num, ⟨by rw [S1.out, PS.out]; exact net_mono (by omega) HJ.out.r1.tail⟩⟩
              case measure => first | (simp [RowKit.intOf]; done) | (simp [RowKit.intOf]; omega)
      · have H90 := Aside0.mk h0
        by_cases h1 : y0 = 1
        · clear h0
          subst h1
          have H90 := Aside0.mk (show ¬ ((1 : Int) = 0) by decide)
          obtain ⟨TT, hT⟩ : ∃ T, takeR sa y2 = T := ⟨_, rfl⟩
          have hln := takeR_len sa y2
          rw [hT] at hln
          obtain ⟨way', ⟨q0, q1, q2⟩, r⟩ := TT
          have PS := Aside0.mk (show doR sa ⟨1, ⟨p0, p1, p2⟩, y2, y3⟩ = way' by unfold doR; rw [if_neg (show ¬ ((1 : Int) = 0) by decide)]; rw [if_pos rfl]; rw [hT])
          have ET := Aside0.mk hT
          clear hT hln
          go_wp2_with (go_at_call 11; ((with_reducible refine (NetTakeE HX.out y2 SL.out _ _ _ _ _ ET.out).mono ?_)); rintro e w6 ⟨rfl, h⟩; have H6 := Aside0.mk h.r1.tail; clear h)
          go_roundw
          case rel => exact ⟨k + 1, by omega, by first | rfl | go_num, ⟨by rw [S1.out, PS.out]; exact net_mono (by omega) H6.out⟩⟩
          case measure => first | (simp [RowKit.intOf]; done) | (simp [RowKit.intOf]; omega)
        · have H91 := Aside0.mk h1
          by_cases h2 : y0 = 2
          · clear h0 h1
            subst h2
            have H90 := Aside0.mk (show ¬ ((2 : Int) = 0) by decide)
            have H91 := Aside0.mk (show ¬ ((2 : Int) = 1) by decide)
            obtain ⟨TT, hT⟩ : ∃ T, takeR sa y2 = T := ⟨_, rfl⟩
            have hln := takeR_len sa y2
            rw [hT] at hln
            obtain ⟨way', ⟨q0, q1, q2⟩, r⟩ := TT
            have PS := Aside0.mk (show doR sa ⟨2, ⟨p0, p1, p2⟩, y2, y3⟩ = way' by unfold doR; rw [if_neg (show ¬ ((2 : Int) = 0) by decide)]; rw [if_neg (show ¬ ((2 : Int) = 1) by decide)]; rw [if_pos rfl]; rw [hT])
            have ET := Aside0.mk hT
            clear hT hln
            go_wp2_with (go_at_call 13; ((with_reducible refine (NetLoseE HX.out y2 SL.out _ _ _ ET.out).mono ?_)); rintro e w6 ⟨rfl, h⟩; have H6 := Aside0.mk h.r1.tail; clear h)
            go_roundw
            case rel => exact ⟨k + 1, by omega, by first | rfl | go_num, ⟨by rw [S1.out, PS.out]; exact net_mono (by omega) H6.out⟩⟩
            case measure => first | (simp [RowKit.intOf]; done) | (simp [RowKit.intOf]; omega)
          · have H92 := Aside0.mk h2
            by_cases h3 : y0 = 3
            · clear h0 h1 h2
              subst h3
              have H90 := Aside0.mk (show ¬ ((3 : Int) = 0) by decide)
              have H91 := Aside0.mk (show ¬ ((3 : Int) = 1) by decide)
              have H92 := Aside0.mk (show ¬ ((3 : Int) = 2) by decide)
              obtain ⟨TT, hT⟩ : ∃ T, dupR sa y2 = T := ⟨_, rfl⟩
              obtain ⟨way', r⟩ := TT
              have PS := Aside0.mk (show doR sa ⟨3, ⟨p0, p1, p2⟩, y2, y3⟩ = way' by unfold doR; rw [if_neg (show ¬ ((3 : Int) = 0) by decide)]; rw [if_neg (show ¬ ((3 : Int) = 1) by decide)]; rw [if_neg (show ¬ ((3 : Int) = 2) by decide)]; rw [if_pos rfl]; rw [hT])
              have ET := Aside0.mk hT
              clear hT
              go_wp2_with (go_at_call 10; ((with_reducible refine (NetDupE HX.out y2 SN.out SL.out _ _ ET.out).mono ?_)); rintro e w6 ⟨rfl, h⟩; have H6 := Aside0.mk h.r1.tail; clear h)
              go_roundw
              case rel => exact ⟨k + 1, by omega, by first | rfl | go_num, ⟨by rw [S1.out, PS.out]; exact net_mono (by omega) H6.out⟩⟩
              case measure => first | (simp [RowKit.intOf]; done) | (simp [RowKit.intOf]; omega)
            · have H93 := Aside0.mk h3
              clear h0 h1 h2 h3
              have PS := Aside0.mk (show doR sa ⟨y0, ⟨p0, p1, p2⟩, y2, y3⟩ = sa by unfold doR; rw [if_neg H90.out, if_neg H91.out, if_neg H92.out, if_neg H93.out])
              have q0 : (y0 == 0) = false := beq_eq_false_iff_ne.mpr H90.out
              have n0 : (y0 != 0) = true := by simp [bne, q0]
              have q1 : (y0 == 1) = false := beq_eq_false_iff_ne.mpr H91.out
              have n1 : (y0 != 1) = true := by simp [bne, q1]
              have q2 : (y0 == 2) = false := beq_eq_false_iff_ne.mpr H92.out
              have n2 : (y0 != 2) = true := by simp [bne, q2]
              have q3 : (y0 == 3) = false := beq_eq_false_iff_ne.mpr H93.out
              have n3 : (y0 != 3) = true := by simp [bne, q3]
              go_wp2
              go_roundw
              case rel => exact ⟨k + 1, by omega, by first | rfl | go_num, ⟨by rw [S1.out, PS.out]; exact net_mono (by omega) HX.out.r1.tail⟩⟩
              case measure => first | (simp [RowKit.intOf]; done) | (simp [RowKit.intOf]; omega)
    · have hk2 : k = l.length := by omega
      subst hk2
      rw [List.take_length] at HO
      clear hk hlt
      go_wp2
      go_ret
      exact ⟨g, rfl, HO.out⟩
end
end Go.Proofs.Ytdnpodpmicllgaa.PNetPlays
