/- Packets on their way (package net): Post, Dup. -/
import Derived.Test.YtdnpodpmicllgaaNet4
namespace Go.Proofs.Ytdnpodpmicllgaa.PNetPlays
open Go.RowKit Go.Proofs.YtdnpodpmicllgaaW.PrintWords Go.Proofs.YtdnpodpmicllgaaW.PrintLast Go.Proofs.YtdnpodpmicllgaaW.PrintMore
open Go.Proofs.YtdnpodpmicllgaaO Go.Proofs.YtdnpodpmicllgaaC
attribute [local go_sem] max2_int min2_int max_two min_two max_three min_three max_four min_four
set_option linter.unusedVariables false
set_option linter.unusedSimpArgs false
instance (p : Pk) : Decidable (goodP p) := by unfold goodP; infer_instance
def postR (way : List Pk) (p : Pk) : List Pk × Int := if goodP p then putR way p else (way, 1)
def dupR (way : List Pk) (i : Int) : List Pk × Int := if 0 ≤ i then match way[i.toNat]? with | some p => putR way p | none => (way, 4) else (way, 4)
section
variable {w0 w w' : World} {R : List Asn} {g N : Nat} {way : List Pk}
theorem net_mono {N' : Nat} (hN : N ≤ N') (h : Own w0 w (NetA g way N :: R)) : Own w0 w (NetA g way N' :: R) := by
  obtain ⟨A, c, b, ch, hgood, h2⟩ := net_open h
  exact net_shut hgood (room_mono hN h2.r2).r2.r2
theorem net_good (h : Own w0 w (NetA g way N :: R)) : ∀ p ∈ way, goodP p := by
  obtain ⟨A, c, b, ch, hgood, h2⟩ := net_open h
  exact hgood
theorem net_le (h : Own w0 w (NetA g way N :: R)) (f t : Int) : cntW way f t ≤ 64 := by
  obtain ⟨A, c, b, ch, hgood, h2⟩ := net_open h
  exact room_le h2.r2 f t
theorem putR_len (way : List Pk) (p : Pk) : way.length ≤ (putR way p).1.length ∧ (putR way p).1.length ≤ way.length + 1 := by
  unfold putR
  split <;> simp
/-- The contracts with the packet written out. -/
theorem NetPutL (h : Own w0 w (NetA g way N :: R)) (p0 p1 : Int) (p2 : ByteArray) (hp : goodP ⟨p0, p1, p2⟩) (hN : N < 1000000000) (hl : way.length ≤ 1000000000) : Calls Try.prog 22 #[.pointer (some ⟨g, 0, none⟩), .agg #[.int .i64 p0, .int .i64 p1, .string p2]] w fun e w' => e = .returned (.int .i64 (putR way ⟨p0, p1, p2⟩).2) ∧ Own w0 w' (NetA g (putR way ⟨p0, p1, p2⟩).1 (N + 1) :: R) := NetPut h ⟨p0, p1, p2⟩ hp hN hl
theorem NetFind_nilL (h : Own w0 w R) (i : Int) : Calls Try.prog 23 #[.pointer none, .int .i64 i] w fun e w' => e = .returned (.tuple #[.agg #[.int .i64 0, .int .i64 0, .string ⟨#[]⟩], .int .i64 2]) ∧ Own w0 w' R := NetFind_nil h i
theorem NetFind_noL (h : Own w0 w (NetA g way N :: R)) (i : Int) (hi : ¬ (0 ≤ i ∧ i < way.length)) : Calls Try.prog 23 #[.pointer (some ⟨g, 0, none⟩), .int .i64 i] w fun e w' => e = .returned (.tuple #[.agg #[.int .i64 0, .int .i64 0, .string ⟨#[]⟩], .int .i64 4]) ∧ Own w0 w' (NetA g way N :: R) := NetFind_no h i hi
theorem NetFind_yesL (h : Own w0 w (NetA g way N :: R)) (i : Nat) (p0 p1 : Int) (p2 : ByteArray) (hi : way[i]? = some ⟨p0, p1, p2⟩) : Calls Try.prog 23 #[.pointer (some ⟨g, 0, none⟩), .int .i64 i] w fun e w' => e = .returned (.tuple #[.agg #[.int .i64 p0, .int .i64 p1, .string p2], .int .i64 0]) ∧ Own w0 w' (NetA g way N :: R) := NetFind_yes h i ⟨p0, p1, p2⟩ hi
set_option maxHeartbeats 4000000 in
set_option maxRecDepth 100000 in
theorem NetPost_nil (h : Own w0 w R) (p : Pk) : Calls Try.prog 9 #[.pointer none, .agg (pkV p).toArray] w fun e w' => e = .returned (.int .i64 2) ∧ Own w0 w' R := by
  obtain ⟨p0, p1, p2⟩ := p
  show Calls Try.prog 9 #[.pointer none, .agg #[.int .i64 p0, .int .i64 p1, .string p2]] w _
  have H := Aside0.mk h
  clear h
  go_enter Try.func9, Try.ntmps9
  go_wp2
  go_ret
  exact ⟨rfl, H.out.junk _⟩
set_option maxHeartbeats 4000000 in
set_option maxRecDepth 100000 in
theorem NetPost (h : Own w0 w (NetA g way N :: R)) (p : Pk) (hN : N < 1000000000) (hl : way.length ≤ 1000000000) : Calls Try.prog 9 #[.pointer (some ⟨g, 0, none⟩), .agg (pkV p).toArray] w fun e w' => e = .returned (.int .i64 (postR way p).2) ∧ Own w0 w' (NetA g (postR way p).1 (N + 1) :: R) := by
  obtain ⟨A, c, b, ch, hgood, h2⟩ := net_open h
  obtain ⟨p0, p1, p2⟩ := p
  show Calls Try.prog 9 #[.pointer (some ⟨g, 0, none⟩), .agg #[.int .i64 p0, .int .i64 p1, .string p2]] w _
  have h3 := h2.alloc (.cells #[.int .i64 p0, .int .i64 p1, .string p2] 25)
  have y0 := (blk_cell h3.at0 0).trans rfl
  have y1 := (blk_cell h3.at0 1).trans rfl
  have y2 := (blk_cell h3.at0 2).trans rfl
  have x1 := (blk_cell h3.at1 1).trans rfl
  have heq := fun r => run_eql_map_nil (P := Try.prog) (w.alloc (.cells #[.int .i64 p0, .int .i64 p1, .string p2] 25)) 47 55 53 r Try.underlying47
  have H := Aside0.mk (h.junk (.cells #[.int .i64 p0, .int .i64 p1, .string p2] 25))
  clear h h2 h3 hgood
  by_cases h0 : 0 ≤ p0 ∧ p0 < 9
  · have d0 := Aside0.mk (decide_eq_true h0)
    by_cases h1 : 0 ≤ p1 ∧ p1 < 9
    · have d1 := Aside0.mk (decide_eq_true h1)
      have hg : goodP ⟨p0, p1, p2⟩ := ⟨h0.1, h0.2, h1.1, h1.2⟩
      have HG := Aside0.mk hg
      have HR := Aside0.mk (show postR way ⟨p0, p1, p2⟩ = putR way ⟨p0, p1, p2⟩ from if_pos hg)
      clear h0 h1 hg
      go_enter Try.func9, Try.ntmps9
      go_wp2_with (first
        | (go_at_call 21; ((with_reducible refine (NetPlace p0 _ true d0.out).mono ?_)); rintro e w1 ⟨rfl, rfl⟩)
        | (go_at_call 21; ((with_reducible refine (NetPlace p1 _ true d1.out).mono ?_)); rintro e w2 ⟨rfl, rfl⟩)
        | (go_at_call 22; ((with_reducible refine (NetPutL H.out p0 p1 p2 HG.out hN hl).mono ?_)); rintro e w3 ⟨rfl, h⟩; have H3 := Aside0.mk h; clear h))
      go_ret
      exact ⟨by rw [HR.out]; rfl, by rw [HR.out]; exact H3.out⟩
    · have d1 := Aside0.mk (decide_eq_false h1)
      have HR := Aside0.mk (show postR way ⟨p0, p1, p2⟩ = (way, 1) from if_neg fun q => h1 ⟨q.2.2.1, q.2.2.2⟩)
      clear h0 h1
      go_enter Try.func9, Try.ntmps9
      go_wp2_with (first
        | (go_at_call 21; ((with_reducible refine (NetPlace p0 _ true d0.out).mono ?_)); rintro e w1 ⟨rfl, rfl⟩)
        | (go_at_call 21; ((with_reducible refine (NetPlace p1 _ false d1.out).mono ?_)); rintro e w2 ⟨rfl, rfl⟩))
      go_ret
      exact ⟨by rw [HR.out]; rfl, by rw [HR.out]; exact net_mono (by omega) H.out⟩
  · have d0 := Aside0.mk (decide_eq_false h0)
    have HR := Aside0.mk (show postR way ⟨p0, p1, p2⟩ = (way, 1) from if_neg fun q => h0 ⟨q.1, q.2.1⟩)
    clear h0
    go_enter Try.func9, Try.ntmps9
    go_wp2_with (go_at_call 21; ((with_reducible refine (NetPlace p0 _ false d0.out).mono ?_)); rintro e w1 ⟨rfl, rfl⟩)
    go_ret
    exact ⟨by rw [HR.out]; rfl, by rw [HR.out]; exact net_mono (by omega) H.out⟩
set_option maxHeartbeats 4000000 in
set_option maxRecDepth 100000 in
theorem NetDup_nil (h : Own w0 w R) (i : Int) : Calls Try.prog 10 #[.pointer none, .int .i64 i] w fun e w' => e = .returned (.int .i64 2) ∧ Own w0 w' R := by
  have H := Aside0.mk h
  clear h
  go_enter Try.func10, Try.ntmps10
  go_wp2_with (go_at_call 23; ((with_reducible refine (NetFind_nilL H.out i).mono ?_)); rintro e w1 ⟨rfl, h⟩; have H1 := Aside0.mk h; clear h)
  go_ret
  exact ⟨rfl, H1.out.junk _⟩
set_option maxHeartbeats 4000000 in
set_option maxRecDepth 100000 in
theorem NetDup (h : Own w0 w (NetA g way N :: R)) (i : Int) (hN : N < 1000000000) (hl : way.length ≤ 1000000000) : Calls Try.prog 10 #[.pointer (some ⟨g, 0, none⟩), .int .i64 i] w fun e w' => e = .returned (.int .i64 (dupR way i).2) ∧ Own w0 w' (NetA g (dupR way i).1 (N + 1) :: R) := by
  have hgood := Aside0.mk (net_good h)
  have H := Aside0.mk h
  clear h
  by_cases hi : 0 ≤ i ∧ i < way.length
  · obtain ⟨k, rfl⟩ := Int.eq_ofNat_of_zero_le hi.1
    have hk : k < way.length := by omega
    have hgk := List.getElem?_eq_getElem hk
    generalize way[k] = p at hgk
    have HP := Aside0.mk (hgood.out p (List.mem_of_getElem? hgk))
    have HK := Aside0.mk hgk
    have HR := Aside0.mk (show dupR way (k : Int) = putR way p by unfold dupR; rw [if_pos hi.1, Int.toNat_natCast, hgk])
    obtain ⟨p0, p1, p2⟩ := p
    clear hi hk hgk
    go_enter Try.func10, Try.ntmps10
    go_wp2_with (first
      | (go_at_call 23; ((with_reducible refine (NetFind_yesL H.out k p0 p1 p2 HK.out).mono ?_)); rintro e w1 ⟨rfl, h⟩; have H1 := Aside0.mk h; have h9 := h.alloc (.cells #[.int .i64 p0, .int .i64 p1, .string p2] 25); have y0 := (blk_cell h9.at0 0).trans rfl; have y1 := (blk_cell h9.at0 1).trans rfl; have y2 := (blk_cell h9.at0 2).trans rfl; clear h h9)
      | (go_at_call 22; ((with_reducible refine (NetPutL (H1.out.junk (.cells #[.int .i64 p0, .int .i64 p1, .string p2] 25)) p0 p1 p2 HP.out hN hl).mono ?_)); rintro e w3 ⟨rfl, h⟩; have H3 := Aside0.mk h; clear h))
    go_ret
    exact ⟨by rw [HR.out]; rfl, by rw [HR.out]; exact H3.out⟩
  · have HI := Aside0.mk hi
    have HR := Aside0.mk (show dupR way i = (way, 4) by
      unfold dupR
      by_cases h0 : 0 ≤ i
      · rw [if_pos h0, List.getElem?_eq_none (by omega)]
      · rw [if_neg h0])
    clear hi
    go_enter Try.func10, Try.ntmps10
    go_wp2_with (go_at_call 23; ((with_reducible refine (NetFind_noL H.out i HI.out).mono ?_)); rintro e w1 ⟨rfl, h⟩; have H1 := Aside0.mk h; clear h)
    go_ret
    exact ⟨by rw [HR.out]; rfl, by rw [HR.out]; exact net_mono (by omega) (H1.out.junk _)⟩
end
end Go.Proofs.Ytdnpodpmicllgaa.PNetPlays
