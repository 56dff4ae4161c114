/- Packets on their way: a packet's place in a list; has no link more than its room. -/
import Derived.Test.YtdnpodpmicllgaaNet10
import Derived.Deep.MidRow
import Derived.Deep.QuietTactic
import Derived.WideKeyEntry
namespace Go.Proofs.Ytdnpodpmicllgaa.PNetPlays
open Go.RowKit Go.Proofs.YtdnpodpmicllgaaW.PrintWords Go.Proofs.YtdnpodpmicllgaaW.PrintLast Go.Proofs.YtdnpodpmicllgaaW.PrintMore
open Go.Proofs.YtdnpodpmicllgaaO Go.Proofs.YtdnpodpmicllgaaC
attribute [local go_sem] max2_int min2_int max_two min_two max_three min_three max_four min_four
set_option linter.unusedVariables false
set_option linter.unusedSimpArgs false
/-- A packet's place. -/
def findR (l : List Pk) (p : Pk) : Int := match l.findIdx? (samePk · p) with | some k => k | none => -1
theorem findR_mem {l : List Pk} {p : Pk} (h : p ∈ l) : ∃ k : Nat, findR l p = k ∧ l[k]? = some p := by
  unfold findR
  cases hf : l.findIdx? (samePk · p) with
  | none =>
    have := List.findIdx?_eq_none_iff.1 hf p h
    rw [samePk_self] at this
    cases this
  | some k =>
    obtain ⟨hk, h1, _⟩ := List.findIdx?_eq_some_iff_getElem.1 hf
    refine ⟨k, rfl, ?_⟩
    rw [List.getElem?_eq_getElem hk, samePk_iff.1 h1]
section
variable {w0 w w' : World} {R : List Asn}
set_option maxHeartbeats 8000000 in
set_option maxRecDepth 100000 in
theorem find_calls {A : Option Addr} {n c : Nat} {l : List Pk} (h : Own w0 w (Row k25 25 (.slice A n c) l :: R)) (p0 p1 : Int) (p2 : ByteArray) (hl : n ≤ 1000000000) : Calls Try.prog 18 #[.slice A n c, .agg #[.int .i64 p0, .int .i64 p1, .string p2]] w fun e w' => e = .returned (.int .i64 (findR l ⟨p0, p1, p2⟩)) ∧ Own w0 w' (Row k25 25 (.slice A n c) l :: R) := by
  have h3 := h.alloc (.cells #[.int .i64 p0, .int .i64 p1, .string p2] 25)
  have hn := row_len h
  have HN := Aside0.mk hn
  have H := Aside0.mk h3.r1
  clear h h3 hn
  go_enter Try.func18, Try.ntmps18
  go_wp2
  obtain ⟨gp, hgp⟩ : ∃ gp, gp = w.heap.size := ⟨_, rfl⟩
  rw [← hgp] at H ⊢
  clear hgp
  go_loopw [5] (fun v5 wr => ∃ i : Nat, i ≤ n ∧ v5 = .int .i64 i ∧ Aside0 (∀ j q, j < i → l[j]? = some q → samePk q ⟨p0, p1, p2⟩ = false) ∧ Aside0 (Own w0 wr (Row k25 25 (.slice A n c) l :: Blk gp (.cells #[.int .i64 p0, .int .i64 p1, .string p2] 25 (0, 0)) :: R))) (fun v5 _ => n - (RowKit.intOf v5).toNat)
  case atStart => exact ⟨0, Nat.zero_le _, rfl, ⟨fun j q hj => by omega⟩, H⟩
  case round =>
    obtain ⟨i, hi, rfl, HNO, HO⟩ := hrel
    by_cases hlt : i < n
    · have hiw : i < l.length := by rw [HN.out]; exact hlt
      have hgk := List.getElem?_eq_getElem hiw
      generalize l[i] = x at hgk
      have HGK := Aside0.mk hgk
      obtain ⟨x0, x1, x2⟩ := x
      obtain ⟨bw, c2, e1⟩ := row_form' HO.out (by omega)
      injection e1 with e1 e2 e3
      clear e2 e3
      subst e1
      have hfb := add_at bw
      have q0 := pk_cell HO.out i _ hgk 0 _ rfl
      have q1 := pk_cell HO.out i _ hgk 1 _ rfl
      have q2 := pk_cell HO.out i _ hgk 2 _ rfl
      have z0 := (blk_cell HO.out.at1 0).trans rfl
      have z1 := (blk_cell HO.out.at1 1).trans rfl
      have z2 := (blk_cell HO.out.at1 2).trans rfl
      rw [Nat.add_zero] at q0
      have hq := fun W => eqlPk x0 p0 x1 p1 x2 p2 W
      clear hgk
      by_cases hs : samePk ⟨x0, x1, x2⟩ ⟨p0, p1, p2⟩ = true
      · rw [hs] at hq
        have HF := Aside0.mk (show findR l ⟨p0, p1, p2⟩ = (i : Int) by
          unfold findR
          rw [List.findIdx?_eq_some_iff_getElem.2 ⟨hiw, by rw [(List.getElem?_eq_some_iff.1 HGK.out).2]; exact hs, fun j hj => by
            have h1 := HNO.out j _ hj (List.getElem?_eq_getElem (by omega))
            simp [h1]⟩])
        clear hs hiw
        go_wp2
        go_quiet (fail)
        go_wp2
        go_ret
        exact ⟨by rw [HF.out]; rfl, (HO.out.drewN _).r1.tail⟩
      · have hs2 : samePk ⟨x0, x1, x2⟩ ⟨p0, p1, p2⟩ = false := by simpa using hs
        rw [hs2] at hq
        have HS := Aside0.mk hs2
        clear hs hiw hs2
        go_wp2
        go_quiet (fail)
        go_wp2
        go_roundw
        case rel => exact ⟨i + 1, by omega, by first | rfl | go_num, ⟨fun j q hj hjq => by
          rcases Nat.lt_succ_iff_lt_or_eq.1 hj with h1 | rfl
          · exact HNO.out j q h1 hjq
          · rw [HGK.out] at hjq
            cases hjq
            exact HS.out⟩, ⟨HO.out.drewN _⟩⟩
        case measure => first | (simp [RowKit.intOf]; done) | (simp [RowKit.intOf]; omega)
    · have HF := Aside0.mk (show findR l ⟨p0, p1, p2⟩ = -1 by
        unfold findR
        rw [List.findIdx?_eq_none_iff.2 fun q hq => by
          obtain ⟨j, hj, e⟩ := List.getElem_of_mem hq
          exact HNO.out j q (by have := HN.out; omega) (by rw [List.getElem?_eq_getElem hj, e])])
      clear hi
      go_wp2
      go_ret
      exact ⟨by rw [HF.out]; rfl, HO.out.r1.tail⟩
end
/-! ### fits -/
theorem lawArr : WideMaps.KeyLaw Try.prog 62 := deep_law_laid laidNet (m := 3) (by omega) (of_decide_eq_true (by kernel_rfl)) (by kernel_rfl) (by kernel_rfl)
theorem key_arr (f t : Int) (hf : wfI f) (ht : wfI t) : keyOf Try.prog 62 (.agg #[.int .i64 f, .int .i64 t]) = some (keyL f t) := by
  have hu := Try.underlying62
  have hkt : Try.prog.keyType 62 = true := by kernel_rfl
  have hc : Try.prog.cellsOf 62 = 2 := by kernel_rfl
  have hc3 : Try.prog.cellsOf 3 = 1 := by kernel_rfl
  obtain ⟨m, hm⟩ := sizeTypes
  unfold keyOf keyL
  simp only [hu]
  rw [if_pos (by simp [hkt, Value.formed, hu, hc]), hm]
  unfold Program.keyLits
  simp only [hu, Value.cells]
  have hf : (Lit.int .i64 f).wf = true := hf
  have ht : (Lit.int .i64 t).wf = true := ht
  simp [hc, hc3, Program.keyLits, Try.underlying3, hf, ht, List.range_succ_eq_map, List.range']
end Go.Proofs.Ytdnpodpmicllgaa.PNetPlays
