/- The law ChunksSizes, walked. -/
import Derived.Test.YtdjcndcleaffkaaChkC
namespace Go.Proofs.Ytdjcndcleaffkaa.PChunksPlays
open Go.RowKit Go.Proofs.YtdjcndcleaffkaaW.PrintWords Go.Proofs.YtdjcndcleaffkaaW.PrintLast Go.Proofs.YtdjcndcleaffkaaW.PrintMore
open Go.Proofs.YtdjcndcleaffkaaO
attribute [local go_sem] max2_int min2_int max_two min_two max_three min_three max_four min_four
set_option linter.unusedVariables false
set_option linter.unusedSimpArgs false
theorem str_at {w : World} {A : Option Addr} {l : List ByteArray} (hC : Kd.C Kd.string w A l.length l) (j : Nat) (x : ByteArray) (h : l[j]? = some x) : ∃ ad, A = some ad ∧ w.cell? (ad.add j) = some (.string x) := by
  obtain ⟨hjl, _⟩ := List.getElem?_eq_some_iff.1 h
  obtain ⟨ad, c9, e, hK, h7, hc9⟩ := Kd.C_get hC ⟨#[]⟩ (j : Int) (by omega) (by omega)
  refine ⟨ad, e, ?_⟩
  have hrd : c9 = [.string (l.getD ((j : Int)).toNat ⟨#[]⟩)] := h7
  subst hrd
  have := hc9 0 _ rfl
  rw [Int.toNat_natCast, List.getD_eq_getElem?_getD, h] at this
  have e2 : j * (Kd.string).sz + 0 = j := by show j * 1 + 0 = j; omega
  rw [e2] at this
  exact this
theorem own_str_at {w0 w : World} {R : List Asn} {A : Option Addr} {c n : Nat} {l : List ByteArray} {e : TypeId} (h : Own w0 w (Row Kd.string e (.slice A n c) l :: R)) (j : Nat) (x : ByteArray) (hx : l[j]? = some x) : ∃ ad, A = some ad ∧ w.cell? (ad.add j) = some (.string x) := by
  obtain ⟨A2, c2, e2, _, hC⟩ := h.row_reads
  cases e2
  exact str_at hC j x hx
theorem joinB_snoc (r : List ByteArray) (k : Nat) (h : k < r.length) : joinB (r.take (k + 1)) = joinB (r.take k) ++ r[k] := by
  apply ByteArray.ext
  apply Array.toList_inj.1
  rw [joinB, joinB, join_flat, join_flat, List.take_succ_eq_append_getElem h, List.map_append, List.flatten_append]
  simp [join_flat]
theorem nempty {x : ByteArray} (h : 0 < x.size) : x.toList.isEmpty = false := by
  rw [ByteArray.toList_eq]
  cases h2 : x.data.toList with
  | nil => exact absurd (show x.data.size = 0 by rw [← Array.length_toList, h2]; rfl) (by show x.size ≠ 0; omega)
  | cons a l => rfl
set_option maxHeartbeats 8000000 in
set_option maxRecDepth 100000 in
theorem ChunksSizes_great (s : ByteArray) (w : World) (h : 40000 < s.size) : Calls Try.prog 3 #[.string s] w fun e w' => e = .returned (.bool true) ∧ Below w.heap.size w w' := by
  have d1 : decide ((s.size : Int) > 40000) = true := decide_eq_true (by omega)
  go_enter Try.func3, Try.ntmps3
  go_wp2_with (go_at_call 8; ((with_reducible refine (awake_calls w).mono ?_)); rintro e w1 ⟨rfl, hb⟩; have B1 := Aside0.mk hb; clear hb)
  go_ret
  exact ⟨rfl, B1.out⟩
set_option maxHeartbeats 8000000 in
set_option maxRecDepth 100000 in
theorem ChunksSizes_long (s : ByteArray) (w : World) (h : s.size ≤ 40000) (h2 : 32768 < s.size) : Calls Try.prog 3 #[.string s] w fun e w' => e = .returned (.bool true) ∧ Below w.heap.size w w' := by
  have d1 : decide ((s.size : Int) > 40000) = false := decide_eq_false (by omega)
  have d2 : decide ((s.size : Int) > 32768) = true := decide_eq_true (by omega)
  have HC := Lib.hid (cut_long s h2)
  clear h h2
  go_enter Try.func3, Try.ntmps3
  go_wp2_with (first
    | (go_at_call 8; ((with_reducible refine (awake_calls w).mono ?_)); rintro e w1 ⟨rfl, hb⟩; have B1 := Aside0.mk hb; clear hb)
    | (go_at_call 9; ((with_reducible refine (chunks_Cut.calls 513 s [] 3 w1 HC.out).mono ?_)); rintro e w2 ⟨v, rfl, hr, hb⟩; have H2 := Aside0.mk ((((Own.nil w).below B1.out)).row_new hb hr); obtain ⟨A, c, rfl, _, _⟩ := H2.out.row_reads; clear hr hb))
  go_ret
  exact ⟨rfl, H2.out.bel⟩
set_option maxHeartbeats 8000000 in
set_option maxRecDepth 100000 in
theorem ChunksSizes_small (s : ByteArray) (w : World) (h : s.size ≤ 32768) : Calls Try.prog 3 #[.string s] w fun e w' => e = .returned (.bool true) ∧ Below w.heap.size w w' := by
  have d1 : decide ((s.size : Int) > 40000) = false := decide_eq_false (by omega)
  have d2 : decide ((s.size : Int) > 32768) = false := decide_eq_false (by omega)
  obtain ⟨r, hr, hc⟩ := cut_f s h
  have HC := Lib.hid hr
  have hln := hc.len
  have hrl : r.length ≤ 600 := by omega
  have hr1 : 1 ≤ r.length := hln.1
  have HI := Aside0.mk hc
  have HJ := Lib.hid hc.join
  have HSZ := Lib.hid h
  clear h hr hc hln
  go_enter Try.func3, Try.ntmps3
  go_wp2_with (first
    | (go_at_call 8; ((with_reducible refine (awake_calls w).mono ?_)); rintro e w1 ⟨rfl, hb⟩; have B1 := Aside0.mk hb; clear hb)
    | (go_at_call 9; ((with_reducible refine (chunks_Cut.calls 513 s r 0 w1 HC.out).mono ?_)); rintro e w2 ⟨v, rfl, hr, hb⟩; have H2 := Aside0.mk ((((Own.nil w).below B1.out)).row_new hb hr); obtain ⟨A, c, rfl, _, _⟩ := H2.out.row_reads; clear hr hb))
  go_loopw [5, 6, 7] (fun v5 v6 v7 wr => ∃ k : Nat, k ≤ r.length ∧ v5 = .int .i64 ((joinB (r.take k)).size : Int) ∧ v6 = .string (joinB (r.take k)) ∧ v7 = .int .i64 k ∧ Aside0 (Own w wr (Row Kd.string 9 (.slice A r.length c) r :: []))) (fun _ _ v7 _ => r.length - (RowKit.intOf v7).toNat)
  case atStart => exact ⟨0, Nat.zero_le _, rfl, rfl, rfl, H2⟩
  case round =>
    obtain ⟨k, hk, rfl, rfl, rfl, HO⟩ := hrel
    by_cases hlt : k < r.length
    · obtain ⟨q1, q2, q3⟩ := HI.out.at_ k hlt
      have hsn := joinB_snoc r k hlt
      have hgk := List.getElem?_eq_getElem hlt
      have hjl : (joinB (r.take k)).size ≤ 40000 := by
        have h1 := join_len (r.take k) fun x hx => by
          obtain ⟨j, hj⟩ := List.getElem?_of_mem (List.mem_of_mem_take hx)
          obtain ⟨hj1, rfl⟩ := List.getElem?_eq_some_iff.1 hj
          exact (HI.out.at_ j hj1).1
        have h2 : (joinB (r.take k)).size = (Lib.join ((r.take k).map (·.data.toList)) ([] : List UInt8)).length := by
          show (List.toArray _).size = _
          simp
        rw [List.length_take] at h1
        omega
      obtain ⟨x, hx⟩ : ∃ x, r[k] = x := ⟨_, rfl⟩
      rw [hx] at q1 q2 q3 hsn hgk
      obtain ⟨ad, rfl, hcell⟩ := own_str_at HO.out k x hgk
      obtain ⟨J, hJ⟩ : ∃ J, joinB (r.take k) = J := ⟨_, rfl⟩
      rw [hJ] at hsn hjl ⊢
      have HSN := Lib.hid hsn
      have hsz : J.size + x.size ≤ 9223372036854775807 := by omega
      have hsz2 : ((J ++ x).size : Int) = (J.size : Int) + (x.size : Int) := by rw [ByteArray.size_append]; rfl
      have HSZ2 := Lib.hid hsz2
      have d6 : decide ((x.size : Int) > 64) = false := decide_eq_false (by omega)
      have d6' : decide (64 < x.size) = false := decide_eq_false (by omega)
      by_cases hA : k + 1 < r.length
      · have d3 : decide ((k : Int) < (r.length : Int) - 1) = true := decide_eq_true (by omega)
        have q2' := q2 hA
        have d4 : (x.size : Int) = 64 := by omega
        have d5 : decide (1 < r.length) = true := decide_eq_true (by omega)
        have d5' : decide ((r.length : Int) > 1) = true := decide_eq_true (by omega)
        have d7 := nempty (x := x) (by omega)
        clear hsn hgk hx hJ q2 q3 q2' hsz2
        go_wp2
        go_roundw
        case rel => exact ⟨k + 1, by omega, by rw [HSN.out, HSZ2.out] <;> first | rfl | (rw [d4]; rfl) | (rw [d4]; go_num) | go_num, by rw [HSN.out], by first | rfl | go_num, HO⟩
        case measure => first | (simp [RowKit.intOf]; done) | (simp [RowKit.intOf]; omega)
      · have d3 : decide ((k : Int) < (r.length : Int) - 1) = false := decide_eq_false (by omega)
        by_cases hB : 1 < r.length
        · have d5 : decide (1 < r.length) = true := decide_eq_true (by omega)
          have d5' : decide ((r.length : Int) > 1) = true := decide_eq_true (by omega)
          have d7 := nempty (x := x) (by omega)
          clear hsn hgk hx hJ q2 q3 hsz2
          go_wp2
          go_roundw
          case rel => exact ⟨k + 1, by omega, by rw [HSN.out, HSZ2.out] <;> first | rfl | go_num, by rw [HSN.out], by first | rfl | go_num, HO⟩
          case measure => first | (simp [RowKit.intOf]; done) | (simp [RowKit.intOf]; omega)
        · have d5 : decide (1 < r.length) = false := decide_eq_false (by omega)
          have d5' : decide ((r.length : Int) > 1) = false := decide_eq_false (by omega)
          clear hsn hgk hx hJ q2 q3 hsz2
          go_wp2
          go_roundw
          case rel => exact ⟨k + 1, by omega, by rw [HSN.out, HSZ2.out] <;> first | rfl | go_num, by rw [HSN.out], by first | rfl | go_num, HO⟩
          case measure => first | (simp [RowKit.intOf]; done) | (simp [RowKit.intOf]; omega)
    · have hk' : k = r.length := by omega
      subst hk'
      rw [List.take_length, HJ.out]
      have d8 : decide (1 ≤ r.length) = true := decide_eq_true hr1
      have d8' : decide ((r.length : Int) ≥ 1) = true := decide_eq_true (by omega)
      go_wp2
      go_ret
      exact ⟨by simp, HO.out.bel⟩
theorem ChunksSizes_law (s : ByteArray) (w : World) (hs : s.size ≤ 140737488351232) : Calls Try.prog 3 #[.string s] w fun e w' => e = .returned (.bool true) ∧ Below w.heap.size w w' := by
  by_cases h : 40000 < s.size
  · exact ChunksSizes_great s w h
  by_cases h2 : 32768 < s.size
  · exact ChunksSizes_long s w (by omega) h2
  · exact ChunksSizes_small s w (by omega)
end Go.Proofs.Ytdjcndcleaffkaa.PChunksPlays
