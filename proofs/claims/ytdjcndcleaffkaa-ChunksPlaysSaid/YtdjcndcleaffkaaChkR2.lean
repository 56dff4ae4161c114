/- The document's own answer for pieces that come: Whole, Put. -/
import Derived.Test.YtdjcndcleaffkaaChkR1
namespace Go.Proofs.Ytdjcndcleaffkaa.PChunksPlays
open Go.RowKit Go.Proofs.YtdjcndcleaffkaaW.PrintWords Go.Proofs.YtdjcndcleaffkaaW.PrintLast Go.Proofs.YtdjcndcleaffkaaW.PrintMore
open Go.Proofs.YtdjcndcleaffkaaO
attribute [local go_sem] max2_int min2_int max_two min_two max_three min_three max_four min_four
set_option linter.unusedVariables false
set_option linter.unusedSimpArgs false
theorem whole_l0 (ps : List PC) (hl : ps.length ≤ 512) (hs : ∀ p ∈ ps, p.f1.size ≤ 64) : ∀ d k : Nat, k + d = ps.length → ∀ acc : ByteArray, acc.size ≤ 64 * k →
    ((∀ j p, k ≤ j → ps[j]? = some p → p.f0 = true) → ∃ t : ByteArray, meterref16_Rows_Whole.l0 (d + 1) acc k ps = some (t, decide ((ps.length : Int) > 0)) ∧ t.data.toList = acc.data.toList ++ (((ps.drop k).map (·.f1)).map (·.data.toList)).flatten) ∧
    ((∃ (j : Nat) (p : PC), k ≤ j ∧ ps[j]? = some p ∧ p.f0 = false) → meterref16_Rows_Whole.l0 (d + 1) acc k ps = some (⟨#[]⟩, false))
  | 0, k, h, acc, ha => by
    simp only [meterref16_Rows_Whole.l0]
    rw [if_neg (by omega)]
    refine ⟨fun _ => ⟨acc, rfl, ?_⟩, fun ⟨j, p, h1, h2, _⟩ => ?_⟩
    · rw [List.drop_of_length_le (by omega)]
      simp
    · have := (List.getElem?_eq_some_iff.1 h2).1
      omega
  | d + 1, k, h, acc, ha => by
    have hk : k < ps.length := by omega
    have hq := List.getElem?_eq_getElem hk
    have hdrop : ps.drop k = ps[k] :: ps.drop (k + 1) := List.drop_eq_getElem_cons hk
    have hsz := hs _ (List.getElem_mem hk)
    generalize ps[k] = p at hq hdrop hsz
    simp only [meterref16_Rows_Whole.l0]
    rw [if_pos (by omega), if_pos (by omega), rd_pc hq]
    by_cases hf : p.f0 = true
    · rw [if_pos hf, if_pos (by omega), w1 k (by omega)]
      have ih := whole_l0 ps hl hs d (k + 1) (by omega) (acc ++ p.f1) (by rw [ByteArray.size_append]; omega)
      refine ⟨fun hA => ?_, fun ⟨j, p', h1, h2, h3⟩ => ih.2 ⟨j, p', ?_, h2, h3⟩⟩
      · obtain ⟨t, h1, h2⟩ := ih.1 fun j p' h1 h2 => hA j p' (by omega) h2
        refine ⟨t, h1, ?_⟩
        rw [h2, hdrop]
        simp [ByteArray.data_append, Array.toList_append]
      · by_cases q : j = k
        · subst q
          rw [hq] at h2
          rw [← Option.some.inj h2, hf] at h3
          cases h3
        · omega
    · rw [if_neg hf]
      exact ⟨fun hA => absurd (hA k p (Nat.le_refl _) hq) hf, fun _ => rfl⟩
theorem ref_whole {st : Option (List ByteArray × List Int)} {ps : List PC} (h : RefRel st ps) : ∃ s b, meterref16_Rows_Whole.f (ps.length + 1) ps = some (s, b) ∧ WholeIs st s b := by
  rcases h with ⟨rfl, rfl⟩ | ⟨xs, L, rfl, hx, h1, h2, hL, hsz, hR⟩
  · exact ⟨_, _, rfl, rfl, rfl⟩
  · obtain ⟨low, hlow⟩ := low_ex L
    have hw := whole_l0 ps h2 hsz ps.length 0 (by omega) ⟨#[]⟩ (Nat.zero_le _)
    by_cases hall : ∀ (j : Nat) (p : PC), ps[j]? = some p → p.f0 = true
    · obtain ⟨t, a1, a2⟩ := hw.1 fun j p _ q => hall j p q
      refine ⟨t, _, a1, low, hlow, .inl ⟨?_, ?_, decide_eq_true (by omega)⟩⟩
      · rcases Nat.lt_or_ge low xs.length with q | q
        · have hp := List.getElem?_eq_getElem (show low < ps.length by omega)
          exact absurd ((hR _ _ hp).1.2 (hall _ _ hp)) hlow.2
        · exact q
      · have e : xs = ps.map (·.f1) := List.ext_getElem? fun j => by
          rw [List.getElem?_map]
          by_cases hj : j < ps.length
          · have hp := List.getElem?_eq_getElem hj
            rw [(hR _ _ hp).2 (hall _ _ hp), hp]
            rfl
          · rw [List.getElem?_eq_none (by omega), List.getElem?_eq_none (by omega)]
            rfl
        apply bytes_eq
        rw [a2, e, joinB]
        exact (join_flat _).symm
    · have hex : ∃ (j : Nat) (p : PC), ps[j]? = some p ∧ p.f0 = false := by
        refine Classical.byContradiction fun hn => hall fun j p q => ?_
        cases hb : p.f0 with
        | true => rfl
        | false => exact absurd ⟨j, p, q, hb⟩ hn
      obtain ⟨j, p, hj, hf⟩ := hex
      have hjl := (List.getElem?_eq_some_iff.1 hj).1
      refine ⟨_, _, hw.2 ⟨j, p, Nat.zero_le _, hj, hf⟩, low, hlow, .inr ⟨?_, rfl, rfl⟩⟩
      rcases Nat.lt_or_ge low xs.length with q | q
      · exact q
      · have := (hR _ _ hj).1.1 (hlow.1 _ (by omega) (by omega))
        rw [hf] at this
        cases this
/-- A piece that is laid into its place. -/
def putE_ (y : List PC) (x1 x2 : Int) (x3 : ByteArray) : Option (List PC × Bool × Int) := if (y.length : Int) = x2 then (if 0 ≤ (wrap64 (x1 - 1)) then (if (wrap64 (x1 - 1)) < (y.length : Int) then (if (rd_T66 y (wrap64 (x1 - 1))).f0 = true then (if ((rd_T66 y (wrap64 (x1 - 1))).f1).toList = x3.toList then ((some (([] : List PC) : List PC)).bind fun y144 => (if y144.length + y.length < 5864062014805 then ((some (y144 ++ y : List PC)).bind fun y147 => (if (wrap64 (x1 - 1)) < (y147.length : Int) then (some ((y147.set ((wrap64 (x1 - 1)) : Int).toNat (⟨true, x3⟩ : PC)), !((rd_T66 y (wrap64 (x1 - 1))).f0), 0)) else (none))) else (none))) else (some (y, false, 8))) else ((some (([] : List PC) : List PC)).bind fun y152 => (if y152.length + y.length < 5864062014805 then ((some (y152 ++ y : List PC)).bind fun y155 => (if (wrap64 (x1 - 1)) < (y155.length : Int) then (some ((y155.set ((wrap64 (x1 - 1)) : Int).toNat (⟨true, x3⟩ : PC)), !((rd_T66 y (wrap64 (x1 - 1))).f0), 0)) else (none))) else (none)))) else (none)) else (none)) else (some (y, false, 8))
theorem j0_eq (x1 x2 : Int) (x3 : ByteArray) (ps : List PC) : meterref16_Rows_Put.j0 1 x1 x2 x3 false ps = if (ps.length : Int) = 0 then (if 0 ≤ x2 then (if (x2 : Int).toNat ≤ 11728124029610 then putE_ (List.replicate (x2 : Int).toNat z66) x1 x2 x3 else none) else none) else putE_ ps x1 x2 x3 := by
  simp only [meterref16_Rows_Put.j0]
  rw [if_neg (by simp)]
  rfl
theorem putE_at (y : List PC) (i : Nat) (p : PC) (d : ByteArray) (hy : y[i]? = some p) (hl : y.length ≤ 512) : putE_ y ((i : Int) + 1) (y.length : Int) d = if p.f0 = true ∧ p.f1 ≠ d then some (y, false, 8) else some (y.set i ⟨true, d⟩, !p.f0, 0) := by
  have hi := (List.getElem?_eq_some_iff.1 hy).1
  have hw : wrap64 ((i : Int) + 1 - 1) = (i : Int) := by unfold wrap64; omega
  have ht : p.f1.toList = d.toList ↔ p.f1 = d := ⟨fun h => by
    rw [ByteArray.toList_eq, ByteArray.toList_eq] at h
    exact bytes_eq h, fun h => by rw [h]⟩
  unfold putE_
  rw [if_pos rfl, hw, if_pos (by omega), if_pos (by omega), rd_pc hy, Int.toNat_natCast]
  simp only [Option.bind_some, List.length_nil, List.nil_append, Nat.zero_add]
  rw [if_pos (show y.length < 5864062014805 by omega), if_pos (show (i : Int) < (y.length : Int) by omega)]
  by_cases hf : p.f0 = true
  · rw [if_pos hf]
    by_cases he : p.f1 = d
    · rw [if_pos (ht.2 he), if_neg (fun h => h.2 he)]
    · rw [if_neg (fun h => he (ht.1 h)), if_pos ⟨hf, he⟩]
  · rw [if_neg hf, if_neg (fun h => hf h.1)]
theorem put_may (ps : List PC) (n count : Int) (d : ByteArray) : meterref16_Rows_Put.f 1 ps n count d = if mayB n count d = true then meterref16_Rows_Put.j0 1 n count d false ps else some (ps, false, 1) := by
  have hj : meterref16_Rows_Put.j0 1 n count d true ps = some (ps, false, 1) := by simp only [meterref16_Rows_Put.j0]; rw [if_pos trivial]
  have he : meterref16_Rows_Put.j0 1 n count d ((d.size : Int) == 0) ps = if d.size = 0 then some (ps, false, 1) else meterref16_Rows_Put.j0 1 n count d false ps := by
    by_cases h : d.size = 0
    · rw [if_pos h, show ((d.size : Int) == 0) = true from beq_iff_eq.mpr (by omega), hj]
    · rw [if_neg h, show ((d.size : Int) == 0) = false from beq_eq_false_iff_ne.mpr (by omega)]
  unfold meterref16_Rows_Put.f
  rw [hj, he]
  by_cases hm : mayB n count d = true
  · have h := of_decide_eq_true hm
    obtain ⟨a1, a2, a3, a4, a5, a6⟩ := h
    rw [if_pos hm, if_neg (by omega), if_neg (by omega), if_neg (by omega), if_neg (by omega)]
    by_cases q : n < count
    · have := a5 q
      rw [if_neg (by omega), if_pos q, if_neg (by omega), if_pos (by omega), if_neg (by omega)]
    · have := a6 (by omega)
      rw [if_neg (by omega), if_neg q]
      by_cases q2 : count > 1
      · rw [if_pos q2, if_neg (by omega)]
      · rw [if_neg q2]
  · rw [if_neg hm]
    have h : ¬ _ := fun q => hm (decide_eq_true q)
    by_cases c1 : count < 1
    · rw [if_pos c1]
    rw [if_neg c1]
    by_cases c2 : count > 512
    · rw [if_pos c2]
    rw [if_neg c2]
    by_cases c3 : n < 1
    · rw [if_pos c3]
    rw [if_neg c3]
    by_cases c4 : n > count
    · rw [if_pos c4]
    rw [if_neg c4]
    by_cases c5 : (d.size : Int) > 64
    · rw [if_pos c5]
    rw [if_neg c5]
    by_cases c6 : n < count
    · rw [if_pos c6]
      by_cases c7 : (d.size : Int) < 64
      · rw [if_pos c7]
      · exact absurd ⟨by omega, by omega, by omega, by omega, fun _ => by omega, fun q => absurd q (by omega)⟩ h
    · rw [if_neg c6]
      by_cases c8 : count > 1
      · rw [if_pos c8]
        by_cases c9 : d.size = 0
        · rw [if_pos c9]
        · exact absurd ⟨by omega, by omega, by omega, by omega, fun q => absurd q c6, fun _ => ⟨by omega, .inr c9⟩⟩ h
      · exact absurd ⟨by omega, by omega, by omega, by omega, fun q => absurd q c6, fun _ => ⟨by omega, .inl (by omega)⟩⟩ h
theorem ref_put {st : Option (List ByteArray × List Int)} {ps : List PC} (h : RefRel st ps) (n count : Int) (d : ByteArray) : ∃ ps', meterref16_Rows_Put.f 1 ps n count d = some (ps', (putR st n count d).1, (putR st n count d).2.1) ∧ RefRel (putR st n count d).2.2 ps' := by
  rw [put_may]
  unfold putR
  by_cases hm : mayB n count d = false
  · rw [if_pos hm, if_neg (by rw [hm]; decide)]
    exact ⟨ps, rfl, h⟩
  · have hm1 : mayB n count d = true := by simpa using hm
    rw [if_neg hm, if_pos hm1, j0_eq]
    have hmb := of_decide_eq_true hm1
    obtain ⟨m1, m2, m3, m4, m5, m6⟩ := hmb
    have hd64 : d.size ≤ 64 := by
      by_cases q : n < count
      · have := m5 q; omega
      · exact (m6 (by omega)).1
    obtain ⟨i, rfl⟩ : ∃ i : Nat, n = (i : Int) + 1 := ⟨(n - 1).toNat, by omega⟩
    obtain ⟨m, rfl⟩ : ∃ m : Nat, count = (m : Int) := ⟨count.toNat, by omega⟩
    have e1 : ((i : Int) + 1 - 1).toNat = i := by omega
    have him : i < m := by omega
    rw [e1, Int.toNat_natCast]
    rcases h with ⟨rfl, rfl⟩ | ⟨xs, L, rfl, hx, h1, h2, hL, hsz, hR⟩
    · rw [if_pos (by rfl), if_pos (by omega), if_pos (by omega)]
      have hy : (List.replicate m z66)[i]? = some z66 := by rw [List.getElem?_replicate, if_pos him]
      have hp := putE_at _ i _ d hy (by rw [List.length_replicate]; omega)
      rw [List.length_replicate] at hp
      rw [hp, if_neg (fun q => by cases q.1)]
      refine ⟨_, rfl, .inr ⟨_, _, rfl, by rw [List.length_set, List.length_set, List.length_replicate, List.length_replicate], by rw [List.length_set, List.length_replicate]; omega, by rw [List.length_set, List.length_replicate]; omega, fun x hx => by rw [List.mem_singleton.1 hx, List.length_set, List.length_replicate]; omega, fun p hp => ?_, fun j p hj => ?_⟩⟩
      · rcases List.mem_or_eq_of_mem_set hp with q | q
        · rw [List.eq_of_mem_replicate q]; exact Nat.zero_le _
        · rw [q]; exact hd64
      · rw [List.getElem?_set] at hj
        rw [List.mem_singleton]
        by_cases q : i = j
        · subst q
          rw [if_pos rfl, if_pos (by rw [List.length_replicate]; exact him)] at hj
          rw [← Option.some.inj hj]
          exact ⟨⟨fun _ => rfl, fun _ => rfl⟩, fun _ => List.getElem?_set_self (by rw [List.length_replicate]; exact him)⟩
        · rw [if_neg q, List.getElem?_replicate] at hj
          split at hj
          · rw [← Option.some.inj hj]
            exact ⟨⟨fun z => absurd z (by omega), fun z => by cases z⟩, fun z => by cases z⟩
          · cases hj
    · rw [if_neg (show ¬ ((ps.length : Int) = 0) by omega)]
      simp only
      by_cases hl : xs.length = m
      · have hi : i < ps.length := by omega
        have hpi := List.getElem?_eq_getElem hi
        generalize ps[i] = p at hpi
        have hRi := hR i p hpi
        have hp := putE_at ps i p d hpi h2
        rw [show ((ps.length : Nat) : Int) = (m : Int) by omega] at hp
        rw [hp]
        by_cases hin : ((i : Int) + 1) ∈ L
        · have hf := hRi.1.1 hin
          have hxi := hRi.2 hf
          by_cases he : p.f1 = d
          · rw [if_neg (fun q => q.2 he), if_neg (by rintro (q | ⟨_, q⟩); exact q hl; exact q (by rw [hxi, he]))]
            have hfr : freshB L ((i : Int) + 1) = false := by unfold freshB; exact decide_eq_false fun z => z.2.2 hin
            refine ⟨_, by rw [hfr, hf]; rfl, .inr ⟨_, _, rfl, by rw [List.length_set, List.length_set]; exact hx, by rw [List.length_set]; exact h1, by rw [List.length_set]; exact h2, fun x hx2 => ?_, fun p' hp' => ?_, fun j p' hj => ?_⟩⟩
            · rw [List.length_set]
              rcases (addL_mem L _ x).1 hx2 with q | q
              · exact hL x q
              · omega
            · rcases List.mem_or_eq_of_mem_set hp' with q | q
              · exact hsz p' q
              · rw [q]; exact hd64
            · rw [addL_mem]
              rw [List.getElem?_set] at hj
              by_cases q : i = j
              · subst q
                rw [if_pos rfl, if_pos hi] at hj
                rw [← Option.some.inj hj]
                exact ⟨⟨fun _ => rfl, fun _ => .inl hin⟩, fun _ => List.getElem?_set_self (by omega)⟩
              · rw [if_neg q] at hj
                refine ⟨⟨fun z => z.elim (hR j p' hj).1.1 fun z => absurd z.1 (by omega), fun z => .inl ((hR j p' hj).1.2 z)⟩, fun z => ?_⟩
                rw [List.getElem?_set_ne q]
                exact (hR j p' hj).2 z
          · rw [if_pos ⟨hf, he⟩, if_pos (.inr ⟨hin, by rw [hxi]; exact fun q => he (Option.some.inj q)⟩)]
            exact ⟨ps, rfl, .inr ⟨xs, L, rfl, hx, h1, h2, hL, hsz, hR⟩⟩
        · have hf : p.f0 = false := by
            cases hb : p.f0 with
            | false => rfl
            | true => exact absurd (hRi.1.2 hb) hin
          rw [if_neg (fun q => by rw [hf] at q; cases q.1), if_neg (by rintro (q | ⟨q, _⟩); exact q hl; exact hin q)]
          have hfr : freshB L ((i : Int) + 1) = true := by unfold freshB; exact decide_eq_true ⟨by omega, by omega, hin⟩
          refine ⟨_, by rw [hfr, hf]; rfl, .inr ⟨_, _, rfl, by rw [List.length_set, List.length_set]; exact hx, by rw [List.length_set]; exact h1, by rw [List.length_set]; exact h2, fun x hx2 => ?_, fun p' hp' => ?_, fun j p' hj => ?_⟩⟩
          · rw [List.length_set]
            rcases (addL_mem L _ x).1 hx2 with q | q
            · exact hL x q
            · omega
          · rcases List.mem_or_eq_of_mem_set hp' with q | q
            · exact hsz p' q
            · rw [q]; exact hd64
          · rw [addL_mem]
            rw [List.getElem?_set] at hj
            by_cases q : i = j
            · subst q
              rw [if_pos rfl, if_pos hi] at hj
              rw [← Option.some.inj hj]
              exact ⟨⟨fun _ => rfl, fun _ => .inr ⟨rfl, by omega, by omega⟩⟩, fun _ => List.getElem?_set_self (by omega)⟩
            · rw [if_neg q] at hj
              refine ⟨⟨fun z => z.elim (hR j p' hj).1.1 fun z => absurd z.1 (by omega), fun z => .inl ((hR j p' hj).1.2 z)⟩, fun z => ?_⟩
              rw [List.getElem?_set_ne q]
              exact (hR j p' hj).2 z
      · rw [if_pos (.inl hl)]
        have : putE_ ps ((i : Int) + 1) (m : Int) d = some (ps, false, 8) := by unfold putE_; rw [if_neg (by omega)]
        rw [this]
        exact ⟨ps, rfl, .inr ⟨xs, L, rfl, hx, h1, h2, hL, hsz, hR⟩⟩
end Go.Proofs.Ytdjcndcleaffkaa.PChunksPlays
