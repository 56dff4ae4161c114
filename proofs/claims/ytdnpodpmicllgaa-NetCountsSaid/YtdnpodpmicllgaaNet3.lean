/- Packets on their way (package net): one is deleted. -/
import Derived.Test.YtdnpodpmicllgaaNet2
import Derived.Deep.RegionLaw
import Derived.Lib.SlicesDelete
import Derived.Lib.SliceRun
import Derived.ArgAppend
import Derived.Lib.Walk
namespace Go.Proofs.Ytdnpodpmicllgaa.PNetPlays
open Go.RowKit Go.Proofs.YtdnpodpmicllgaaW.PrintWords Go.Proofs.YtdnpodpmicllgaaW.PrintLast Go.Proofs.YtdnpodpmicllgaaW.PrintMore
open Go.Proofs.YtdnpodpmicllgaaO Go.Proofs.YtdnpodpmicllgaaC
attribute [local go_sem] max2_int min2_int max_two min_two max_three min_three max_four min_four
set_option linter.unusedVariables false
set_option linter.unusedSimpArgs false
section
variable {w0 w w' : World} {R : List Asn}
/-- A row of packets, as its block. -/
theorem pk_open {b n c : Nat} {l : List Pk} (h : Own w0 w (Row k25 25 (.slice (some ⟨b, 0, none⟩) n c) l :: R)) : ∃ cur : Array Value, n ≤ c ∧ c ≤ 9223372036854775807 ∧ cur.size = c * 3 ∧ (∀ j x, l[j]? = some x → ∀ i u, (pkV x)[i]? = some u → cur[j * 3 + i]? = some u) ∧ Own w0 w (Blk b (.cells cur 25 (0, 0)) :: R) := by
  obtain ⟨cur, h1, h2⟩ := row_blk h
  obtain ⟨F, hr, hF⟩ := h.row_out
  obtain ⟨_, inner, ho, _⟩ := hr
  obtain ⟨_, q⟩ := ho
  rcases q with ⟨q, _⟩ | ⟨g, cap, cur', e, _, hg, h3, h4, h5, _⟩
  · cases q
  · injection e with e1 e2 e3
    injection e1 with e1
    injection e1 with e1
    subst e1
    subst e3
    have e4 := Option.some.inj (hg.symm.trans h1.at0)
    injection e4 with e4
    subst e4
    refine ⟨cur', by have := row_len h; omega, h4, h5, fun j x hx i u hu => ?_, h1⟩
    obtain ⟨c', hK, hc⟩ := h2 j x hx
    rw [k25_open hK] at hc
    exact hc i u hu
theorem pk_shut {b n c : Nat} {l : List Pk} {cur : Array Value} (hn : l.length = n) (hc : n ≤ c) (hm : c ≤ 9223372036854775807) (hs : cur.size = c * 3) (hd : ∀ j x, l[j]? = some x → ∀ i u, (pkV x)[i]? = some u → cur[j * 3 + i]? = some u)
    (h : Own w0 w (Blk b (.cells cur 25 (0, 0)) :: R)) : Own w0 w (Row k25 25 (.slice (some ⟨b, 0, none⟩) n c) l :: R) := by
  have hgb := (h.get 0 rfl).2
  refine h.step fun F hF hB => ⟨rfl, rfl, rfl, Nat.le_refl _, fun k _ _ => rfl, F, ⟨⟨fun k hk => ?_, cur.toList.take (n * 3), ?_, ?_⟩, fun k hk => by rw [(hF.2 k).1 hk]; exact blk_lt hF.1⟩, fun k hk => .inl hk⟩
  · have : b = k := by simpa [Value.ownBlock] using hk
    exact (hF.2 k).2 this.symm
  · subst hn
    exact ⟨by rw [List.length_take]; have : cur.toList.length = c * 3 := by simpa using hs
              show min (l.length * 3) cur.toList.length = l.length * 3
              omega, .inr ⟨b, c, cur, rfl, hgb, hF.1, hc, hm, hs, rfl⟩⟩
  · refine ⟨by rw [List.length_take]; have : cur.toList.length = c * 3 := by simpa using hs
               show min (n * 3) cur.toList.length = l.length * 3
               omega, fun j p hj => ?_⟩
    have hjl := (List.getElem?_eq_some_iff.1 hj).1
    have e : ((cur.toList.take (n * 3)).drop (j * (k25).sz)).take (k25).sz = [.int .i64 p.f0, .int .i64 p.f1, .string p.f2] := by
      rw [pk_sz]
      apply List.ext_getElem?
      intro t
      rw [List.getElem?_take]
      by_cases ht : t < 3
      · rw [if_pos ht, List.getElem?_drop, List.getElem?_take, if_pos (by omega), Array.getElem?_toList]
        have hlen : (pkV p).length = 3 := rfl
        exact hd j p hj t _ (List.getElem?_eq_getElem (by omega)) |>.trans (List.getElem?_eq_getElem (l := pkV p) (by omega)).symm
      · rw [if_neg ht, List.getElem?_eq_none (by simp; omega)]
    rw [e]
    exact k25_mkM _ _ _ _
theorem own_setCells {w0 : World} {R : List Asn} {g t : Nat} : ∀ (vs : List Value) (o : Nat) (w : World) (cs : Array Value), Own w0 w (Blk g (.cells cs t (0, 0)) :: R) → Own w0 (w.setCells g o vs) (Blk g (.cells (Lib.lay cs o vs) t (0, 0)) :: R)
  | [], _, _, _, h => h
  | v :: r, o, w, cs, h => own_setCells r (o + 1) _ _ (h.set o v)
/-- 'clear' of one packet. -/
theorem clear_pk (w : World) (ty : TypeId) (b o c m : Nat) (hm : m = 1) (hc : ∀ j, j < 3 → (w.cell? ⟨b, o + j, none⟩).isSome = true) (hf : ∀ j, j < 3 → w.frozen? ⟨b, o + j, none⟩ = false) :
    (Builtin.clear_ #[36] ty #[.slice (some ⟨b, o, none⟩) m c]).run Try.prog w = .ok (.tuple #[]) (w.setCells b o (pkV zPk)) := by
  subst hm
  have hv : (zeroValue 25).run Try.prog w = .ok (.agg (pkV zPk).toArray) w := by kernel_rfl
  have hz : (Builtin.zeroCells (Value.agg (pkV zPk).toArray).cells 1).toList = pkV zPk := by kernel_rfl
  have hst := run_storeCells_cells (P := Try.prog) b o (pkV zPk) 0 w (by simpa [pkV] using hc) (by simpa [pkV] using hf) (by intro v hv; simp [pkV] at hv; rcases hv with rfl | rfl | rfl <;> rfl)
  simp only [Nat.add_zero] at hst
  simp [Builtin.clear_, run_underlying Try.underlying36, hv, hz, hst, Result.andThen]
theorem flat_get : ∀ (l : List Pk) (t : Nat), (l.flatMap pkV)[t]? = (l[t / 3]?).bind fun p => (pkV p)[t % 3]?
  | [], t => by simp
  | p :: l, t => by
    rw [List.flatMap_cons]
    by_cases ht : t < 3
    · rw [List.getElem?_append_left (by show t < 3; exact ht), Nat.div_eq_of_lt ht, Nat.mod_eq_of_lt ht]
      rfl
    · rw [List.getElem?_append_right (by show 3 ≤ t; omega), show t - (pkV p).length = t - 3 from rfl, flat_get l (t - 3)]
      obtain ⟨q, rfl⟩ : ∃ q, t = q + 3 := ⟨t - 3, by omega⟩
      rw [Nat.add_sub_cancel, Nat.add_div_right _ (by omega), Nat.add_mod_right]
      rfl
theorem flat_len : ∀ l : List Pk, (l.flatMap pkV).length = l.length * 3
  | [] => rfl
  | p :: l => by rw [List.flatMap_cons, List.length_append, flat_len l, List.length_cons]; show 3 + _ = _; omega
theorem flat_one (l : List Pk) : ∀ u ∈ l.flatMap pkV, u.oneCell' = true := by
  intro u hu
  obtain ⟨p, _, hp⟩ := List.mem_flatMap.1 hu
  simp [pkV] at hp
  rcases hp with rfl | rfl | rfl <;> rfl
/-- What the block holds behind a deletion. -/
theorem del_cells {cur : Array Value} {l : List Pk} {i c : Nat} (hi : i < l.length) (hc : l.length ≤ c) (hs : cur.size = c * 3) (hd : ∀ j x, l[j]? = some x → ∀ t u, (pkV x)[t]? = some u → cur[j * 3 + t]? = some u) :
    (Lib.lay (Lib.lay cur (i * 3) ((l.drop (i + 1)).flatMap pkV)) ((l.length - 1) * 3) (pkV zPk)).size = c * 3 ∧ ∀ j x, (l.eraseIdx i)[j]? = some x → ∀ t u, (pkV x)[t]? = some u → (Lib.lay (Lib.lay cur (i * 3) ((l.drop (i + 1)).flatMap pkV)) ((l.length - 1) * 3) (pkV zPk))[j * 3 + t]? = some u := by
  have hlen : ((l.drop (i + 1)).flatMap pkV).length = (l.length - (i + 1)) * 3 := by rw [flat_len, List.length_drop]
  refine ⟨by rw [Lib.lay_size, Lib.lay_size, hs], fun j x hx t u hu => ?_⟩
  have hjl := (List.getElem?_eq_some_iff.1 hx).1
  rw [List.length_eraseIdx_of_lt hi] at hjl
  have ht : t < 3 := (List.getElem?_eq_some_iff.1 hu).1
  have hz : (pkV zPk).length = 3 := rfl
  rw [Lib.lay_get? _ _ _ _ (by rw [Lib.lay_size, hz]; omega), if_neg (by omega), Lib.lay_get? _ _ _ _ (by rw [hlen]; omega), hlen]
  rw [List.getElem?_eraseIdx] at hx
  by_cases hji : j < i
  · rw [if_pos hji] at hx
    rw [if_neg (by omega)]
    exact hd j x hx t u hu
  · rw [if_neg hji] at hx
    rw [if_pos (by omega), flat_get, List.getElem?_drop, show (j * 3 + t - i * 3) / 3 = j - i by omega, show (j * 3 + t - i * 3) % 3 = t by omega, show i + 1 + (j - i) = j + 1 by omega, hx]
    exact hu
theorem infoPk : ∃ i0, Try.prog.info? 25 = some i0 ∧ i0.size = 3 := by
  have h : (Try.prog.info? 25).map (·.size) = some 3 := by kernel_rfl
  obtain ⟨i, hi, hs⟩ := Option.map_eq_some_iff.1 h
  exact ⟨i, hi, hs⟩
set_option maxHeartbeats 4000000 in
set_option maxRecDepth 100000 in
theorem PkDelete {b n c : Nat} {l : List Pk} (h : Own w0 w (Row k25 25 (.slice (some ⟨b, 0, none⟩) n c) l :: R)) (i : Nat) (hi : i < n) (hl : n ≤ 1000000000) :
    Calls Try.prog 24 #[.slice (some ⟨b, 0, none⟩) n c, .int .i64 i, .int .i64 ((i : Int) + 1)] w fun e w' => e = .returned (.slice (some ⟨b, 0, none⟩) (n - 1) c) ∧ Own w0 w' (Row k25 25 (.slice (some ⟨b, 0, none⟩) (n - 1) c) (l.eraseIdx i) :: R) := by
  have hn := row_len h
  subst hn
  obtain ⟨cur, hc1, hc2, hs, hd, h1⟩ := pk_open h
  obtain ⟨i0, hi0, hz1⟩ := infoPk
  obtain ⟨news, hnews⟩ : ∃ news, news = (l.drop (i + 1)).flatMap pkV := ⟨_, rfl⟩
  have s1 : Hid (news.length = (l.length - (i + 1)) * 3) := Lib.hid (by rw [hnews, flat_len, List.length_drop])
  have hdr := h1.drew
  obtain ⟨A, hA, hsrc⟩ : ∃ A : Addr, (if c = i + 1 then some (⟨b, 0, none⟩ : Addr) else some ⟨b, (i + 1) * 3, none⟩) = some A ∧ Hid (∀ t u, news[t]? = some u → w.drew.cell? (A.add t) = some u) := by
    by_cases hq : c = i + 1
    · refine ⟨⟨b, 0, none⟩, by simp [hq], Lib.hid fun t u hu => ?_⟩
      have h0 : news.length = 0 := by rw [s1.out]; omega
      rw [List.length_eq_zero_iff.1 h0] at hu
      simp at hu
    · refine ⟨⟨b, (i + 1) * 3, none⟩, by simp [hq], Lib.hid fun t u hu => ?_⟩
      rw [add_at']
      rw [hnews, flat_get, List.getElem?_drop] at hu
      obtain ⟨p, hp, hu⟩ := Option.bind_eq_some_iff.1 hu
      have := hd _ p hp _ u hu
      rw [show (i + 1 + t / 3) * 3 + t % 3 = (i + 1) * 3 + t by omega] at this
      exact (blk_cell hdr.at0 _).trans this
  have s2 : Hid (∀ u ∈ news, u.oneCell' = true) := Lib.hid (by rw [hnews]; exact flat_one _)
  have s3 : Hid (∀ t, t < news.length → (w.drew.cell? ⟨b, 0 + i * 3 + t, none⟩).isSome = true ∧ w.drew.frozen? ⟨b, 0 + i * 3 + t, none⟩ = false) := Lib.hid fun t ht => by
    rw [s1.out] at ht
    exact ⟨by rw [blk_cell hdr.at0 (0 + i * 3 + t), Array.getElem?_eq_getElem (by omega)]; rfl, blk_frozen hdr.at0 _⟩
  obtain ⟨W1, hW1⟩ : ∃ W1, W1 = w.drew.setCells b (0 + i * 3) news := ⟨_, rfl⟩
  have h2 : Own w0 W1 (Blk b (.cells (Lib.lay cur (i * 3) news) 25 (0, 0)) :: R) := by rw [hW1, Nat.zero_add]; exact own_setCells _ _ _ _ hdr
  have hcl := fun ty => clear_pk W1 ty b ((i + (l.length - (i + 1))) * 3) (c - (i + (l.length - (i + 1)))) (l.length - (i + (l.length - (i + 1)))) (by omega) (fun j hj => by rw [blk_cell h2.at0 _, Array.getElem?_eq_getElem (by rw [Lib.lay_size]; omega)]; rfl) (fun j hj => blk_frozen h2.at0 _)
  have h3 := own_setCells (pkV zPk) ((l.length - 1) * 3) _ _ h2
  have he : i + (l.length - (i + 1)) = l.length - 1 := by omega
  have HE := Lib.hid he
  have hfin := del_cells (c := c) hi hc1 hs hd
  rw [← hnews] at hfin
  have H3 := Aside0.mk (pk_shut (n := l.length - 1) (by rw [List.length_eraseIdx_of_lt hi]) (by omega) hc2 hfin.1 hfin.2 h3)
  have hW := Lib.hid hW1
  rw [← he] at H3
  have hic : i ≤ c := by omega
  have hjc : i + 1 ≤ c := by omega
  have hb1 : (0 : Int) ≤ (i : Int) + 1 := by omega
  have hb2 : (i : Int) + 1 ≤ (l.length : Int) := by omega
  have mixed : Try.prog.follows .mixedOrders = true := by kernel_rfl
  clear h h1 h2 h3 hfin hdr hd hW1 hnews he
  go_enter Try.func24, Try.ntmps24
  go_wp2_with fail
  go_region_law_o (refine step_append_room rfl (.tmp 22) (.tmp 25) 36 rfl 25 i0 3 Try.underlying36 hi0 hz1 b 0 i c (by simp [Act.eval, Act.put]) A (l.length - (i + 1)) (c - (i + 1)) news (by simp [Act.eval, Act.put]) s1.out hsrc.out s2.out (by omega) s3.out ?_; rw [← hW.out])
  go_wp2
  go_ret
  exact ⟨by rw [← HE.out]; rfl, by rw [← HE.out]; exact H3.out⟩
end
end Go.Proofs.Ytdnpodpmicllgaa.PNetPlays
