/- Items that were seen (package seen): a map of codes by source and number. -/
import Derived.Test.YtboomdjkgheonaaSeen10
import Derived.DeepKeys4
import Derived.WideKeyPair
import Derived.Deep.MidRow
import Derived.WideKeyEntry
namespace Go.Proofs.Ytboomdjkgheonaa.PSeenPlays
open Go.RowKit Go.Proofs.YtboomdjkgheonaaW.PrintWords Go.Proofs.YtboomdjkgheonaaW.PrintLast Go.Proofs.YtboomdjkgheonaaW.PrintMore
open Go.Proofs.YtboomdjkgheonaaO
open Go.Maps Go.Sort Go.Shelf
attribute [local go_sem] max2_int min2_int max_two min_two max_three min_three max_four min_four
set_option linter.unusedVariables false
set_option linter.unusedSimpArgs false
theorem laidSeen : laidOutB Try.prog = true := by kernel_rfl
theorem lawArr : WideMaps.KeyLaw Try.prog 40 := deep_law_laid laidSeen (m := 3) (by omega) (of_decide_eq_true (by kernel_rfl)) (by kernel_rfl) (by kernel_rfl)
theorem sizeTypes : ∃ m, Try.prog.types.size = m + 1 := ⟨Try.prog.types.size - 1, by kernel_rfl⟩
def keyL (f t : Int) : Lit := .string (keyBytes [.int .i64 f, .int .i64 t])
theorem key_arr (f t : Int) (hf : wfI f) (ht : wfI t) : keyOf Try.prog 40 (.agg #[.int .i64 f, .int .i64 t]) = some (keyL f t) := by
  have hu := Try.underlying40
  have hkt : Try.prog.keyType 40 = true := by kernel_rfl
  have hc : Try.prog.cellsOf 40 = 2 := by kernel_rfl
  have hc3 : Try.prog.cellsOf 3 = 1 := by kernel_rfl
  obtain ⟨m, hm⟩ := sizeTypes
  unfold keyOf keyL
  simp only [hu]
  rw [if_pos (by simp [hkt, Value.formed, hu, hc]), hm]
  unfold Program.keyLits
  simp only [hu, Value.cells]
  have hf : (Lit.int .i64 f).wf = true := hf
  have ht : (Lit.int .i64 t).wf = true := ht
  simp [hc, hc3, Program.keyLits, Try.underlying3, hf, ht, List.range_succ_eq_map, List.range']
theorem keyL_inj {f t f' t' : Int} (hf : wfI f) (ht : wfI t) (hf' : wfI f') (ht' : wfI t') (h : keyL f t = keyL f' t') : f = f' ∧ t = t' := by
  have h1 := key_arr f t hf ht
  have h2 := key_arr f' t' hf' ht'
  have e := (Maps.Keyed.of_law lawArr).inj h1 (by rw [h2]; exact congrArg some h.symm)
  injection e with e
  have e := congrArg Array.toList e
  simp only [List.cons.injEq, and_true] at e
  obtain ⟨e1, e2⟩ := e
  injection e1 with _ e1
  injection e2 with _ e2
  exact ⟨e1, e2⟩
theorem keyL_is (f t : Int) : WideAt.IsKeyLit (keyL f t) := trivial
/-- A map[[2]int]int: what it tells of each pair. -/
def ArrM (b N : Nat) (cd : Int → Int → Int) : Asn := ⟨fun _ w F => (∃ D, w.ownsMap Try.prog 40 (plainElem (H := Unit) Try.prog 3) b N D ∧ ∀ f t, wfI f → wfI t → D.atKey (keyL f t) zI = .lit (.int .i64 (cd f t))) ∧ ∀ k, F k ↔ k = b,
  fun ⟨⟨D, h, hc⟩, hF⟩ hm => ⟨⟨D, by obtain ⟨es, clock, hb, r⟩ := h; exact ⟨es, clock, (hm b ((hF b).2 rfl)).trans hb, r⟩, hc⟩, hF⟩,
  fun ⟨⟨D, h, _⟩, hF⟩ k hk => by
    obtain rfl := (hF k).1 hk
    exact h.lt⟩
theorem add_block (a : Addr) (j : Nat) : (a.add j).block = a.block := by cases a; simp [Addr.add]; try (split <;> rfl)
/-- A row of integers that is only read. -/
def RdI (A : Option Addr) (xs : List Int) : Asn := ⟨fun _ w F => ∃ ad, A = some ad ∧ (∀ k, F k ↔ k = ad.block) ∧ ad.block < w.heap.size ∧ ∀ (j : Nat) x, xs[j]? = some x → w.cell? (ad.add j) = some (.int .i64 x),
  fun ⟨ad, h1, h2, h3, h4⟩ hm => ⟨ad, h1, h2, blk_lt ((hm ad.block ((h2 _).2 rfl)).trans (Array.getElem?_eq_getElem h3)), fun j x hx => (World.cell?_of_block (a := ad.add j) (by rw [add_block]; exact hm ad.block ((h2 _).2 rfl))).trans (h4 j x hx)⟩,
  fun ⟨ad, h1, h2, h3, h4⟩ k hk => by rw [(h2 k).1 hk]; exact h3⟩
def upd2 (cd : Int → Int → Int) (f t v : Int) : Int → Int → Int := fun f' t' => if f' = f ∧ t' = t then v else cd f' t'
section
variable {w0 w w' : World} {R : List Asn} {b N : Nat} {cd : Int → Int → Int}
theorem rd_row {A : Option Addr} {n c : Nat} {xs : List Int} {e : TypeId} (h : Own w0 w (Row (Kd.int .i64) e (.slice A n c) xs :: R)) (hx : 0 < xs.length) : Own w0 w (RdI A xs :: R) := by
  obtain ⟨F, ⟨h1, h2⟩, h3, h4⟩ := h.sat
  obtain ⟨A2, c2, e2, _, hC⟩ := Kd.R_reads h1
  cases e2
  obtain ⟨ad, rfl, _⟩ := hC.2.2 hx
  have hF := h1.1 ad.block rfl
  have hlt := h2 _ hF
  exact h.step fun F' hF' hB => ⟨rfl, rfl, rfl, Nat.le_refl _, fun _ _ _ => rfl, fun k => k = ad.block, ⟨ad, rfl, fun k => Iff.rfl, blk_lt (Array.getElem?_eq_getElem hlt), fun j x hj => by
    obtain ⟨ad2, e3, hcell⟩ := int_at hC j x hj
    cases e3
    exact hcell⟩, fun k hk => .inl (by rw [hk]; exact hF'.1.1 ad.block rfl)⟩
theorem rd_lit {g : Nat} {t : Nat} (xs : List Int) (h : Own w0 w (Blk g (.cells (xs.map (Value.int .i64)).toArray t (0, 0)) :: R)) : Own w0 w (RdI (some ⟨g, 0, none⟩) xs :: R) := by
  have hg := h.at0
  exact h.step fun F hF _ => ⟨rfl, rfl, rfl, Nat.le_refl _, fun _ _ _ => rfl, F, ⟨⟨g, 0, none⟩, rfl, hF.2, blk_lt hg, fun j x hj => by
    have h2 := blk_cell hg j
    have e : Addr.add ⟨g, 0, none⟩ j = ⟨g, j, none⟩ := by simp [Addr.add]; try omega
    rw [e, h2]
    simp [hj]⟩, fun k hk => .inl hk⟩
theorem rd_at {A : Option Addr} {xs : List Int} (h : Own w0 w (RdI A xs :: R)) : ∃ ad, A = some ad ∧ ∀ (j : Nat) x, xs[j]? = some x → w.cell? (ad.add j) = some (.int .i64 x) := by
  obtain ⟨F, ⟨ad, h1, _, _, h4⟩, _⟩ := h.sat
  exact ⟨ad, h1, h4⟩
theorem arr_new (h : Own w0 w R) : Own w0 (w.alloc (.map #[] 0)) (ArrM w.heap.size 0 (fun _ _ => 0) :: R) := by
  refine h.make (below_alloc (Below.refl _ _) _) ⟨fun k => k = w.heap.size, ⟨⟨.map [], World.ownsMap_made w Try.prog 40 (plainElem (H := Unit) Try.prog 3), fun f t _ _ => rfl⟩, fun k => Iff.rfl⟩, fun k hk => by omega⟩
theorem arr_out (h : Own w0 w (ArrM b N cd :: R)) : ∃ D, w.ownsMap Try.prog 40 (plainElem (H := Unit) Try.prog 3) b N D ∧ ∀ f t, wfI f → wfI t → D.atKey (keyL f t) zI = .lit (.int .i64 (cd f t)) := by
  obtain ⟨F, ⟨h1, _⟩, _⟩ := h.sat
  exact h1
theorem arr_look (h : Own w0 w (ArrM b N cd :: R)) (f t : Int) (hf : wfI f) (ht : wfI t) : (Instr.lookup 37 (.map (some b)) (.agg #[.int .i64 f, .int .i64 t]) false).run Try.prog w = .ok (.int .i64 (cd f t)) w := by
  obtain ⟨D, ho, hd⟩ := arr_out h
  obtain ⟨c, hr, hc, _⟩ := ho.lookup_int (Maps.Keyed.of_law lawArr) Try.underlying37 Try.underlying3 (zeroI w) (key_arr f t hf ht)
  have e := (hd f t hf ht).symm.trans hc
  injection e with e
  injection e with _ e
  rw [hr, ← e]
theorem arr_put (h : Own w0 w (ArrM b N cd :: R)) (f t v : Int) (hf : wfI f) (ht : wfI t) (hv : wfI v) (hN : N < 1000000000) : ∃ w2, (Instr.mapUpdate 37 (.map (some b)) (.agg #[.int .i64 f, .int .i64 t]) (.int .i64 v)).run Try.prog w = .ok () w2 ∧ Own w0 w2 (ArrM b (N + 1) (upd2 cd f t v) :: R) := by
  obtain ⟨D, ho, hd⟩ := arr_out h
  obtain ⟨w2, hr, ho2, ht2⟩ := ho.store (Maps.Keyed.of_law lawArr) Try.underlying37 (by unfold maxLen; omega) (key_arr f t hf ht) (plainElem_int (H := Unit) Try.underlying3 hv)
  have hg := ht2.grown
  refine ⟨w2, hr, h.step fun F hF hB => ?_⟩
  obtain ⟨_, hFk⟩ := hF
  refine ⟨hg.os, hg.tape, hg.output, hg.size, fun k hk hn => hg.block k hk fun e => hn ((hFk k).2 (Option.some.inj e)), F, ⟨⟨_, ho2, fun f' t' hf' ht' => ?_⟩, hFk⟩, fun k hk => .inl hk⟩
  by_cases hft : f' = f ∧ t' = t
  · obtain ⟨rfl, rfl⟩ := hft
    rw [Maps.atKey_put_same ho.isMap (keyL_is _ _)]
    unfold upd2
    rw [if_pos ⟨rfl, rfl⟩]
  · have hk : keyL f' t' ≠ keyL f t := fun q => hft (keyL_inj hf' ht' hf ht q)
    rw [Maps.atKey_put_other hk, hd f' t' hf' ht']
    unfold upd2
    rw [if_neg hft]
theorem arr_mono {M : Nat} (h : Own w0 w (ArrM b N cd :: R)) (hN : N ≤ M) : Own w0 w (ArrM b M cd :: R) := by
  obtain ⟨F, ⟨⟨D, ho, hd⟩, hF⟩, h2⟩ := h.sat
  exact ⟨h.bel, F, ⟨⟨D, ho.mono hN, hd⟩, hF⟩, h2⟩
end
/-- The codes that are kept beside are those of the table, as far as these are not old. -/
structure CodesOk (lo : Nat → Int) (co : Nat → Int → Option Int) (cd : Int → Int → Int) : Prop where
  has : ∀ j : Nat, j < 4 → ∀ k n, co j k = some n → cd (j : Int) k = n
  old : ∀ f s, cd f s ≠ 0 → 0 ≤ f ∧ f < 4 ∧ (s < lo f.toNat ∨ co f.toNat s = some (cd f s))
theorem codes_new : CodesOk (fun _ => 1) (fun _ _ => none) (fun _ _ => 0) := ⟨fun j _ k n h => by simp at h, fun f s h => absurd rfl h⟩
theorem ask_parts {lo : Nat → Int} {co : Nat → Int → Option Int} {src seq low : Int} (h : (askR lo co src seq low).1 ≠ 0) : askR lo co src seq low = ((if seq < lo src.toNat then (1, 0) else match co src.toNat seq with | some n => (2, n) | none => (3, 0)) : Int × Int) := by
  unfold askR at h ⊢
  by_cases hb : src < 0 ∨ 4 ≤ src ∨ low < 1 ∨ seq < low ∨ 1099511627776 < seq ∨ 16 ≤ seq - low
  · rw [if_pos hb] at h; exact absurd rfl h
  · rw [if_neg hb]
    rfl
theorem codes_fresh {lo : Nat → Int} {co : Nat → Int → Option Int} {cd : Int → Int → Int} (h : CodesOk lo co cd) {src seq low : Int} (ha : (askR lo co src seq low).1 = 3) : cd src seq = 0 := by
  have hne : (askR lo co src seq low).1 ≠ 0 := by omega
  obtain ⟨_, hin⟩ := askR_st lo co src seq low
  have hb := hin hne
  rw [ask_parts hne] at ha
  by_cases h1 : seq < lo src.toNat
  · rw [if_pos h1] at ha; simp at ha
  · rw [if_neg h1] at ha
    cases hc : co src.toNat seq with
    | some n => rw [hc] at ha; simp at ha
    | none =>
      by_cases hz : cd src seq = 0
      · exact hz
      · have := (h.old src seq hz).2.2
        rcases this with q | q
        · exact absurd q h1
        · rw [hc] at q; simp at q
theorem codes_known {lo : Nat → Int} {co : Nat → Int → Option Int} {cd : Int → Int → Int} (h : CodesOk lo co cd) {src seq low n : Int} (ha : askR lo co src seq low = (2, n)) : cd src seq = n := by
  have hne : (askR lo co src seq low).1 ≠ 0 := by rw [ha]; simp
  obtain ⟨_, hin⟩ := askR_st lo co src seq low
  have hb := hin hne
  rw [ask_parts hne] at ha
  by_cases h1 : seq < lo src.toNat
  · rw [if_pos h1] at ha; simp at ha
  · rw [if_neg h1] at ha
    cases hc : co src.toNat seq with
    | none => rw [hc] at ha; simp at ha
    | some m =>
      rw [hc] at ha
      have e : m = n := by simpa using ha
      subst e
      have := h.has src.toNat (by omega) seq m hc
      rwa [show ((src.toNat : Nat) : Int) = src by omega] at this
theorem codes_step {lo : Nat → Int} {co : Nat → Int → Option Int} {cd : Int → Int → Int} (h : CodesOk lo co cd) {src seq low n : Int} (h0 : noteE lo co src seq low n = 0) : CodesOk (upLo lo src.toNat low) (upCo lo co src.toNat seq low n) (upd2 cd src seq n) := by
  obtain ⟨hb, hc, h3⟩ := note_zero h0
  have hcd := of_decide_eq_true hc
  have hne : (askR lo co src seq low).1 ≠ 0 := by omega
  have hlo : ¬ seq < lo src.toNat := by
    rw [ask_parts hne] at h3
    intro q
    rw [if_pos q] at h3
    simp at h3
  have hj : ((src.toNat : Nat) : Int) = src := by omega
  refine ⟨fun j hj4 k m hm => ?_, fun f s hf => ?_⟩
  · unfold upCo at hm
    unfold upd2
    by_cases e : j = src.toNat
    · subst e
      rw [if_pos rfl] at hm
      by_cases e2 : k < max (lo src.toNat) low
      · rw [if_pos e2] at hm; simp at hm
      · rw [if_neg e2] at hm
        unfold updI at hm
        by_cases e3 : k = seq
        · rw [if_pos e3] at hm
          obtain rfl := Option.some.inj hm
          rw [if_pos ⟨hj, e3⟩]
        · rw [if_neg e3] at hm
          rw [if_neg (fun q => e3 q.2)]
          exact h.has _ hj4 k m hm
    · rw [if_neg e] at hm
      rw [if_neg (fun q => e (by omega))]
      exact h.has _ hj4 k m hm
  · unfold upd2 at hf ⊢
    unfold upLo upCo
    by_cases q : f = src ∧ s = seq
    · obtain ⟨rfl, rfl⟩ := q
      rw [if_pos (show f = f ∧ s = s from ⟨rfl, rfl⟩)]
      refine ⟨hb.1, hb.2.1, .inr ?_⟩
      rw [if_pos rfl, if_neg (by omega)]
      unfold updI
      rw [if_pos rfl]
    · rw [if_neg q] at hf ⊢
      obtain ⟨f0, f1, f2⟩ := h.old f s hf
      refine ⟨f0, f1, ?_⟩
      by_cases e : f.toNat = src.toNat
      · have e2 : f = src := by omega
        subst e2
        rw [if_pos rfl, if_pos rfl]
        by_cases e3 : s < max (lo f.toNat) low
        · exact .inl e3
        · rw [if_neg e3]
          unfold updI
          rw [if_neg (fun r => q ⟨rfl, r⟩)]
          rcases f2 with f2 | f2
          · omega
          · exact .inr f2
      · rw [if_neg e, if_neg e]
        exact f2
theorem low_up {lo : Nat → Int} {co : Nat → Int → Option Int} (src seq low n : Int) (j : Nat) : lo j ≤ noteLo lo co src seq low n j := by
  unfold noteLo
  by_cases h0 : noteE lo co src seq low n = 0
  · rw [if_pos h0]
    unfold upLo
    by_cases e : j = src.toNat
    · subst e; rw [if_pos rfl]; omega
    · rw [if_neg e]; omega
  · rw [if_neg h0]; omega
/-- How many codes of a source stand in the list. -/
def srcN (L : List S33) (j : Int) : Nat := L.countP fun x => x.f0 == j
theorem asc_len : ∀ (M : List Int) (a : Int) (d : Nat), M.Pairwise (· < ·) → (∀ x ∈ M, a ≤ x ∧ x < a + d) → M.length ≤ d
  | [], _, _, _, _ => Nat.zero_le _
  | x :: M, a, d, h1, h2 => by
    rw [List.pairwise_cons] at h1
    have hx := h2 x (List.mem_cons_self ..)
    obtain ⟨d', rfl⟩ : ∃ d', d = d' + 1 := ⟨d - 1, by omega⟩
    have := asc_len M (a + 1) d' h1.2 fun y hy => by
      have a1 := h1.1 y hy
      have a2 := h2 y (List.mem_cons_of_mem _ hy)
      omega
    rw [List.length_cons]
    omega
theorem srcN_le {lo : Nat → Int} {co : Nat → Int → Option Int} {Ms : Nat → List Int} (h : TOk lo co) (hM : ∀ j, j < 4 → KeysIs (co j) (Ms j)) (i : Int) : srcN (allP co Ms 4) i ≤ 16 := by
  have hz : ∀ (j : Int) (at' : Int → Option Int) (M : List Int), srcN (srcL j at' M) i = if j = i then M.length else 0 := fun j at' M => by
    unfold srcN srcL
    rw [List.countP_map]
    by_cases e : j = i
    · rw [if_pos e, List.countP_eq_length.2]
      intro x hx
      simp [e]
    · rw [if_neg e, List.countP_eq_zero.2]
      intro x hx
      simp [e]
  have hl : ∀ j, j < 4 → (Ms j).length ≤ 16 := fun j hj => asc_len (Ms j) (lo j) 16 (hM j hj).1 fun x hx => by
    obtain ⟨n, hn⟩ := Option.isSome_iff_exists.1 (((hM j hj).2 x).1 hx)
    have := h.cod j hj x n hn
    omega
  have e : srcN (allP co Ms 4) i = srcN (srcL 0 (co 0) (Ms 0)) i + srcN (srcL 1 (co 1) (Ms 1)) i + srcN (srcL 2 (co 2) (Ms 2)) i + srcN (srcL 3 (co 3) (Ms 3)) i := by
    show srcN ([] ++ srcL 0 (co 0) (Ms 0) ++ srcL 1 (co 1) (Ms 1) ++ srcL 2 (co 2) (Ms 2) ++ srcL 3 (co 3) (Ms 3)) i = _
    unfold srcN
    rw [List.countP_append, List.countP_append, List.countP_append, List.nil_append]
  rw [e, hz, hz, hz, hz]
  have h0 := hl 0 (by decide)
  have h1 := hl 1 (by decide)
  have h2 := hl 2 (by decide)
  have h3 := hl 3 (by decide)
  by_cases e0 : (0 : Int) = i
  · rw [if_pos e0, if_neg (by omega), if_neg (by omega), if_neg (by omega)]; omega
  · rw [if_neg e0]
    by_cases e1 : (1 : Int) = i
    · rw [if_pos e1, if_neg (by omega), if_neg (by omega)]; omega
    · rw [if_neg e1]
      by_cases e2 : (2 : Int) = i
      · rw [if_pos e2, if_neg (by omega)]; omega
      · rw [if_neg e2]
        split <;> omega
theorem srcN_take (L : List S33) (i : Nat) (x : S33) (hx : L[i]? = some x) (j : Int) : srcN (L.take (i + 1)) j = srcN (L.take i) j + if x.f0 = j then 1 else 0 := by
  obtain ⟨hi, rfl⟩ := List.getElem?_eq_some_iff.1 hx
  unfold srcN
  rw [List.take_succ_eq_append_getElem hi, List.countP_append, List.countP_singleton]
  by_cases h : L[i].f0 = j
  · rw [if_pos h, if_pos (by simp [h])]
  · rw [if_neg h, if_neg (by simp [h])]
theorem srcN_sub (L : List S33) (i : Nat) (j : Int) : srcN (L.take i) j ≤ srcN L j := (List.take_sublist i L).countP_le
/-- How the map 'many' counts. -/
def cntI (L : List S33) (i : Nat) (m : Int → Option Int) : Prop := ∀ j : Int, (m j).getD 0 = (srcN (L.take i) j : Nat)
end Go.Proofs.Ytboomdjkgheonaa.PSeenPlays
