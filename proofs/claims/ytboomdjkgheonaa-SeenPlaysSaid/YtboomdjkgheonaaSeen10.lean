/- Items that were seen (package seen): what acts make of a table. -/
import Derived.Test.YtboomdjkgheonaaSeen9
import Derived.Test.YtboomdjkgheonaaQ
namespace Go.Proofs.Ytboomdjkgheonaa.PSeenPlays
open Go.RowKit Go.Proofs.YtboomdjkgheonaaW.PrintWords Go.Proofs.YtboomdjkgheonaaW.PrintLast Go.Proofs.YtboomdjkgheonaaW.PrintMore
open Go.Proofs.YtboomdjkgheonaaO
open Go.Maps Go.Sort Go.Shelf
attribute [local go_sem] max2_int min2_int max_two min_two max_three min_three max_four min_four
set_option linter.unusedVariables false
set_option linter.unusedSimpArgs false
def stepT (s : (Nat → Int) × (Nat → Int → Option Int)) (a : S39) : (Nat → Int) × (Nat → Int → Option Int) := (noteLo s.1 s.2 a.f1 a.f2 a.f3 a.f4, noteCo s.1 s.2 a.f1 a.f2 a.f3 a.f4)
def foldT (s : (Nat → Int) × (Nat → Int → Option Int)) (l : List S39) : (Nat → Int) × (Nat → Int → Option Int) := l.foldl stepT s
def isOf (src : Int) (a : S39) : Bool := decide (src < 0) || (a.f1 == src)
theorem foldT_snoc (s : (Nat → Int) × (Nat → Int → Option Int)) (src : Int) (l : List S39) (i : Nat) (x : S39) (hx : l[i]? = some x) : foldT s ((l.take (i + 1)).filter (isOf src)) = if isOf src x = true then stepT (foldT s ((l.take i).filter (isOf src))) x else foldT s ((l.take i).filter (isOf src)) := by
  obtain ⟨hi, rfl⟩ := List.getElem?_eq_some_iff.1 hx
  rw [List.take_succ_eq_append_getElem hi, List.filter_append, List.filter_cons]
  by_cases h : isOf src l[i] = true
  · rw [if_pos h, if_pos h, List.filter_nil]
    unfold foldT
    rw [List.foldl_append]
    rfl
  · rw [if_neg h, if_neg h, List.filter_nil, List.append_nil]
/-- A table whose marks and codes are right ones. -/
structure TOk (lo : Nat → Int) (co : Nat → Int → Option Int) : Prop where
  low : ∀ j, j < 4 → 1 ≤ lo j ∧ lo j ≤ 1099511627776
  cod : ∀ j, j < 4 → ∀ k n, co j k = some n → lo j ≤ k ∧ k < lo j + 16 ∧ codeB n = true
theorem tok_new : TOk (fun _ => 1) (fun _ _ => none) := ⟨fun j _ => by omega, fun j _ k n h => by simp at h⟩
theorem note_zero {lo : Nat → Int} {co : Nat → Int → Option Int} {src seq low n : Int} (h : noteE lo co src seq low n = 0) : (0 ≤ src ∧ src < 4 ∧ 1 ≤ low ∧ low ≤ seq ∧ seq ≤ 1099511627776 ∧ seq - low < 16) ∧ codeB n = true ∧ (askR lo co src seq low).1 = 3 := by
  obtain ⟨hst, hin⟩ := askR_st lo co src seq low
  unfold noteE at h
  by_cases h1 : (askR lo co src seq low).1 = 0 ∨ codeB n = false
  · rw [if_pos h1] at h; omega
  · rw [if_neg h1] at h
    have h0 : ¬ (askR lo co src seq low).1 = 0 := fun q => h1 (.inl q)
    have hc : codeB n = true := by cases hcb : codeB n with | true => rfl | false => exact absurd (.inr hcb) h1
    by_cases h2 : (askR lo co src seq low).1 = 1
    · rw [if_pos h2] at h; omega
    · rw [if_neg h2] at h
      by_cases h3 : (askR lo co src seq low).1 = 2
      · rw [if_pos h3] at h; omega
      · exact ⟨hin h0, hc, by omega⟩
theorem tok_note {lo : Nat → Int} {co : Nat → Int → Option Int} (h : TOk lo co) (src seq low n : Int) : TOk (noteLo lo co src seq low n) (noteCo lo co src seq low n) := by
  unfold noteLo noteCo
  by_cases h0 : noteE lo co src seq low n = 0
  · rw [if_pos h0, if_pos h0]
    obtain ⟨hb, hc, _⟩ := note_zero h0
    refine ⟨fun j hj => ?_, fun j hj k m hm => ?_⟩
    · have h1 := h.low j hj
      unfold upLo
      by_cases e : j = src.toNat
      · subst e; rw [if_pos rfl]; omega
      · rw [if_neg e]; exact h1
    · unfold upCo at hm
      unfold upLo
      by_cases e : j = src.toNat
      · subst e
        rw [if_pos rfl] at hm ⊢
        by_cases e2 : k < max (lo src.toNat) low
        · rw [if_pos e2] at hm; simp at hm
        · rw [if_neg e2] at hm
          unfold updI at hm
          by_cases e3 : k = seq
          · rw [if_pos e3] at hm
            obtain rfl := Option.some.inj hm
            exact ⟨by omega, by omega, hc⟩
          · rw [if_neg e3] at hm
            have h2 := h.cod _ hj k m hm
            exact ⟨by omega, by omega, h2.2.2⟩
      · rw [if_neg e] at hm ⊢
        exact h.cod j hj k m hm
  · rw [if_neg h0, if_neg h0]; exact h
theorem tok_fold (l : List S39) : ∀ (s : (Nat → Int) × (Nat → Int → Option Int)), TOk s.1 s.2 → TOk (foldT s l).1 (foldT s l).2 := by
  induction l with
  | nil => exact fun s h => h
  | cons a l ih => exact fun s h => ih _ (tok_note h _ _ _ _)
/-- Sources don't see one another. -/
theorem step_other (s : (Nat → Int) × (Nat → Int → Option Int)) (a : S39) (h : a.f1 ≠ 0) : (stepT s a).1 0 = s.1 0 ∧ (stepT s a).2 0 = s.2 0 := by
  unfold stepT noteLo noteCo
  by_cases h0 : noteE s.1 s.2 a.f1 a.f2 a.f3 a.f4 = 0
  · simp only [if_pos h0]
    obtain ⟨hb, _⟩ := note_zero h0
    have e : ¬ (0 = a.f1.toNat) := by omega
    exact ⟨by unfold upLo; rw [if_neg e], by funext k; unfold upCo; rw [if_neg e]⟩
  · simp only [if_neg h0]; exact ⟨trivial, trivial⟩
theorem ask_zero {s t : (Nat → Int) × (Nat → Int → Option Int)} (h1 : s.1 0 = t.1 0) (h2 : s.2 0 = t.2 0) (seq low : Int) : askR s.1 s.2 0 seq low = askR t.1 t.2 0 seq low := by
  unfold askR
  rw [show (0 : Int).toNat = 0 from rfl, h1, h2]
theorem step_same (s t : (Nat → Int) × (Nat → Int → Option Int)) (a : S39) (h : a.f1 = 0) (h1 : s.1 0 = t.1 0) (h2 : s.2 0 = t.2 0) : (stepT s a).1 0 = (stepT t a).1 0 ∧ (stepT s a).2 0 = (stepT t a).2 0 := by
  obtain ⟨f0, f1, f2, f3, f4⟩ := a
  simp only at h
  subst h
  have e : noteE s.1 s.2 0 f2 f3 f4 = noteE t.1 t.2 0 f2 f3 f4 := by unfold noteE; rw [ask_zero h1 h2]
  show noteLo s.1 s.2 0 f2 f3 f4 0 = noteLo t.1 t.2 0 f2 f3 f4 0 ∧ noteCo s.1 s.2 0 f2 f3 f4 0 = noteCo t.1 t.2 0 f2 f3 f4 0
  unfold noteLo noteCo
  rw [e]
  by_cases h0 : noteE t.1 t.2 0 f2 f3 f4 = 0
  · rw [if_pos h0, if_pos h0, if_pos h0, if_pos h0]
    refine ⟨?_, ?_⟩
    · show upLo s.1 0 f3 0 = upLo t.1 0 f3 0
      unfold upLo; rw [if_pos rfl, if_pos rfl, h1]
    · funext k
      show upCo s.1 s.2 0 f2 f3 f4 0 k = upCo t.1 t.2 0 f2 f3 f4 0 k
      unfold upCo updI; rw [if_pos rfl, if_pos rfl, h1, h2]
  · rw [if_neg h0, if_neg h0, if_neg h0, if_neg h0]; exact ⟨h1, h2⟩
theorem fold_zero (l : List S39) : ∀ (s t : (Nat → Int) × (Nat → Int → Option Int)), s.1 0 = t.1 0 → s.2 0 = t.2 0 → (foldT s l).1 0 = (foldT t (l.filter (isOf 0))).1 0 ∧ (foldT s l).2 0 = (foldT t (l.filter (isOf 0))).2 0 := by
  induction l with
  | nil => exact fun s t h1 h2 => ⟨h1, h2⟩
  | cons a l ih =>
    intro s t h1 h2
    rw [List.filter_cons]
    by_cases h : a.f1 = 0
    · rw [if_pos (by unfold isOf; simp [h])]
      have h3 := step_same s t a h h1 h2
      exact ih _ _ h3.1 h3.2
    · rw [if_neg (by unfold isOf; simp [h])]
      have h3 := step_other s a h
      exact ih (stepT s a) t (h3.1.trans h1) (h3.2.trans h2)
theorem filter_all (l : List S39) : l.filter (isOf (-1)) = l := List.filter_eq_self.2 fun a _ => rfl
/-! All codes: what stands in the list, and in which row. -/
theorem allP_mem {co : Nat → Int → Option Int} {Ms : Nat → List Int} : ∀ (n : Nat) (x : S33), x ∈ allP co Ms n ↔ ∃ j : Nat, j < n ∧ x.f0 = j ∧ x.f1 ∈ Ms j ∧ x.f2 = (co j x.f1).getD 0
  | 0, x => by simp [allP]
  | n + 1, x => by
    rw [allP, List.mem_append, allP_mem n x]
    constructor
    · rintro (⟨j, h1, h2⟩ | h)
      · exact ⟨j, by omega, h2⟩
      · obtain ⟨k, hk, rfl⟩ := List.mem_map.1 h
        exact ⟨n, by omega, rfl, hk, rfl⟩
    · rintro ⟨j, h1, h2, h3, h4⟩
      by_cases e : j = n
      · subst e
        exact .inr (List.mem_map.2 ⟨x.f1, h3, by rw [← h2, ← h4]⟩)
      · exact .inl ⟨j, by omega, h2, h3, h4⟩
theorem allP_asc {co : Nat → Int → Option Int} {Ms : Nat → List Int} (hM : ∀ j, j < 4 → KeysIs (co j) (Ms j)) : ∀ n, n ≤ 4 → (allP co Ms n).Pairwise ltE
  | 0, _ => List.Pairwise.nil
  | n + 1, hn => by
    rw [allP, List.pairwise_append]
    refine ⟨allP_asc hM n (by omega), ?_, fun x hx y hy => ?_⟩
    · exact List.pairwise_map.2 ((hM n (by omega)).1.imp fun h => .inr ⟨rfl, h⟩)
    · obtain ⟨j, h1, h2, _⟩ := (allP_mem n x).1 hx
      obtain ⟨k, hk, rfl⟩ := List.mem_map.1 hy
      exact .inl (show x.f0 < (n : Int) by omega)
theorem allP_co {co : Nat → Int → Option Int} {Ms : Nat → List Int} (hM : ∀ j, j < 4 → KeysIs (co j) (Ms j)) (x : S33) (hx : x ∈ allP co Ms 4) : ∃ j : Nat, j < 4 ∧ x.f0 = j ∧ co j x.f1 = some x.f2 := by
  obtain ⟨j, h1, h2, h3, h4⟩ := (allP_mem 4 x).1 hx
  refine ⟨j, h1, h2, ?_⟩
  obtain ⟨n, hn⟩ := Option.isSome_iff_exists.1 (((hM j h1).2 x.f1).1 h3)
  rw [h4, hn]; rfl
theorem ofCo_app (l : List S33) (x : S33) : ofCo (l ++ [x]) = setCo (ofCo l) x.f0.toNat x.f1 x.f2 := by unfold ofCo; rw [List.foldl_append]; rfl
theorem ofCo_is (l : List S33) (j : Nat) (k : Int) : (∀ n, (∃ x ∈ l, x.f0.toNat = j ∧ x.f1 = k) → (∀ x ∈ l, x.f0.toNat = j → x.f1 = k → x.f2 = n) → ofCo l j k = some n) ∧ ((∀ x ∈ l, ¬ (x.f0.toNat = j ∧ x.f1 = k)) → ofCo l j k = none) := by
  rw [← List.reverse_reverse l]
  generalize l.reverse = m
  induction m with
  | nil => exact ⟨fun n h => by obtain ⟨x, hx, _⟩ := h; simp at hx, fun _ => rfl⟩
  | cons x m ih =>
    rw [List.reverse_cons, ofCo_app]
    generalize m.reverse = l at ih ⊢
    have e1 : ∀ v, (x.f0.toNat = j ∧ x.f1 = k) → setCo (ofCo l) x.f0.toNat x.f1 v j k = some v := fun v h => by
      obtain ⟨rfl, rfl⟩ := h
      unfold setCo updI; rw [if_pos rfl, if_pos rfl]
    have e2 : ∀ v, ¬ (x.f0.toNat = j ∧ x.f1 = k) → setCo (ofCo l) x.f0.toNat x.f1 v j k = ofCo l j k := fun v h => by
      unfold setCo updI
      by_cases q : j = x.f0.toNat
      · rw [if_pos q, if_neg (fun e => h ⟨q.symm, e.symm⟩), q]
      · rw [if_neg q]
    constructor
    · intro n h1 h2
      by_cases q : x.f0.toNat = j ∧ x.f1 = k
      · rw [e1 _ q]
        rw [h2 x (by simp) q.1 q.2]
      · rw [e2 _ q]
        refine ih.1 n ?_ fun y hy => h2 y (by simp [hy])
        obtain ⟨y, hy, hyk⟩ := h1
        rcases List.mem_append.1 hy with hy | hy
        · exact ⟨y, hy, hyk⟩
        · rw [List.mem_singleton] at hy; subst hy; exact absurd hyk q
    · intro h
      rw [e2 _ (h x (by simp))]
      exact ih.2 fun y hy => h y (by simp [hy])
/-- A table made of a table's lows and codes is that table. -/
theorem ofCo_all {co : Nat → Int → Option Int} {Ms : Nat → List Int} (hM : ∀ j, j < 4 → KeysIs (co j) (Ms j)) (j : Nat) (hj : j < 4) (k : Int) : ofCo (allP co Ms 4) j k = co j k := by
  cases hc : co j k with
  | none =>
    refine (ofCo_is _ j k).2 fun x hx hk => ?_
    obtain ⟨i, hi, h0, h1⟩ := allP_co hM x hx
    rw [h0, Int.toNat_natCast] at hk
    obtain ⟨rfl, rfl⟩ := hk
    rw [hc] at h1
    simp at h1
  | some n =>
    refine (ofCo_is _ j k).1 n ⟨⟨j, k, n⟩, (allP_mem 4 _).2 ⟨j, hj, rfl, ((hM j hj).2 k).2 (by rw [hc]; rfl), by rw [hc]; rfl⟩, Int.toNat_natCast j, rfl⟩ fun x hx h0 h1 => ?_
    obtain ⟨i, hi, h2, h3⟩ := allP_co hM x hx
    rw [h2, Int.toNat_natCast] at h0
    subst h0 h1
    rw [hc] at h3
    exact (Option.some.inj h3).symm
theorem ofOk_all {lo : Nat → Int} {co : Nat → Int → Option Int} {Ms : Nat → List Int} (h : TOk lo co) (hM : ∀ j, j < 4 → KeysIs (co j) (Ms j)) : OfOk [lo 0, lo 1, lo 2, lo 3] (allP co Ms 4) := by
  have hlf : ∀ j, j < 4 → lowsF [lo 0, lo 1, lo 2, lo 3] j = lo j := fun j hj => by
    rcases (show j = 0 ∨ j = 1 ∨ j = 2 ∨ j = 3 by omega) with rfl | rfl | rfl | rfl <;> rfl
  refine ⟨rfl, fun x hx => ?_, fun i x hx => ⟨?_, fun p hp hpx => ?_⟩⟩
  · simp only [List.mem_cons, List.not_mem_nil, or_false] at hx
    rcases hx with rfl | rfl | rfl | rfl
    · exact h.low 0 (by decide)
    · exact h.low 1 (by decide)
    · exact h.low 2 (by decide)
    · exact h.low 3 (by decide)
  · obtain ⟨j, hj, h0, h1⟩ := allP_co hM x (List.mem_of_getElem? hx)
    have h2 := h.cod j hj _ _ h1
    have h3 := hlf j hj
    have h4 : x.f0.toNat = j := by rw [h0, Int.toNat_natCast]
    exact ⟨by omega, by omega, h2.2.2, by rw [h4, h3]; exact h2.1, by rw [h4, h3]; exact h2.2.1⟩
  · obtain ⟨hi, rfl⟩ := List.getElem?_eq_some_iff.1 hx
    obtain ⟨hi2, rfl⟩ := List.getElem?_eq_some_iff.1 hpx
    exact List.pairwise_iff_getElem.1 (allP_asc hM 4 (Nat.le_refl _)) (i - 1) i hi2 hi (by omega)
theorem same_l0 (l : List S33) (hm : l.length ≤ 9223372036854775806) : ∀ (d i k : Nat), i + d = l.length → d < k → meterlaw11_same.l0 k l l (i : Int) = some true := by
  intro d
  induction d with
  | zero =>
    intro i k h hk
    obtain ⟨k, rfl⟩ : ∃ z, k = z + 1 := ⟨k - 1, by omega⟩
    simp only [meterlaw11_same.l0]
    rw [if_neg (by omega)]
  | succ d ih =>
    intro i k h hk
    obtain ⟨k, rfl⟩ : ∃ z, k = z + 1 := ⟨k - 1, by omega⟩
    have hn := ih (i + 1) k (by omega) (by omega)
    simp only [meterlaw11_same.l0]
    rw [if_pos (by omega), if_pos (by omega), if_pos (by omega), if_neg (by simp), show wrap64 ((i : Int) + 1) = ((i + 1 : Nat) : Int) by unfold wrap64; omega, hn]
theorem same_f (l : List S33) (hm : l.length ≤ 9223372036854775806) : meterlaw11_same.f (l.length + 1) l l = some true := by
  unfold meterlaw11_same.f
  rw [if_pos rfl]
  exact same_l0 l hm l.length 0 _ (by omega) (by omega)
section
variable {w0 w w' : World} {R : List Asn} {g N b : Nat} {lo : Nat → Int} {co : Nat → Int → Option Int}
theorem seen_keys (h : Own w0 w (SeenA g N lo co :: R)) : ∃ Ms : Nat → List Int, (∀ j, j < 4 → KeysIs (co j) (Ms j)) ∧ (allP co Ms 4).length ≤ 4 * N := by
  obtain ⟨b0, b1, b2, b3, h1⟩ := seen_open h
  obtain ⟨M0, k0, _⟩ := int_keys h1.r1
  obtain ⟨M1, k1, _⟩ := int_keys h1.r2
  obtain ⟨M2, k2, _⟩ := int_keys h1.r3
  obtain ⟨M3, k3, _⟩ := int_keys h1.r4
  refine ⟨fun j => match j with | 0 => M0 | 1 => M1 | 2 => M2 | _ => M3, fun j hj => ?_, ?_⟩
  · rcases (show j = 0 ∨ j = 1 ∨ j = 2 ∨ j = 3 by omega) with rfl | rfl | rfl | rfl
    · exact k0
    · exact k1
    · exact k2
    · exact k3
  · have e0 := int_klen h1.r1 k0
    have e1 := int_klen h1.r2 k1
    have e2 := int_klen h1.r3 k2
    have e3 := int_klen h1.r4 k3
    simp only [allP, List.length_append, srcL_len, List.length_nil]
    omega
theorem act_at {w v : World} {ad : Addr} {n : Nat} {l : List S39} (hr : Kd.C k39 w (some ad) n l) (hb : Below w.heap.size w v) (k : Nat) (hk : k < n) (f0 : Bool) (f1 f2 f3 f4 : Int) (hx : l[k]? = some ⟨f0, f1, f2, f3, f4⟩) :
    v.cell? (ad.add (k * 5)) = some (.bool f0) ∧ v.cell? ⟨(ad.add (k * 5)).block, (ad.add (k * 5)).off + 1, none⟩ = some (.int .i64 f1) ∧ v.cell? ⟨(ad.add (k * 5)).block, (ad.add (k * 5)).off + 2, none⟩ = some (.int .i64 f2) ∧ v.cell? ⟨(ad.add (k * 5)).block, (ad.add (k * 5)).off + 3, none⟩ = some (.int .i64 f3) ∧ v.cell? ⟨(ad.add (k * 5)).block, (ad.add (k * 5)).off + 4, none⟩ = some (.int .i64 f4) := by
  obtain ⟨ad', e, h0, h1, h2, h3, h4⟩ := at_T39 hr (k : Int) (by omega) (by omega)
  cases e
  have hrd : rd_T39 l (k : Int) = ⟨f0, f1, f2, f3, f4⟩ := by unfold rd_T39; rw [Int.toNat_natCast, List.getD_eq_getElem?_getD, hx]; rfl
  rw [hrd, Int.toNat_natCast] at h0 h1 h2 h3 h4
  have hlt : (ad.add (k * 5)).block < w.heap.size := World.block_lt_of_cell? w _ h0
  exact ⟨(hb.cell hlt).trans h0, (hb.cell (p := ⟨_, _, none⟩) hlt).trans h1, (hb.cell (p := ⟨_, _, none⟩) hlt).trans h2, (hb.cell (p := ⟨_, _, none⟩) hlt).trans h3, (hb.cell (p := ⟨_, _, none⟩) hlt).trans h4⟩
set_option maxHeartbeats 8000000 in
set_option maxRecDepth 100000 in
theorem plays_calls (h : Own w0 w (SeenA g N lo co :: R)) (A : Option Addr) (c : Nat) (l : List S39) (src : Int) (hr : Kd.C k39 w0 A l.length l) (hQ : ∀ x ∈ l, Q39 x) (hN : N + l.length ≤ 1000000000) :
    Calls Try.prog 21 #[.pointer (some ⟨g, 0, none⟩), .slice A l.length c, .int .i64 src] w fun e w' => e = .returned (.tuple #[]) ∧ Own w0 w' (SeenA g (N + l.length) (foldT (lo, co) (l.filter (isOf src))).1 (foldT (lo, co) (l.filter (isOf src))).2 :: R) := by
  have HR := Aside0.mk hr
  have HQ := Aside0.mk hQ
  have H := Aside0.mk h
  clear hr hQ h
  go_enter Try.func21, Try.ntmps21
  go_wp2
  go_loopw [6] (fun v6 wr => ∃ i : Nat, i ≤ l.length ∧ v6 = .int .i64 i ∧ Aside0 (Own w0 wr (SeenA g (N + i) (foldT (lo, co) ((l.take i).filter (isOf src))).1 (foldT (lo, co) ((l.take i).filter (isOf src))).2 :: R))) (fun v6 _ => l.length - (RowKit.intOf v6).toNat)
  case atStart => exact ⟨0, Nat.zero_le _, rfl, H⟩
  case round =>
    obtain ⟨i, hi, rfl, HO⟩ := hrel
    by_cases hlt : i < l.length
    · have hgx := List.getElem?_eq_getElem hlt
      obtain ⟨x, hx⟩ : ∃ x, l[i] = x := ⟨_, rfl⟩
      rw [hx] at hgx
      have hq := HQ.out x (List.mem_of_getElem? hgx)
      obtain ⟨f0, f1, f2, f3, f4⟩ := x
      have hsn := foldT_snoc (lo, co) src l i _ hgx
      rcases A with _ | ad
      · exact absurd (HR.out.2.2 (by omega)) (by rintro ⟨_, h, _⟩; cases h)
      obtain ⟨a0, a1, a2, a3, a4⟩ := act_at HR.out HO.out.bel i hlt f0 f1 f2 f3 f4 hgx
      have HW2 : Aside0 (wfI f2) := ⟨hq.2.2.1⟩
      have HW4 : Aside0 (wfI f4) := ⟨hq.2.2.2.2⟩
      have hi9 : N + i < 1000000000 := by omega
      have H9 := Aside0.mk hi9
      clear a0 hgx hx hq hi9
      obtain ⟨s, hs⟩ : ∃ s, s = foldT (lo, co) ((l.take i).filter (isOf src)) := ⟨_, rfl⟩
      rw [← hs] at hsn HO
      clear hs
      have HSN := Aside0.mk hsn
      clear hsn
      by_cases hof : isOf src ⟨f0, f1, f2, f3, f4⟩ = true
      · have HE := Aside0.mk (HSN.out.trans (if_pos hof))
        by_cases c0 : src < 0
        · have d0 : decide (src < 0) = true := decide_eq_true c0
          clear hof
          go_wp2
          refine tail_drew 21 (by kernel_rfl) (by kernel_rfl) wr.drew (Lib.hid rfl) ?_
          simp only [List.take_succ_cons, List.take_zero, List.drop_succ_cons, List.drop_zero]
          repeat ((with_reducible refine wpStill_step (fun K hK => ?_)); go_simp; (with_reducible refine hK _ ?_); clear hK K)
          with_reducible refine wpStill_nil ?_
          go_wp2_with (go_at_call 10; (with_reducible refine (SeenNote HO.out.drew f1 f2 f3 f4 HW2.out HW4.out H9.out).mono ?_); rintro e w6 ⟨rfl, h⟩; have H6 := Aside0.mk h; clear h)
          go_roundw
          case rel => exact ⟨i + 1, by omega, by first | rfl | go_num, ⟨by rw [HE.out]; exact H6.out⟩⟩
          case measure => first | (simp [RowKit.intOf]; done) | (simp [RowKit.intOf]; omega)
        · have d0 : decide (src < 0) = false := decide_eq_false c0
          have d1 : (f1 == src) = true := by unfold isOf at hof; rw [d0, Bool.false_or] at hof; exact hof
          clear hof
          go_wp2
          refine tail_drew 21 (by kernel_rfl) (by kernel_rfl) wr.drew (Lib.hid rfl) ?_
          simp only [List.take_succ_cons, List.take_zero, List.drop_succ_cons, List.drop_zero]
          repeat ((with_reducible refine wpStill_step (fun K hK => ?_)); go_simp; (with_reducible refine hK _ ?_); clear hK K)
          with_reducible refine wpStill_nil ?_
          go_wp2_with (go_at_call 10; (with_reducible refine (SeenNote HO.out.drew f1 f2 f3 f4 HW2.out HW4.out H9.out).mono ?_); rintro e w6 ⟨rfl, h⟩; have H6 := Aside0.mk h; clear h)
          go_roundw
          case rel => exact ⟨i + 1, by omega, by first | rfl | go_num, ⟨by rw [HE.out]; exact H6.out⟩⟩
          case measure => first | (simp [RowKit.intOf]; done) | (simp [RowKit.intOf]; omega)
      · have HE := Aside0.mk (HSN.out.trans (if_neg hof))
        have hno : decide (src < 0) = false ∧ (f1 == src) = false := by
          unfold isOf at hof
          cases hd : decide (src < 0) <;> cases he : (f1 == src) <;> simp [hd, he] at hof ⊢
        obtain ⟨d0, d1⟩ := hno
        clear hof a2 a3 a4
        go_wp2
        go_roundw
        case rel => exact ⟨i + 1, by omega, by first | rfl | go_num, ⟨by rw [HE.out]; exact seen_mono HO.out (by omega)⟩⟩
        case measure => first | (simp [RowKit.intOf]; done) | (simp [RowKit.intOf]; omega)
    · obtain rfl : i = l.length := by omega
      have HZ : Aside0 (Own w0 wr (SeenA g (N + l.length) (foldT (lo, co) (l.filter (isOf src))).1 (foldT (lo, co) (l.filter (isOf src))).2 :: R)) := ⟨by have := HO.out; rwa [List.take_length] at this⟩
      go_wp2
      go_end0
      exact ⟨rfl, HZ.out⟩
end
end Go.Proofs.Ytboomdjkgheonaa.PSeenPlays
