/- Items that were seen (package seen): Lows; the keys of a map, sorted; Twin. -/
import Derived.Test.YtboomdjkgheonaaSeen5
import Derived.Lib.SliceRun
namespace Go.Proofs.Ytboomdjkgheonaa.PSeenPlays
open Go.RowKit Go.Proofs.YtboomdjkgheonaaW.PrintWords Go.Proofs.YtboomdjkgheonaaW.PrintLast Go.Proofs.YtboomdjkgheonaaW.PrintMore
open Go.Proofs.YtboomdjkgheonaaO
open Go.Maps Go.Sort Go.Shelf
attribute [local go_sem] max2_int min2_int max_two min_two max_three min_three max_four min_four
set_option linter.unusedVariables false
set_option linter.unusedSimpArgs false
theorem infoInt : (Try.prog.info? 3).map (fun i => (i.zero, i.size, i.bytes)) = some (some (.int .i64 0), 1, 8) := by kernel_rfl
set_option maxHeartbeats 4000000 in
theorem clone_some (w : World) (a : Addr) (c : Nat) (l : List Int) (hr : Kd.C (Kd.int .i64) w (some a) l.length l) (hl : l.length * 8 ≤ 140737488355328) :
    Calls Try.prog 26 #[.slice (some a) l.length c] w fun e w' => ∃ v0_ : Value, e = .returned v0_ ∧ Kd.R (Kd.int .i64) 3 w' w.heap.size (fun _ => True) v0_ l ∧ Below w.heap.size w w' := by
  have HR := Aside0.mk hr
  clear hr
  have kn := fun (W : World) => Lib.run_eql_slice_nil (P := Try.prog) W 28 3 (some a) l.length c 0 0 Try.underlying28
  go_enter Try.func26, Try.ntmps26
  go_wp2_with (first | ((with_reducible refine gate_dst (N := 5) rfl ?_); refine Kd.R_lit (Kd.int .i64) _ 3 ?hg (N := 5) ?hd (xs := ([] : List Int)) (inner := []) (ok := fun _ => True) (okp := fun _ => True) ?hr ?hp (fun _ hk => hk) trivial (Below.refl w.heap.size w) (Nat.le_refl _) (by simp) ?_; (case hd => rfl); (case hg => rfl); (case hr => first | (go_simp; done) | (go_simp; rfl)); (case hp => exact (Reps.none _ _)); intro v1 w1 ho hb hg_ hnew_; clear hg_ hnew_; have HO := Aside0.mk ho; have HB := Aside0.mk hb; clear ho hb) | ((with_reducible refine gate_dst (N := 7) rfl ?_); refine Kd.R_append_rows (Kd.int .i64) (w0 := w) w.heap.size rfl (.tmp 5) (.tmp 6) 28 3 (.int .i64 0) 8 rfl Try.underlying28 infoInt rfl (by decide) (by omega) v1 [] l _ _ _ (fun _ => True) (fun _ => False) rfl rfl HO.out (Kd.C_below HR.out HB.out) (fun _ _ h => h) (fun _ h => h.elim) (fun _ _ => trivial) HB.out HB.out.size (by simpa using hl) ?_; intro v2 w2 ho2 hb2 _ _))
  refine bodyPost_ret (v := v2) ?_ rfl ⟨v2, rfl, by simpa using ho2, hb2⟩
  simp [results, Try.results26, go_sem]
theorem asc_uniq : ∀ {M N : List Int}, M.Pairwise (· < ·) → N.Pairwise (· < ·) → (∀ x, x ∈ M ↔ x ∈ N) → M = N
  | [], [], _, _, _ => rfl
  | [], y :: N, _, _, h => absurd ((h y).2 (List.mem_cons_self ..)) (by simp)
  | x :: M, [], _, _, h => absurd ((h x).1 (List.mem_cons_self ..)) (by simp)
  | x :: M, y :: N, h1, h2, h => by
    rw [List.pairwise_cons] at h1 h2
    have hxy : x = y := by
      have a1 := (h x).1 (List.mem_cons_self ..)
      have a2 := (h y).2 (List.mem_cons_self ..)
      rcases List.mem_cons.1 a1 with e | a1
      · exact e
      rcases List.mem_cons.1 a2 with e | a2
      · exact e.symm
      have := h2.1 x a1
      have := h1.1 y a2
      omega
    subst hxy
    congr 1
    refine asc_uniq h1.2 h2.2 fun z => ⟨fun hz => ?_, fun hz => ?_⟩
    · rcases List.mem_cons.1 ((h z).1 (List.mem_cons_of_mem _ hz)) with e | q
      · have := h1.1 z hz
        omega
      · exact q
    · rcases List.mem_cons.1 ((h z).2 (List.mem_cons_of_mem _ hz)) with e | q
      · have := h2.1 z hz
        omega
      · exact q
theorem sort_ex : ∀ K : List Int, ∃ M : List Int, M.Pairwise (· < ·) ∧ ∀ x, x ∈ M ↔ x ∈ K
  | [] => ⟨[], List.Pairwise.nil, fun _ => Iff.rfl⟩
  | y :: K => by
    obtain ⟨M, h1, h2⟩ := sort_ex K
    by_cases hy : y ∈ M
    · exact ⟨M, h1, fun x => ⟨fun h => List.mem_cons_of_mem _ ((h2 x).1 h), fun h => by
        rcases List.mem_cons.1 h with rfl | h
        · exact hy
        · exact (h2 x).2 h⟩⟩
    · refine ⟨M.filter (· < y) ++ y :: M.filter (y < ·), ?_, fun x => ?_⟩
      · rw [List.pairwise_append]
        refine ⟨h1.filter _, List.pairwise_cons.2 ⟨fun a ha => by simpa using (List.mem_filter.1 ha).2, h1.filter _⟩, fun a ha b hb => ?_⟩
        have ha := (List.mem_filter.1 ha).2
        have ha : a < y := by simpa using ha
        rcases List.mem_cons.1 hb with rfl | hb
        · exact ha
        · have hb := (List.mem_filter.1 hb).2
          have hb : y < b := by simpa using hb
          omega
      · rw [List.mem_append, List.mem_cons, List.mem_filter, List.mem_filter, List.mem_cons, ← h2 x]
        constructor
        · rintro (h | h | h)
          · exact .inr h.1
          · exact .inl h
          · exact .inr h.1
        · rintro (h | h)
          · exact .inr (.inl h)
          · rcases Int.lt_trichotomy x y with q | q | q
            · exact .inl ⟨h, by simpa using q⟩
            · exact .inr (.inl q)
            · exact .inr (.inr ⟨h, by simpa using q⟩)
theorem int_at {w : World} {A : Option Addr} {l : List Int} (hC : Kd.C (Kd.int .i64) w A l.length l) (j : Nat) (x : Int) (h : l[j]? = some x) : ∃ ad, A = some ad ∧ w.cell? (ad.add j) = some (.int .i64 x) := by
  obtain ⟨hjl, _⟩ := List.getElem?_eq_some_iff.1 h
  obtain ⟨ad, c9, e, hK, h7, hc9⟩ := Kd.C_get hC 0 (j : Int) (by omega) (by omega)
  refine ⟨ad, e, ?_⟩
  have hrd : c9 = [.int .i64 (l.getD ((j : Int)).toNat 0)] := h7
  subst hrd
  have := hc9 0 _ rfl
  rw [Int.toNat_natCast, List.getD_eq_getElem?_getD, h] at this
  have e2 : j * (Kd.int .i64).sz + 0 = j := by show j * 1 + 0 = j; omega
  rw [e2] at this
  exact this
theorem own_int_at {w0 w : World} {R : List Asn} {A : Option Addr} {c n : Nat} {l : List Int} {e : TypeId} (h : Own w0 w (Row (Kd.int .i64) e (.slice A n c) l :: R)) (j : Nat) (x : Int) (hx : l[j]? = some x) : ∃ ad, A = some ad ∧ w.cell? (ad.add j) = some (.int .i64 x) := by
  obtain ⟨A2, c2, e2, _, hC⟩ := h.row_reads
  cases e2
  exact int_at hC j x hx
/-- A map's keys, ascending. -/
def KeysIs (at' : Int → Option Int) (M : List Int) : Prop := M.Pairwise (· < ·) ∧ ∀ x, x ∈ M ↔ (at' x).isSome = true
theorem KeysIs.uniq {at' : Int → Option Int} {M N : List Int} (h : KeysIs at' M) (g : KeysIs at' N) : M = N := asc_uniq h.1 g.1 fun x => (h.2 x).trans (g.2 x).symm
theorem sortsA (m : Nat) : AnyZI.SortsIn Try.prog Try.sortedA_ren Fence.wide m :=
  ⟨fun blk off cap ss W hH hblk hsz => callsIn_wide.2 (AnyM.slices_Sort_int Try.sortA blk off cap ss W hH hblk hsz),
   fun p cap W => callsIn_wide.2 (AnyM.slices_Sort_int_none Try.sortA p cap W)⟩
section
variable {w0 w w' : World} {R : List Asn} {g N b : Nat} {at' : Int → Option Int} {lo : Nat → Int} {co : Nat → Int → Option Int}
theorem int_keys (h : Own w0 w (IntM b N at' :: R)) : ∃ M, KeysIs at' M ∧ ∃ D : DataW Unit, w.ownsMap Try.prog 3 (plainElem (H := Unit) Try.prog 3) b N D ∧ M.Perm (intKeys D) := by
  obtain ⟨D, ho, hd⟩ := int_out h
  obtain ⟨M, h1, h2⟩ := sort_ex (intKeys D)
  have hW := fun x hx => intKeys_wf (x := x) ho Try.underlying3 hx
  obtain ⟨es, hDe, hpw, _⟩ := ho.entries plaw
  obtain ⟨es', hDe', hko⟩ := ho.keysOf
  obtain rfl : es = es' := by rw [hDe] at hDe'; simpa using hDe'
  subst hDe
  have hk : ∀ p ∈ es, ∃ x, p.1 = .int .i64 x := fun p hp => by obtain ⟨v, hv⟩ := hko p hp; obtain ⟨x, _, hx, _⟩ := Maps.keyOf_i64 Try.underlying3 hv; exact ⟨x, hx⟩
  have hin : ∀ x, x ∈ intKeys (DataW.map es) ↔ Maps.has (DataW.map es) (.int .i64 x) = true := fun x => by
    rw [Maps.has_eq, List.any_eq_true]
    constructor
    · intro hx
      obtain ⟨p, hp, hpx⟩ := List.mem_map.1 hx
      obtain ⟨a, ha⟩ := hk p hp
      refine ⟨p, hp, ?_⟩
      rw [ha] at hpx ⊢
      simpa [Lit.sameKey, Go.intOf] using hpx
    · rintro ⟨p, hp, hs⟩
      obtain ⟨a, ha⟩ := hk p hp
      rw [ha] at hs
      exact List.mem_map.2 ⟨p, hp, by rw [ha]; simpa [Lit.sameKey, Go.intOf] using hs⟩
  have hmem : ∀ x, x ∈ M ↔ (at' x).isSome = true := fun x => by
    rw [h2]
    constructor
    · intro hx
      rw [← hd.has x (hW x hx)]
      exact (hin x).1 hx
    · intro hx
      have hw := hd.wf x hx
      rw [← hd.has x hw] at hx
      exact (hin x).2 hx
  exact ⟨M, ⟨h1, hmem⟩, _, ho, perm_intKeys hpw hk (h1.imp fun h => by omega) fun x => (h2 x).trans (hin x)⟩
theorem keys_calls (mb : Option Nat) (W : World) : Calls Try.prog 28 #[.map mb] W fun e w' => e = .returned (.func (.func 34) #[] #[.pointer (some ⟨W.heap.size, 0, none⟩)]) ∧ w' = W.alloc (.cells #[.map mb] 42) :=
  (callsIn_wide (n := 6)).1 (AnyZI.keys_in Try.keysA Fence.wide 6 trivial rfl mb W)
theorem sorted_calls (h : Own w0 w (IntM b N at' :: R)) (hN : N ≤ 1000000000) (M : List Int) (hM : KeysIs at' M) :
    Calls Try.prog 27 #[.func (.func 34) #[] #[.pointer (some ⟨w.heap.size, 0, none⟩)]] (w.alloc (.cells #[.map (some b)] 42)) fun e w' => ∃ A c, e = .returned (.slice A M.length c) ∧ Own w0 w' (Row (Kd.int .i64) 3 (.slice A M.length c) M :: IntM b N at' :: R) := by
  obtain ⟨M', hM', D, hown, hperm⟩ := int_keys h
  obtain rfl := hM.uniq hM'
  have hsz := hown.size_le
  have hbl := hown.lt
  have hmax : Maps.size D ≤ maxLen := by unfold maxLen; omega
  have hbytes : Maps.size D * 8 ≤ 140737488355328 := by omega
  refine (callsIn_wide (n := 5)).1 ?_
  have hseq : SeqGives Fence.wide 2 Try.prog 34 #[.pointer (some ⟨w.heap.size, 0, none⟩)] encZ (fun ss => ss.Perm (intKeys D)) (Maps.size D) (w.alloc (.cells #[.map (some b)] 42)) :=
    AnyZI.keys_gives (ρ := Try.keysA_ren) { Try.keysA with } Fence.wide _ trivial rfl (by omega) w.heap.size b N D _ (by simp) (by simp) (by
      obtain ⟨es, clock, hb, Ft, hs, hD⟩ := hown
      exact ⟨es, clock, (Below.heap_alloc _ _ b hbl).trans hb, Ft, hs, hD⟩)
  have cS := AnyZI.sorted_in Try.sortedA Fence.wide 5 trivial trivial trivial trivial rfl (by omega) (sortsA _) (enters_of Try.func33 (by kernel_rfl) rfl) 34 #[.pointer (some ⟨w.heap.size, 0, none⟩)] trivial (enters_of Try.func34 (by kernel_rfl) rfl) _ _ hmax hbytes _ hseq
  change CallsIn _ _ Try.prog 27 _ _ _ at cS
  refine cS.mono ?_
  rintro e w' ⟨v, ss, rfl, hp, hr, hnil, hb⟩
  have hS : ss.mergeSort (fun x y => decide (x ≤ y)) = M := by
    have tr : ∀ a b c : Int, decide (a ≤ b) = true → decide (b ≤ c) = true → decide (a ≤ c) = true := fun a b c h1 h2 => by simp only [decide_eq_true_eq] at *; exact Int.le_trans h1 h2
    have totl : ∀ a b : Int, (decide (a ≤ b) || decide (b ≤ a)) = true := fun a b => by simp only [Bool.or_eq_true, decide_eq_true_eq]; exact Int.le_total a b
    refine List.Perm.eq_of_pairwise (le := fun a b => decide (a ≤ b) = true) (fun a b _ _ h1 h2 => ?_) (List.pairwise_mergeSort tr totl ss) (hM.1.imp fun h => by simp only [decide_eq_true_eq]; omega) ((List.mergeSort_perm ss _).trans (hp.trans hperm.symm))
    simp only [decide_eq_true_eq] at h1 h2
    exact Int.le_antisymm h1 h2
  have hlen : ss.length = M.length := by rw [← hS, List.length_mergeSort]
  rw [hS, hlen] at hr
  have h9 := (h.junk (.cells #[.map (some b)] 42)).row_new hb (Kd.R_of_own (enc := Value.int .i64) (ok := fun _ => True) (h1 := fun _ => rfl) hr (fun _ _ => trivial))
  obtain ⟨A, c, rfl, hlc, _⟩ := h9.row_reads
  exact ⟨A, c, rfl, h9⟩
set_option maxHeartbeats 4000000 in
theorem SeenLows (h : Own w0 w (SeenA g N lo co :: R)) : Calls Try.prog 11 #[.pointer (some ⟨g, 0, none⟩)] w fun e w' => ∃ A c, e = .returned (.slice A 4 c) ∧ Own w0 w' (Row (Kd.int .i64) 3 (.slice A 4 c) [lo 0, lo 1, lo 2, lo 3] :: SeenA g N lo co :: R) := by
  obtain ⟨b0, b1, b2, b3, h1⟩ := seen_open h
  have hC : Kd.C (Kd.int .i64) w (some ⟨g, 0, none⟩) [lo 0, lo 1, lo 2, lo 3].length [lo 0, lo 1, lo 2, lo 3] := by
    refine ⟨rfl, by simp, fun _ => ⟨_, rfl, fun j p hj => ⟨[.int .i64 p], rfl, rfl, fun i u hu => ?_⟩⟩⟩
    cases i with
    | succ i => simp at hu
    | zero =>
      have hu : u = .int .i64 p := by simpa using hu.symm
      subst hu
      have hb : ∀ k, w.cell? ⟨g, k, none⟩ = (#[Value.int .i64 (lo 0), .int .i64 (lo 1), .int .i64 (lo 2), .int .i64 (lo 3), .map (some b0), .map (some b1), .map (some b2), .map (some b3)])[k]? := fun k => blk_cell h1.at0 k
      rcases j with _ | _ | _ | _ | j
      · simp at hj; subst hj; exact hb 0
      · simp at hj; subst hj; exact hb 1
      · simp at hj; subst hj; exact hb 2
      · simp at hj; subst hj; exact hb 3
      · simp at hj
  have hc : Calls Try.prog 26 #[.slice (some ⟨g, 0, none⟩) 4 4] w (fun e w' => ∃ v0_ : Value, e = .returned v0_ ∧ Kd.R (Kd.int .i64) 3 w' w.heap.size (fun _ => True) v0_ [lo 0, lo 1, lo 2, lo 3] ∧ Below w.heap.size w w') := clone_some w ⟨g, 0, none⟩ 4 [lo 0, lo 1, lo 2, lo 3] hC (by simp)
  have HC := Aside0.mk hc
  have H := Aside0.mk h
  clear h h1 hC hc
  go_enter Try.func11, Try.ntmps11
  go_wp2_with (go_at_call 26; (with_reducible refine HC.out.mono ?_); rintro e w2 ⟨v, rfl, hr, hb⟩; have h5 := H.out.row_new hb hr; obtain ⟨A, c, e5, _, _⟩ := h5.row_reads; have H5 := Aside0.mk h5; clear hr hb h5; subst e5)
  go_ret
  exact ⟨A, c, rfl, H5.out⟩
end
end Go.Proofs.Ytboomdjkgheonaa.PSeenPlays
