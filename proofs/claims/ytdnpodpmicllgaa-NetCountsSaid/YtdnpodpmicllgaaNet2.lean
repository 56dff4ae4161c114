/- Packets on their way (package net): what is on its way, and what each call does. -/
import Derived.Test.YtdnpodpmicllgaaNet1
import Derived.Deep.DeepCutAuto
import Derived.Deep.Cut
import Derived.Deep.CutRange
import Derived.Deep.CutBlock
import Derived.StillTailTactics
import Derived.Lib.SmallJoins
import Derived.Carry
namespace Go.Proofs.Ytdnpodpmicllgaa.PNetPlays
open Go.RowKit Go.Proofs.YtdnpodpmicllgaaW.PrintWords Go.Proofs.YtdnpodpmicllgaaW.PrintLast Go.Proofs.YtdnpodpmicllgaaW.PrintMore
open Go.Proofs.YtdnpodpmicllgaaO Go.Proofs.YtdnpodpmicllgaaC
attribute [local go_sem] max2_int min2_int max_two min_two max_three min_three max_four min_four
set_option linter.unusedVariables false
set_option linter.unusedSimpArgs false
theorem add_at (b n : Nat) : (⟨b, 0, none⟩ : Addr).add n = ⟨b, n, none⟩ := by unfold Addr.add; split <;> simp [*]
theorem add_at' (b m n : Nat) : (⟨b, m, none⟩ : Addr).add n = ⟨b, m + n, none⟩ := by unfold Addr.add; split <;> simp [*]
section
variable {w0 w w' : World} {R : List Asn}
theorem row_blk {α : Type} {d : Kd α} {e b n c : Nat} {l : List α} (h : Own w0 w (Row d e (.slice (some ⟨b, 0, none⟩) n c) l :: R)) : ∃ cs, Own w0 w (Blk b (.cells cs e (0, 0)) :: R) ∧ ∀ j x, l[j]? = some x → ∃ c', d.K w x c' ∧ ∀ i u, c'[i]? = some u → cs[j * d.sz + i]? = some u := by
  obtain ⟨A, c0, e1, _, hC⟩ := h.row_reads
  cases e1
  obtain ⟨F, hr, hF⟩ := h.row_out
  have hFb : F b := hr.1 b (by simp [Value.ownBlock])
  obtain ⟨inner, ho, _⟩ := hr.2
  obtain ⟨cells, hg⟩ := own_typed ho b (by simp [Value.ownBlock])
  refine ⟨cells, h.step fun F2 hF2 hB2 => ⟨rfl, rfl, rfl, Nat.le_refl _, fun k _ _ => rfl, fun k => k = b, ⟨hg, fun _ => Iff.rfl⟩, fun k hk => .inl (hF2.1.1 k (by rw [hk]; simp [Value.ownBlock]))⟩, fun j x hx => ?_⟩
  obtain ⟨ad, e2, hc⟩ := hC.2.2 (by have := (List.getElem?_eq_some_iff.1 hx).1; omega)
  cases e2
  obtain ⟨cs, _, hK, hcell⟩ := hc j x hx
  refine ⟨cs, hK, fun i u hu => ?_⟩
  have h1 := hcell i u hu
  rw [add_at] at h1
  exact (blk_cell hg _).symm.trans h1
theorem row_form' {α : Type} {d : Kd α} {e : Nat} {v : Value} {ys : List α} (h : Own w0 w (Row d e v ys :: R)) (hp : 0 < ys.length) : ∃ b c, v = .slice (some ⟨b, 0, none⟩) ys.length c := by
  obtain ⟨F, hr, _⟩ := h.row_out
  obtain ⟨inner, hi⟩ := Kd.R_own hr
  exact Go.Joins.ownsRow_form hi hp
theorem row_C {α : Type} {d : Kd α} {e n c : Nat} {A : Option Addr} {xs : List α} (h : Own w0 w (Row d e (.slice A n c) xs :: R)) : Kd.C d w A xs.length xs := by
  obtain ⟨A', c', e1, _, hC⟩ := h.row_reads
  cases e1
  exact hC
theorem row_len {α : Type} {d : Kd α} {e n c : Nat} {A : Option Addr} {xs : List α} (h : Own w0 w (Row d e (.slice A n c) xs :: R)) : xs.length = n := by
  obtain ⟨A', c', e1, _, hC⟩ := h.row_reads
  cases e1
  rfl
end
def pkV (p : Pk) : List Value := [.int .i64 p.f0, .int .i64 p.f1, .string p.f2]
theorem pk_sz : (k25).sz = 3 := rfl
/-- How many of a link are on their way. -/
def cntW (way : List Pk) (f t : Int) : Nat := way.countP fun p => p.f0 == f && p.f1 == t
/-- A packet between places. -/
def goodP (p : Pk) : Prop := 0 ≤ p.f0 ∧ p.f0 < 9 ∧ 0 ≤ p.f1 ∧ p.f1 < 9
theorem wf9 {x : Int} (h0 : 0 ≤ x) (h9 : x < 9) : wfI x := by unfold wfI; simp [Lit.wf, IntKind.min, IntKind.max, IntKind.signed, IntKind.bits]; omega
def NetA (g : Nat) (way : List Pk) (N : Nat) : Asn := ex fun v : Value => ex fun b : Nat => ex fun ch : Int → Int → Option Nat => fact (∀ p ∈ way, goodP p) (star (Blk g (.cells #[v, .map (some b)] 49 (0, 0))) (star (Row k25 25 v way) (RoomA b N ch (cntW way))))
section
variable {w0 w w' : World} {R : List Asn} {g N : Nat} {way : List Pk}
theorem net_open (h : Own w0 w (NetA g way N :: R)) : ∃ (A : Option Addr) (c b : Nat) (ch : Int → Int → Option Nat), (∀ p ∈ way, goodP p) ∧ Own w0 w (Blk g (.cells #[.slice A way.length c, .map (some b)] 49 (0, 0)) :: Row k25 25 (.slice A way.length c) way :: RoomA b N ch (cntW way) :: R) := by
  obtain ⟨v, h⟩ := h.ex_out
  obtain ⟨b, h⟩ := h.ex_out
  obtain ⟨ch, h⟩ := h.ex_out
  obtain ⟨h1, h⟩ := h.fact_out
  have h2 := h.split.r1.split
  obtain ⟨A, c, rfl, _, _⟩ := h2.row_reads
  exact ⟨A, c, b, ch, h1, h2.r2⟩
theorem net_shut {v : Value} {b : Nat} {ch : Int → Int → Option Nat} (h1 : ∀ p ∈ way, goodP p) (h : Own w0 w (Blk g (.cells #[v, .map (some b)] 49 (0, 0)) :: Row k25 25 v way :: RoomA b N ch (cntW way) :: R)) : Own w0 w (NetA g way N :: R) :=
  .ex_in v (.ex_in b (.ex_in ch (.fact_in h1 (.join ((h.r1.r2.r1).join.r1)))))
set_option maxHeartbeats 4000000 in
set_option maxRecDepth 100000 in
theorem NetPlace (n : Int) (w : World) (r : Bool) (hr : decide (0 ≤ n ∧ n < 9) = r) : Calls Try.prog 21 #[.int .i64 n] w fun e w' => e = .returned (.bool r) ∧ w = w' := by
  subst hr
  by_cases h0 : 0 ≤ n
  · have d0 : decide (0 ≤ n) = true := decide_eq_true h0
    have HE := Lib.hid (show decide (0 ≤ n ∧ n < 9) = decide (n < 9) from decide_eq_decide.2 ⟨fun q => q.2, fun q => ⟨h0, q⟩⟩)
    clear h0
    go_enter Try.func21, Try.ntmps21
    go_wp2
    go_ret
    exact ⟨by rw [HE.out]; rfl, rfl⟩
  · have d0 : decide (0 ≤ n) = false := decide_eq_false h0
    have HE := Lib.hid (show decide (0 ≤ n ∧ n < 9) = false from decide_eq_false fun q => h0 q.1)
    clear h0
    go_enter Try.func21, Try.ntmps21
    go_wp2
    go_ret
    exact ⟨by rw [HE.out]; rfl, rfl⟩
set_option maxHeartbeats 4000000 in
set_option maxRecDepth 100000 in
theorem NetLen_nil (w : World) : Calls Try.prog 12 #[.pointer none] w fun e w' => e = .returned (.int .i64 0) ∧ w = w' := by
  go_enter Try.func12, Try.ntmps12
  go_wp2
  go_ret
  exact ⟨rfl, rfl⟩
set_option maxHeartbeats 4000000 in
set_option maxRecDepth 100000 in
theorem NetLen (h : Own w0 w (NetA g way N :: R)) (n : Nat) (hn : way.length = n) : Calls Try.prog 12 #[.pointer (some ⟨g, 0, none⟩)] w fun e w' => e = .returned (.int .i64 n) ∧ w = w' := by
  subst hn
  obtain ⟨A, c, b, ch, _, h2⟩ := net_open h
  have y0 : w.cell? ⟨g, 0, none⟩ = some (.slice A way.length c) := (blk_cell h2.at0 0).trans rfl
  clear h h2
  go_enter Try.func12, Try.ntmps12
  go_wp2
  go_ret
  exact ⟨rfl, rfl⟩
set_option maxHeartbeats 4000000 in
set_option maxRecDepth 100000 in
theorem NetNew (h : Own w0 w R) : Calls Try.prog 8 #[] w fun e w' => ∃ g : Nat, e = .returned (.pointer (some ⟨g, 0, none⟩)) ∧ Own w0 w' (NetA g [] 0 :: R) := by
  have h1 := room_new h
  have h2 := (h1.row_nil k25 25).alloc (.cells #[.slice none 0 0, .map (some w.heap.size)] 49)
  have h3 := net_shut (way := []) (N := 0) (fun p hp => by simp at hp) h2
  rw [alloc_size] at h3
  have H := Aside0.mk h3
  have hmm := @run_makeMap Try.prog
  clear h h1 h2 h3
  go_enter Try.func8, Try.ntmps8
  go_wp2
  go_ret
  exact ⟨_, rfl, H.out⟩
theorem infoP : (Try.prog.info? 25).map (fun i => (i.zero, i.size, i.bytes)) = some (some (.agg #[.int .i64 0, .int .i64 0, .string ⟨#[]⟩]), k25.sz, 32) := by kernel_rfl
set_option maxHeartbeats 4000000 in
set_option maxRecDepth 100000 in
theorem cloneP_some (w : World) (a : Addr) (c : Nat) (l : List Pk) (hr : Kd.C k25 w (some a) l.length l) (hl : l.length * 32 ≤ 140737488355328) :
    Calls Try.prog 25 #[.slice (some a) l.length c] w fun e w' => ∃ v0_ : Value, e = .returned v0_ ∧ Kd.R k25 25 w' w.heap.size (fun _ => True) v0_ l ∧ Below w.heap.size w w' := by
  have HR := Aside0.mk hr
  clear hr
  have kn := fun (W : World) => Lib.run_eql_slice_nil (P := Try.prog) W 36 25 (some a) l.length c 0 0 Try.underlying36
  go_enter Try.func25, Try.ntmps25
  go_wp2_with (first | ((with_reducible refine gate_dst (N := 5) rfl ?_); refine Kd.R_lit k25 _ 25 ?hg (N := 5) ?hd (xs := ([] : List Pk)) (inner := []) (ok := fun _ => True) (okp := fun _ => True) ?hr ?hp (fun _ hk => hk) trivial (Below.refl w.heap.size w) (Nat.le_refl _) (by simp) ?_; (case hd => rfl); (case hg => rfl); (case hr => first | (go_simp; done) | (go_simp; rfl)); (case hp => exact (Reps.none _ _)); intro v1 w1 ho hb hg_ hnew_; clear hg_ hnew_; have HO := Aside0.mk ho; have HB := Aside0.mk hb; clear ho hb) | ((with_reducible refine gate_dst (N := 7) rfl ?_); refine Kd.R_append_rows k25 (w0 := w) w.heap.size rfl (.tmp 5) (.tmp 6) 36 25 (.agg #[.int .i64 0, .int .i64 0, .string ⟨#[]⟩]) 32 rfl Try.underlying36 infoP rfl (by decide) (by omega) v1 [] l _ _ _ (fun _ => True) (fun _ => False) rfl rfl HO.out (Kd.C_below HR.out HB.out) (fun _ _ h => h) (fun _ h => h.elim) (fun _ _ => trivial) HB.out HB.out.size (by simpa using hl) ?_; intro v2 w2 ho2 hb2 _ _))
  refine bodyPost_ret (v := v2) ?_ rfl ⟨v2, rfl, by simpa using ho2, hb2⟩
  simp [results, Try.results25, go_sem]
set_option maxHeartbeats 4000000 in
set_option maxRecDepth 100000 in
theorem cloneP_none (w : World) (c : Nat) (l : List Pk) (hr : Kd.C k25 w none l.length l) :
    Calls Try.prog 25 #[.slice none l.length c] w fun e w' => ∃ v0_ : Value, e = .returned v0_ ∧ Kd.R k25 25 w' w.heap.size (fun _ => True) v0_ l ∧ Below w.heap.size w w' := by
  have hl : l = [] := by
    rcases Nat.eq_zero_or_pos l.length with h | h
    · exact List.length_eq_zero_iff.1 h
    · obtain ⟨ad, e, _⟩ := hr.2.2 h
      cases e
  subst hl
  clear hr
  have kn := fun (W : World) => Lib.run_eql_slice_nil (P := Try.prog) W 36 25 none 0 c 0 0 Try.underlying36
  go_enter Try.func25, Try.ntmps25
  go_wp2
  go_ret
  exact ⟨_, rfl, Kd.R_nil _ _ _ _ _, Below.refl _ _⟩
theorem CloneP {A : Option Addr} {c n : Nat} {l : List Pk} (h : Own w0 w (Row k25 25 (.slice A n c) l :: R)) (hl : l.length ≤ 1000000000) :
    Calls Try.prog 25 #[.slice A n c] w fun e w' => ∃ A2 c2, e = .returned (.slice A2 l.length c2) ∧ Own w0 w' (Row k25 25 (.slice A2 l.length c2) l :: Row k25 25 (.slice A n c) l :: R) := by
  obtain ⟨A', c', e, hc, hC⟩ := h.row_reads
  cases e
  have hm : Calls Try.prog 25 #[.slice A l.length c] w fun e w' => ∃ v0_ : Value, e = .returned v0_ ∧ Kd.R k25 25 w' w.heap.size (fun _ => True) v0_ l ∧ Below w.heap.size w w' := by
    cases A with
    | none => exact cloneP_none w c l hC
    | some a => exact cloneP_some w a c l hC (by omega)
  refine hm.mono ?_
  rintro e w' ⟨v, he, hr, hb⟩
  obtain ⟨A2, c2, e2⟩ := Kd.R_slice hr
  subst e2
  exact ⟨A2, c2, he, h.row_new hb hr⟩
set_option maxHeartbeats 4000000 in
set_option maxRecDepth 100000 in
theorem NetAll_nil (w : World) : Calls Try.prog 16 #[.pointer none] w fun e w' => e = .returned (.slice none 0 0) ∧ w = w' := by
  go_enter Try.func16, Try.ntmps16
  go_wp2
  go_ret
  exact ⟨rfl, rfl⟩
set_option maxHeartbeats 4000000 in
set_option maxRecDepth 100000 in
theorem NetAll (h : Own w0 w (NetA g way N :: R)) (n : Nat) (hn : way.length = n) (hl : n ≤ 1000000000) : Calls Try.prog 16 #[.pointer (some ⟨g, 0, none⟩)] w fun e w' => ∃ A c, e = .returned (.slice A n c) ∧ Own w0 w' (Row k25 25 (.slice A n c) way :: NetA g way N :: R) := by
  subst hn
  obtain ⟨A, c, b, ch, hgood, h2⟩ := net_open h
  have y0 : w.cell? ⟨g, 0, none⟩ = some (.slice A way.length c) := (blk_cell h2.at0 0).trans rfl
  have H := Aside0.mk h2
  have HG := Aside0.mk hgood
  clear h h2 hgood
  go_enter Try.func16, Try.ntmps16
  go_wp2_with (go_at_call 25; ((with_reducible refine (CloneP H.out.r1 hl).mono ?_)); rintro e w1 ⟨A2, c2, rfl, h⟩; have H1 := Aside0.mk h; clear h)
  go_ret
  exact ⟨A2, c2, rfl, (net_shut HG.out H1.out.r3.r2.r3).r1⟩
/-- The packet of a number. -/
theorem pk_cell {e b n c : Nat} {l : List Pk} (h : Own w0 w (Row k25 e (.slice (some ⟨b, 0, none⟩) n c) l :: R)) (j : Nat) (x : Pk) (hx : l[j]? = some x) (i : Nat) (u : Value) (hu : (pkV x)[i]? = some u) : w.cell? ⟨b, j * 3 + i, none⟩ = some u := by
  obtain ⟨cs, h1, h2⟩ := row_blk h
  obtain ⟨c', hK, hc⟩ := h2 j x hx
  rw [k25_open hK] at hc
  exact (blk_cell h1.at0 _).trans (hc i u hu)
theorem results_ct {P : Program} {fn : Func} {p q : Tmp} {ty : TypeId} (h : fn.results = #[.cell p ty, .tmp q]) (tmps : Array Value) (w : World) (a : Addr) (v u : Value) (hp : tmps.getD p undef = .pointer (some a)) (hq : tmps.getD q undef = u) (hl : (loadVar ty a).run P w = .ok v w) : (results fn tmps).run P w = .ok (.tuple #[v, u]) w := by
  have hp' : tmps[p]?.getD undef = .pointer (some a) := by simpa using hp
  have hq' : tmps[q]?.getD undef = u := by simpa using hq
  simp [results, h, hp', hq', asAddr, hl]
theorem load_pk {b : Nat} {a0 a1 a2 : Value} (h : w.heap[b]? = some (.cells #[a0, a1, a2] 25 (0, 0))) : (loadVar 25 ⟨b, 0, none⟩).run Try.prog w = .ok (.agg #[a0, a1, a2]) w := by
  have q0 := (blk_cell h 0).trans rfl
  have q1 := (blk_cell h 1).trans rfl
  have q2 := (blk_cell h 2).trans rfl
  go_simp
abbrev zPk : Pk := ⟨0, 0, ⟨#[]⟩⟩
set_option maxHeartbeats 4000000 in
set_option maxRecDepth 100000 in
theorem NetFind_nil (h : Own w0 w R) (i : Int) : Calls Try.prog 23 #[.pointer none, .int .i64 i] w fun e w' => e = .returned (.tuple #[.agg (pkV zPk).toArray, .int .i64 2]) ∧ Own w0 w' R := by
  have H := Aside0.mk h
  clear h
  go_enter Try.func23, Try.ntmps23
  go_wp2
  refine bodyPost_ret (v := .tuple #[.agg (pkV zPk).toArray, .int .i64 2]) (results_ct (p := 4) (q := 5) rfl _ _ ⟨w.heap.size, 0, none⟩ _ _ rfl rfl (load_pk (Own.alloc H.out _).at0)) rfl ⟨rfl, H.out.junk _⟩
set_option maxHeartbeats 4000000 in
set_option maxRecDepth 100000 in
theorem NetFind_no (h : Own w0 w (NetA g way N :: R)) (i : Int) (hi : ¬ (0 ≤ i ∧ i < way.length)) : Calls Try.prog 23 #[.pointer (some ⟨g, 0, none⟩), .int .i64 i] w fun e w' => e = .returned (.tuple #[.agg (pkV zPk).toArray, .int .i64 4]) ∧ Own w0 w' (NetA g way N :: R) := by
  obtain ⟨A, c, b, ch, hgood, h2⟩ := net_open h
  have h3 := h2.junk (.cells #[.int .i64 0, .int .i64 0, .string ⟨#[]⟩] 25)
  have y0 : (w.alloc (.cells #[.int .i64 0, .int .i64 0, .string ⟨#[]⟩] 25)).cell? ⟨g, 0, none⟩ = some (.slice A way.length c) := (blk_cell h3.at0 0).trans rfl
  have y1 : (w.alloc (.cells #[.int .i64 0, .int .i64 0, .string ⟨#[]⟩] 25)).cell? ⟨g, 1, none⟩ = some (.map (some b)) := (blk_cell h3.at0 1).trans rfl
  have heq := fun r => run_eql_map_nil (P := Try.prog) (w.alloc (.cells #[.int .i64 0, .int .i64 0, .string ⟨#[]⟩] 25)) 47 55 53 r Try.underlying47
  have H := Aside0.mk h
  clear h h2 h3 hgood
  by_cases h0 : i < 0
  · have d0 : decide (i < 0) = true := decide_eq_true h0
    clear hi h0
    go_enter Try.func23, Try.ntmps23
    go_wp2
    refine bodyPost_ret (v := .tuple #[.agg (pkV zPk).toArray, .int .i64 4]) (results_ct (p := 4) (q := 5) rfl _ _ ⟨w.heap.size, 0, none⟩ _ _ rfl rfl (load_pk (Own.alloc H.out _).at0)) rfl ⟨rfl, H.out.junk _⟩
  · have d0 : decide (i < 0) = false := decide_eq_false h0
    have d1 : decide (i ≥ (way.length : Int)) = true := decide_eq_true (by omega)
    have d2 : decide ((way.length : Int) ≤ i) = true := decide_eq_true (by omega)
    clear hi h0
    go_enter Try.func23, Try.ntmps23
    go_wp2
    refine bodyPost_ret (v := .tuple #[.agg (pkV zPk).toArray, .int .i64 4]) (results_ct (p := 4) (q := 5) rfl _ _ ⟨w.heap.size, 0, none⟩ _ _ rfl rfl (load_pk (Own.alloc H.out _).at0)) rfl ⟨rfl, H.out.junk _⟩
set_option maxHeartbeats 4000000 in
set_option maxRecDepth 100000 in
theorem NetFind_yes (h : Own w0 w (NetA g way N :: R)) (i : Nat) (p : Pk) (hi : way[i]? = some p) : Calls Try.prog 23 #[.pointer (some ⟨g, 0, none⟩), .int .i64 i] w fun e w' => e = .returned (.tuple #[.agg (pkV p).toArray, .int .i64 0]) ∧ Own w0 w' (NetA g way N :: R) := by
  obtain ⟨A, c, b, ch, hgood, h2⟩ := net_open h
  have hlt := (List.getElem?_eq_some_iff.1 hi).1
  obtain ⟨bw, c2, e1⟩ := row_form' h2.tail (by omega)
  injection e1 with e1 _ e3
  subst e1
  subst e3
  have h3 := h2.junk (.cells #[.int .i64 0, .int .i64 0, .string ⟨#[]⟩] 25)
  have y0 : (w.alloc (.cells #[.int .i64 0, .int .i64 0, .string ⟨#[]⟩] 25)).cell? ⟨g, 0, none⟩ = some (.slice (some ⟨bw, 0, none⟩) way.length c) := (blk_cell h3.at0 0).trans rfl
  have y1 : (w.alloc (.cells #[.int .i64 0, .int .i64 0, .string ⟨#[]⟩] 25)).cell? ⟨g, 1, none⟩ = some (.map (some b)) := (blk_cell h3.at0 1).trans rfl
  have z0 := pk_cell h3.tail i p hi 0 _ rfl
  have z1 := pk_cell h3.tail i p hi 1 _ rfl
  have z2 := pk_cell h3.tail i p hi 2 _ rfl
  rw [Nat.add_zero] at z0
  have heq := fun r => run_eql_map_nil (P := Try.prog) (w.alloc (.cells #[.int .i64 0, .int .i64 0, .string ⟨#[]⟩] 25)) 47 55 53 r Try.underlying47
  have hfa := add_at bw
  have d0 : decide ((i : Int) < 0) = false := decide_eq_false (by omega)
  have d1 : decide ((i : Int) ≥ (way.length : Int)) = false := decide_eq_false (by omega)
  have d2 : decide ((way.length : Int) ≤ (i : Int)) = false := decide_eq_false (by omega)
  have d3 : decide (way.length ≤ i) = false := decide_eq_false (by omega)
  have H := Aside0.mk h
  clear h h2 h3 hgood hi
  go_enter Try.func23, Try.ntmps23
  go_wp2
  refine bodyPost_ret (v := .tuple #[.agg (pkV p).toArray, .int .i64 0]) (results_ct (p := 4) (q := 5) rfl _ _ ⟨w.heap.size, 0, none⟩ _ _ rfl rfl (load_pk (Own.alloc H.out _).at0)) rfl ⟨rfl, H.out.junk _⟩
end
end Go.Proofs.Ytdnpodpmicllgaa.PNetPlays
