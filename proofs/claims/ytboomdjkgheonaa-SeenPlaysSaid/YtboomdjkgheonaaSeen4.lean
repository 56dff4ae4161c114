/- Items that were seen (package seen): Note. -/
import Derived.Test.YtboomdjkgheonaaSeen3
import Derived.Test.YtboomdjkgheonaaShelfP
import Derived.StillTailTactics
import Derived.BigQuiet
namespace Go.Proofs.Ytboomdjkgheonaa.PSeenPlays
open Go.RowKit Go.Proofs.YtboomdjkgheonaaW.PrintWords Go.Proofs.YtboomdjkgheonaaW.PrintLast Go.Proofs.YtboomdjkgheonaaW.PrintMore
open Go.Proofs.YtboomdjkgheonaaO
open Go.Maps Go.Shelf
attribute [local go_sem] max2_int min2_int max_two min_two max_three min_three max_four min_four
set_option linter.unusedVariables false
set_option linter.unusedSimpArgs false
section
variable {w0 w w' : World} {R : List Asn} {g N b : Nat} {at' : Int → Option Int} {lo : Nat → Int} {co : Nat → Int → Option Int}
theorem Own.blk_int_ne {L : List Asn} {o : Obj} {i j : Nat} (h : Own w0 w L) (hij : i ≠ j) (hi : L[i]? = some (Blk b o)) (hj : L[j]? = some (IntM b N at')) : False := by
  obtain ⟨Fs, ha, hb⟩ := h.sat.feet
  obtain ⟨⟨_, h1⟩, _⟩ := ha i _ hi
  obtain ⟨⟨_, h2⟩, _⟩ := ha j _ hj
  exact hb i j (List.getElem?_eq_some_iff.1 hi).1 (List.getElem?_eq_some_iff.1 hj).1 hij b ((h1 b).2 rfl) ((h2 b).2 rfl)
theorem tail_drew {P : Program} {id : Nat} {Q : Exit → Act → World → Prop} {a : Act} {w : World} {l : List Oper} (n : Nat) (hm : P.follows .mixedOrders = true) (hB : Region.lexTailB .any l.toArray n = true) (wd : World) (hwd : Hid (wd = w.drew))
    (h : wpStill P l.toArray wd (fun a' => wpList P l.toArray Q (l.drop n) a' wd) (l.take n) a) : (Code.region id l.toArray true).wp P Q a w := by
  have hwd := hwd.out
  subst hwd
  exact wp_region_still_tail n hm hB h
theorem _root_.Go.Proofs.YtboomdjkgheonaaO.Own.drop2 {P1 P2 P3 P4 P5 P6 P7 : Asn} {L : List Asn} (h : Own w0 w (P1 :: P2 :: P3 :: P4 :: P5 :: P6 :: P7 :: L)) : Own w0 w (P1 :: P2 :: P3 :: P4 :: P5 :: L) :=
  (h.perm ((List.perm_append_comm (l₁ := [P1, P2, P3, P4, P5]) (l₂ := [P6, P7])).append_right L)).tail.tail
theorem note_shut {l0 l1 l2 l3 : Int} {c0 c1 c2 c3 : Int → Option Int} {n0 n1 n2 n3 M b0 b1 b2 b3 : Nat} {lo2 : Nat → Int} {co2 : Nat → Int → Option Int}
    (h : Own w0 w (Blk g (.cells #[.int .i64 l0, .int .i64 l1, .int .i64 l2, .int .i64 l3, .map (some b0), .map (some b1), .map (some b2), .map (some b3)] 60 (0, 0)) :: IntM b0 n0 c0 :: IntM b1 n1 c1 :: IntM b2 n2 c2 :: IntM b3 n3 c3 :: R))
    (e0 : l0 = lo2 0) (e1 : l1 = lo2 1) (e2 : l2 = lo2 2) (e3 : l3 = lo2 3) (k0 : ∀ k, c0 k = co2 0 k) (k1 : ∀ k, c1 k = co2 1 k) (k2 : ∀ k, c2 k = co2 2 k) (k3 : ∀ k, c3 k = co2 3 k) (m0 : n0 ≤ M) (m1 : n1 ≤ M) (m2 : n2 ≤ M) (m3 : n3 ≤ M) : Own w0 w (SeenA g M lo2 co2 :: R) := by
  subst e0 e1 e2 e3
  obtain rfl := funext k0
  obtain rfl := funext k1
  obtain rfl := funext k2
  obtain rfl := funext k3
  exact seen_shut (int_mono (int_mono (int_mono (int_mono h.r1 m0).r2 m1).r3 m2).r4 m3).r1.r2.r3.r4
/-- What the closure says of a key. -/
def pdel (low : Int) (k : Lit) (_ : DataW Unit) : Bool := match k with | .int _ v => decide (v < low) | _ => false
theorem del_map {es : List (Lit × DataW Unit)} {low k : Int} : Maps.has (Lib.deleteFuncD (pdel low) (.map es)) (keyI k) = (if k < low then false else Maps.has (.map es) (keyI k)) ∧ (Lib.deleteFuncD (pdel low) (.map es)).atKey (keyI k) zI = (if k < low then zI else (DataW.map es).atKey (keyI k) zI) := by
  have e1 : ∀ p : Lit × DataW Unit, p.1.sameKey (keyI k) = true → pdel low p.1 p.2 = decide (k < low) := fun p hp => by
    have e := WideAt.sameKey_eq hp
    rw [e]
    rfl
  by_cases hk : k < low
  · have h0 : Maps.has (Lib.deleteFuncD (pdel low) (.map es)) (keyI k) = false := by
      show (es.filter fun p => !pdel low p.1 p.2).any (fun p => p.1.sameKey (keyI k)) = false
      rw [List.any_eq_false]
      intro p hp hs
      have h1 := (List.mem_filter.1 hp).2
      rw [e1 p hs, decide_eq_true hk] at h1
      simp at h1
    rw [if_pos hk, if_pos hk]
    exact ⟨h0, Maps.atKey_of_not_has h0 _⟩
  · have hkeep : ∀ p : Lit × DataW Unit, p.1.sameKey (keyI k) = true → (!pdel low p.1 p.2) = true := fun p hp => by
      rw [e1 p hp, decide_eq_false hk]
      rfl
    rw [if_neg hk, if_neg hk]
    constructor
    · show (es.filter fun p => !pdel low p.1 p.2).any (fun p => p.1.sameKey (keyI k)) = es.any (fun p => p.1.sameKey (keyI k))
      induction es with
      | nil => rfl
      | cons p es ih =>
        rw [List.filter_cons]
        by_cases hp : (!pdel low p.1 p.2) = true
        · rw [if_pos hp, List.any_cons, List.any_cons, ih]
        · rw [if_neg hp, List.any_cons, ih]
          have : p.1.sameKey (keyI k) = false := by
            cases hq : p.1.sameKey (keyI k) with
            | false => rfl
            | true => exact absurd (hkeep p hq) hp
          rw [this, Bool.false_or]
    · simp only [Lib.deleteFuncD, DataW.atKey]
      have : (es.filter fun p => !pdel low p.1 p.2).find? (fun p => p.1.sameKey (keyI k)) = es.find? (fun p => p.1.sameKey (keyI k)) := by
        induction es with
        | nil => rfl
        | cons p es ih =>
          rw [List.filter_cons]
          by_cases hp : (!pdel low p.1 p.2) = true
          · rw [if_pos hp, List.find?_cons, List.find?_cons, ih]
          · rw [if_neg hp, List.find?_cons, ih]
            have : p.1.sameKey (keyI k) = false := by
              cases hq : p.1.sameKey (keyI k) with
              | false => rfl
              | true => exact absurd (hkeep p hq) hp
            rw [this]
      rw [this]
set_option maxHeartbeats 4000000 in
theorem closure_calls (k v low : Int) (bs bx n : Nat) (hn : n < 4) (W : World) (hs : W.cell? ⟨bs, 0, none⟩ = some (.pointer (some ⟨g, 0, none⟩))) (hx : W.cell? ⟨bx, 0, none⟩ = some (.int .i64 (n : Int))) (hl : W.cell? ⟨g, n, none⟩ = some (.int .i64 low)) :
    Calls Try.prog 25 (#[.int .i64 k, .int .i64 v] ++ #[.pointer (some ⟨bs, 0, none⟩), .pointer (some ⟨bx, 0, none⟩)]) W fun e w' => e = .returned (.bool (decide (k < low))) ∧ W.grownBy w' none := by
  go_enter Try.func25, Try.ntmps25
  go_wp2
  go_quiet (fail)
  go_wp2
  go_ret
  exact ⟨rfl, by have hb := (pw_below_drewN (Below.refl W.heap.size W) nq); exact ⟨hb.os, hb.tape, hb.output, hb.size, fun k hk _ => hb.block k hk⟩⟩
theorem int_del (h : Own w0 w (IntM b N at' :: R)) (low : Int) (bs bx n : Nat) (hn : n < 4) (nb : bs ≠ b) (nx : bx ≠ b) (ng : g ≠ b) (hs : w.cell? ⟨bs, 0, none⟩ = some (.pointer (some ⟨g, 0, none⟩))) (hx : w.cell? ⟨bx, 0, none⟩ = some (.int .i64 (n : Int))) (hl : w.cell? ⟨g, n, none⟩ = some (.int .i64 low)) :
    Calls Try.prog 24 #[.map (some b), .func (.func 25) #[] #[.pointer (some ⟨bs, 0, none⟩), .pointer (some ⟨bx, 0, none⟩)]] w fun e w' => e = .returned (.tuple #[]) ∧ Own w0 w' (IntM b N (fun k => if k < low then none else at' k) :: R) := by
  have eg : ∀ args w, (callFunc 25 args).run Try.prog w = .ok (.enter 25 args) w := enters_of Try.func25 (by kernel_rfl) rfl
  obtain ⟨D, ho, hd⟩ := int_out h
  have hM := ho.isMap
  have hcon : Calls Try.prog 24 #[.map (some b), .func (.func 25) #[] #[.pointer (some ⟨bs, 0, none⟩), .pointer (some ⟨bx, 0, none⟩)]] w (fun e w' => e = .returned (.tuple #[]) ∧ w'.ownsMap Try.prog 3 (plainElem (H := Unit) Try.prog 3) b N (Lib.deleteFuncD (pdel low) D) ∧ w.grownBy w' (some b)) :=
    AnyDf.maps_DeleteFunc Try.delA plaw (plainElem (H := Unit) Try.prog 3) (pdel low) 25 _ b N D w eg ho (fun W key val kl yd yp hgW hkey hv => by
      obtain ⟨c, rfl, hy, _⟩ := plainElem_int_inv Try.underlying3 hv
      obtain ⟨x, rfl, rfl, hx2⟩ := Maps.keyOf_i64 Try.underlying3 hkey
      refine (closure_calls (g := g) x c low bs bx n hn W (hgW.cell hs (fun e => nb (Option.some.inj e))) (hgW.cell hx (fun e => nx (Option.some.inj e))) (hgW.cell hl (fun e => ng (Option.some.inj e)))).mono fun e w' ⟨he, hw⟩ => ⟨he, hw⟩)
  refine hcon.mono fun e w' ⟨he, ho2, hg⟩ => ⟨he, h.step fun F hF hB => ?_⟩
  obtain ⟨_, hFk⟩ := hF
  obtain ⟨es, rfl⟩ := hM
  refine ⟨hg.os, hg.tape, hg.output, hg.size, fun j hj hn => hg.block j hj fun e => hn ((hFk j).2 (Option.some.inj e)), F, ⟨⟨_, ho2, fun j hj => ?_, fun j hj => ?_, fun j hj => ?_⟩, hFk⟩, fun j hj => .inl hj⟩
  · rw [del_map.1]
    by_cases e : j < low
    · rw [if_pos e, if_pos e]; rfl
    · rw [if_neg e, if_neg e, hd.has j hj]
  · rw [del_map.2]
    by_cases e : j < low
    · rw [if_pos e, if_pos e]; rfl
    · rw [if_neg e, if_neg e, hd.is j hj]
  · by_cases e : j < low
    · rw [if_pos e] at hj; simp at hj
    · rw [if_neg e] at hj; exact hd.wf j hj
/-- What Note answers. -/
def noteE (lo : Nat → Int) (co : Nat → Int → Option Int) (src seq low n : Int) : Int := if (askR lo co src seq low).1 = 0 ∨ codeB n = false then 1 else if (askR lo co src seq low).1 = 1 then 12 else if (askR lo co src seq low).1 = 2 then 5 else 0
/-- What Note makes of the table. -/
def upLo (lo : Nat → Int) (j : Nat) (low : Int) : Nat → Int := fun i => if i = j then max (lo j) low else lo i
def upCo (lo : Nat → Int) (co : Nat → Int → Option Int) (j : Nat) (seq low n : Int) : Nat → Int → Option Int := fun i k => if i = j then (if k < max (lo j) low then none else updI (co j) seq n k) else co i k
theorem askR_bad {lo : Nat → Int} {co : Nat → Int → Option Int} {src seq low : Int} (hb : src < 0 ∨ 4 ≤ src ∨ low < 1 ∨ seq < low ∨ 1099511627776 < seq ∨ 16 ≤ seq - low) : askR lo co src seq low = (0, 0) := if_pos hb
theorem SeenAsk (h : Own w0 w (SeenA g N lo co :: R)) (src seq low : Int) (hq : wfI seq) : Calls Try.prog 9 #[.pointer (some ⟨g, 0, none⟩), .int .i64 src, .int .i64 seq, .int .i64 low] w fun e w' => e = .returned (.tuple #[.int .i64 (askR lo co src seq low).1, .int .i64 (askR lo co src seq low).2]) ∧ w = w' := by
  by_cases hb : src < 0 ∨ 4 ≤ src ∨ low < 1 ∨ seq < low ∨ 1099511627776 < seq ∨ 16 ≤ seq - low
  · rw [askR_bad hb]
    exact SeenAsk_bad h src seq low hb
  · exact SeenAsk_good h src.toNat (by omega) src seq low (by omega) hb hq
set_option maxHeartbeats 4000000 in
set_option maxRecDepth 100000 in
theorem SeenNote_0t (h : Own w0 w (SeenA g N lo co :: R)) (src seq low n cd : Int) (hq : wfI seq) (ha : askR lo co src seq low = (0, cd)) (hc : codeB n = true) : Calls Try.prog 10 #[.pointer (some ⟨g, 0, none⟩), .int .i64 src, .int .i64 seq, .int .i64 low, .int .i64 n] w fun e w' => e = .returned (.int .i64 1) ∧ Own w0 w' (SeenA g N lo co :: R) := by
  have H := Aside0.mk h
  have HQ := Aside0.mk hq
  have HA := Lib.hid ha
  have HC := Lib.hid hc
  have H2 := Aside0.mk ((h.alloc (.cells #[.pointer (some ⟨g, 0, none⟩)] 22)).alloc (.cells #[.int .i64 src] 3))
  clear h hq ha hc
  go_enter Try.func10, Try.ntmps10
  go_wp2_with (first
    | (go_at_call 9; (with_reducible refine (SeenAsk H2.out.r2 src seq low HQ.out).mono ?_); rintro e w1 ⟨rfl, rfl⟩; rw [HA.out])
    | (go_at_call 23; (with_reducible refine (code_calls n _).mono ?_); rintro e w1 ⟨rfl, rfl⟩; rw [HC.out]))
  go_ret
  exact ⟨rfl, (H.out.junk _).junk _⟩
set_option maxHeartbeats 4000000 in
set_option maxRecDepth 100000 in
theorem SeenNote_0f (h : Own w0 w (SeenA g N lo co :: R)) (src seq low n cd : Int) (hq : wfI seq) (ha : askR lo co src seq low = (0, cd)) (hc : codeB n = false) : Calls Try.prog 10 #[.pointer (some ⟨g, 0, none⟩), .int .i64 src, .int .i64 seq, .int .i64 low, .int .i64 n] w fun e w' => e = .returned (.int .i64 1) ∧ Own w0 w' (SeenA g N lo co :: R) := by
  have H := Aside0.mk h
  have HQ := Aside0.mk hq
  have HA := Lib.hid ha
  have HC := Lib.hid hc
  have H2 := Aside0.mk ((h.alloc (.cells #[.pointer (some ⟨g, 0, none⟩)] 22)).alloc (.cells #[.int .i64 src] 3))
  clear h hq ha hc
  go_enter Try.func10, Try.ntmps10
  go_wp2_with (first
    | (go_at_call 9; (with_reducible refine (SeenAsk H2.out.r2 src seq low HQ.out).mono ?_); rintro e w1 ⟨rfl, rfl⟩; rw [HA.out])
    | (go_at_call 23; (with_reducible refine (code_calls n _).mono ?_); rintro e w1 ⟨rfl, rfl⟩; rw [HC.out]))
  go_ret
  exact ⟨rfl, (H.out.junk _).junk _⟩
set_option maxHeartbeats 4000000 in
set_option maxRecDepth 100000 in
theorem SeenNote_1f (h : Own w0 w (SeenA g N lo co :: R)) (src seq low n cd : Int) (hq : wfI seq) (ha : askR lo co src seq low = (1, cd)) (hc : codeB n = false) : Calls Try.prog 10 #[.pointer (some ⟨g, 0, none⟩), .int .i64 src, .int .i64 seq, .int .i64 low, .int .i64 n] w fun e w' => e = .returned (.int .i64 1) ∧ Own w0 w' (SeenA g N lo co :: R) := by
  have H := Aside0.mk h
  have HQ := Aside0.mk hq
  have HA := Lib.hid ha
  have HC := Lib.hid hc
  have H2 := Aside0.mk ((h.alloc (.cells #[.pointer (some ⟨g, 0, none⟩)] 22)).alloc (.cells #[.int .i64 src] 3))
  clear h hq ha hc
  go_enter Try.func10, Try.ntmps10
  go_wp2_with (first
    | (go_at_call 9; (with_reducible refine (SeenAsk H2.out.r2 src seq low HQ.out).mono ?_); rintro e w1 ⟨rfl, rfl⟩; rw [HA.out])
    | (go_at_call 23; (with_reducible refine (code_calls n _).mono ?_); rintro e w1 ⟨rfl, rfl⟩; rw [HC.out]))
  go_ret
  exact ⟨rfl, (H.out.junk _).junk _⟩
set_option maxHeartbeats 4000000 in
set_option maxRecDepth 100000 in
theorem SeenNote_2f (h : Own w0 w (SeenA g N lo co :: R)) (src seq low n cd : Int) (hq : wfI seq) (ha : askR lo co src seq low = (2, cd)) (hc : codeB n = false) : Calls Try.prog 10 #[.pointer (some ⟨g, 0, none⟩), .int .i64 src, .int .i64 seq, .int .i64 low, .int .i64 n] w fun e w' => e = .returned (.int .i64 1) ∧ Own w0 w' (SeenA g N lo co :: R) := by
  have H := Aside0.mk h
  have HQ := Aside0.mk hq
  have HA := Lib.hid ha
  have HC := Lib.hid hc
  have H2 := Aside0.mk ((h.alloc (.cells #[.pointer (some ⟨g, 0, none⟩)] 22)).alloc (.cells #[.int .i64 src] 3))
  clear h hq ha hc
  go_enter Try.func10, Try.ntmps10
  go_wp2_with (first
    | (go_at_call 9; (with_reducible refine (SeenAsk H2.out.r2 src seq low HQ.out).mono ?_); rintro e w1 ⟨rfl, rfl⟩; rw [HA.out])
    | (go_at_call 23; (with_reducible refine (code_calls n _).mono ?_); rintro e w1 ⟨rfl, rfl⟩; rw [HC.out]))
  go_ret
  exact ⟨rfl, (H.out.junk _).junk _⟩
set_option maxHeartbeats 4000000 in
set_option maxRecDepth 100000 in
theorem SeenNote_3f (h : Own w0 w (SeenA g N lo co :: R)) (src seq low n cd : Int) (hq : wfI seq) (ha : askR lo co src seq low = (3, cd)) (hc : codeB n = false) : Calls Try.prog 10 #[.pointer (some ⟨g, 0, none⟩), .int .i64 src, .int .i64 seq, .int .i64 low, .int .i64 n] w fun e w' => e = .returned (.int .i64 1) ∧ Own w0 w' (SeenA g N lo co :: R) := by
  have H := Aside0.mk h
  have HQ := Aside0.mk hq
  have HA := Lib.hid ha
  have HC := Lib.hid hc
  have H2 := Aside0.mk ((h.alloc (.cells #[.pointer (some ⟨g, 0, none⟩)] 22)).alloc (.cells #[.int .i64 src] 3))
  clear h hq ha hc
  go_enter Try.func10, Try.ntmps10
  go_wp2_with (first
    | (go_at_call 9; (with_reducible refine (SeenAsk H2.out.r2 src seq low HQ.out).mono ?_); rintro e w1 ⟨rfl, rfl⟩; rw [HA.out])
    | (go_at_call 23; (with_reducible refine (code_calls n _).mono ?_); rintro e w1 ⟨rfl, rfl⟩; rw [HC.out]))
  go_ret
  exact ⟨rfl, (H.out.junk _).junk _⟩
set_option maxHeartbeats 4000000 in
set_option maxRecDepth 100000 in
theorem SeenNote_1t (h : Own w0 w (SeenA g N lo co :: R)) (src seq low n cd : Int) (hq : wfI seq) (ha : askR lo co src seq low = (1, cd)) (hc : codeB n = true) : Calls Try.prog 10 #[.pointer (some ⟨g, 0, none⟩), .int .i64 src, .int .i64 seq, .int .i64 low, .int .i64 n] w fun e w' => e = .returned (.int .i64 12) ∧ Own w0 w' (SeenA g N lo co :: R) := by
  have H := Aside0.mk h
  have HQ := Aside0.mk hq
  have HA := Lib.hid ha
  have HC := Lib.hid hc
  have H2 := Aside0.mk ((h.alloc (.cells #[.pointer (some ⟨g, 0, none⟩)] 22)).alloc (.cells #[.int .i64 src] 3))
  clear h hq ha hc
  go_enter Try.func10, Try.ntmps10
  go_wp2_with (first
    | (go_at_call 9; (with_reducible refine (SeenAsk H2.out.r2 src seq low HQ.out).mono ?_); rintro e w1 ⟨rfl, rfl⟩; rw [HA.out])
    | (go_at_call 23; (with_reducible refine (code_calls n _).mono ?_); rintro e w1 ⟨rfl, rfl⟩; rw [HC.out]))
  go_ret
  exact ⟨rfl, (H.out.junk _).junk _⟩
set_option maxHeartbeats 4000000 in
set_option maxRecDepth 100000 in
theorem SeenNote_2t (h : Own w0 w (SeenA g N lo co :: R)) (src seq low n cd : Int) (hq : wfI seq) (ha : askR lo co src seq low = (2, cd)) (hc : codeB n = true) : Calls Try.prog 10 #[.pointer (some ⟨g, 0, none⟩), .int .i64 src, .int .i64 seq, .int .i64 low, .int .i64 n] w fun e w' => e = .returned (.int .i64 5) ∧ Own w0 w' (SeenA g N lo co :: R) := by
  have H := Aside0.mk h
  have HQ := Aside0.mk hq
  have HA := Lib.hid ha
  have HC := Lib.hid hc
  have H2 := Aside0.mk ((h.alloc (.cells #[.pointer (some ⟨g, 0, none⟩)] 22)).alloc (.cells #[.int .i64 src] 3))
  clear h hq ha hc
  go_enter Try.func10, Try.ntmps10
  go_wp2_with (first
    | (go_at_call 9; (with_reducible refine (SeenAsk H2.out.r2 src seq low HQ.out).mono ?_); rintro e w1 ⟨rfl, rfl⟩; rw [HA.out])
    | (go_at_call 23; (with_reducible refine (code_calls n _).mono ?_); rintro e w1 ⟨rfl, rfl⟩; rw [HC.out]))
  go_ret
  exact ⟨rfl, (H.out.junk _).junk _⟩
set_option maxHeartbeats 4000000 in
set_option maxRecDepth 100000 in
theorem SeenNote_y0 (h : Own w0 w (SeenA g N lo co :: R)) (src seq low n cd : Int) (hsrc : src = 0) (hq : wfI seq) (hn : wfI n) (hN : N < 1000000000) (ha : askR lo co src seq low = (3, cd)) (hc : codeB n = true) : Calls Try.prog 10 #[.pointer (some ⟨g, 0, none⟩), .int .i64 src, .int .i64 seq, .int .i64 low, .int .i64 n] w fun e w' => e = .returned (.int .i64 0) ∧ Own w0 w' (SeenA g (N + 1) (upLo lo 0 low) (upCo lo co 0 seq low n) :: R) := by
  subst hsrc
  have HNN := Aside0.mk hn
  have H := Aside0.mk h
  have HQ := Aside0.mk hq
  have HA := Lib.hid ha
  have HC := Lib.hid hc
  have H2 := Aside0.mk ((h.alloc (.cells #[.pointer (some ⟨g, 0, none⟩)] 22)).alloc (.cells #[.int .i64 0] 3))
  clear h hq ha hc
  go_enter Try.func10, Try.ntmps10
  go_wp2_with (first
    | (go_at_call 9; (with_reducible refine (SeenAsk H2.out.r2 0 seq low HQ.out).mono ?_); rintro e w1 ⟨rfl, rfl⟩; rw [HA.out])
    | (go_at_call 23; (with_reducible refine (code_calls n _).mono ?_); rintro e w1 ⟨rfl, rfl⟩; rw [HC.out]))
  have h3 := H2.out.r2
  simp only [alloc_size] at h3
  obtain ⟨W, hW⟩ : ∃ W, W = (w.alloc (.cells #[.pointer (some ⟨g, 0, none⟩)] 22)).alloc (.cells #[.int .i64 0] 3) := ⟨_, rfl⟩
  rw [← hW] at h3 ⊢
  obtain ⟨bx, hbx⟩ : ∃ bx, bx = w.heap.size + 1 := ⟨_, rfl⟩
  rw [← hbx] at h3 ⊢
  obtain ⟨bs, hbs⟩ : ∃ bs, bs = w.heap.size := ⟨_, rfl⟩
  rw [← hbs] at h3 ⊢
  obtain ⟨b0, b1, b2, b3, h3⟩ := seen_open h3
  have H3 := Aside0.mk h3
  have x0 : W.cell? ⟨bs, 0, none⟩ = some (.pointer (some ⟨g, 0, none⟩)) := (blk_cell (h3.get 6 rfl).1 0).trans rfl
  have x1 : W.cell? ⟨bx, 0, none⟩ = some (.int .i64 0) := (blk_cell (h3.get 5 rfl).1 0).trans rfl
  have z0 : W.cell? ⟨g, 0, none⟩ = some (.int .i64 (lo 0)) := (blk_cell h3.at0 0).trans rfl
  have f0 := blk_frozen h3.at0 0
  obtain ⟨m, hm⟩ : ∃ m, m = max (lo 0) low := ⟨_, rfl⟩
  have hmx : (if lo 0 < low then low else lo 0) = m := by rw [hm]; by_cases q : lo 0 < low; rw [if_pos q]; omega; rw [if_neg q]; omega
  have HM := Aside0.mk hm
  have nbs : bs ≠ b0 := by
    rintro rfl
    exact Own.blk_int_ne h3 (i := 6) (j := 1) (by decide) rfl rfl
  have nbx : bx ≠ b0 := by
    rintro rfl
    exact Own.blk_int_ne h3 (i := 5) (j := 1) (by decide) rfl rfl
  have nbg : g ≠ b0 := by
    rintro rfl
    exact Own.blk_int_ne h3 (i := 0) (j := 1) (by decide) rfl rfl
  have NB := Aside0.mk (And.intro nbs (And.intro nbx nbg))
  have NN := Aside0.mk hN
  clear h3 hW hbs hbx H2 HA HC hm nbs nbx nbg hN
  go_region
  all_goals go_wp2
  have h4 := (H3.out.set 0 (.int .i64 m)).drew
  obtain ⟨W1, hW1⟩ : ∃ W1, W1 = (W.setCell ⟨g, 0, none⟩ (.int .i64 m)).drew := ⟨_, rfl⟩
  rw [← hW1] at h4 ⊢
  have H4 : Aside0 (Own w0 W1 (Blk g (.cells #[.int .i64 m, .int .i64 (lo 1), .int .i64 (lo 2), .int .i64 (lo 3), .map (some b0), .map (some b1), .map (some b2), .map (some b3)] 60 (0, 0)) :: IntM b0 N (co 0) :: IntM b1 N (co 1) :: IntM b2 N (co 2) :: IntM b3 N (co 3) :: Blk bx (.cells #[.int .i64 0] 3 (0, 0)) :: Blk bs (.cells #[.pointer (some ⟨g, 0, none⟩)] 22 (0, 0)) :: R)) := ⟨h4⟩
  clear h4 hW1 x0 x1 z0 f0 hmx
  have x0 : W1.cell? ⟨bs, 0, none⟩ = some (.pointer (some ⟨g, 0, none⟩)) := (blk_cell (H4.out.get 6 rfl).1 0).trans rfl
  have x1 : W1.cell? ⟨bx, 0, none⟩ = some (.int .i64 0) := (blk_cell (H4.out.get 5 rfl).1 0).trans rfl
  have z1 : W1.cell? ⟨g, 4, none⟩ = some (.map (some b0)) := (blk_cell H4.out.at0 4).trans rfl
  obtain ⟨W2, hrun, h5⟩ := int_put H4.out.drew.r1 seq n HQ.out HNN.out NN.out
  have H5 := Aside0.mk h5
  clear h5
  go_region
  all_goals go_wp2
  clear x0 x1 z1 hrun
  have x0 : W2.cell? ⟨bs, 0, none⟩ = some (.pointer (some ⟨g, 0, none⟩)) := (blk_cell (H5.out.get 6 rfl).1 0).trans rfl
  have x1 : W2.cell? ⟨bx, 0, none⟩ = some (.int .i64 0) := (blk_cell (H5.out.get 5 rfl).1 0).trans rfl
  have z1 : W2.cell? ⟨g, 4, none⟩ = some (.map (some b0)) := (blk_cell H5.out.at1 4).trans rfl
  have z2 : W2.cell? ⟨g, 0, none⟩ = some (.int .i64 m) := (blk_cell H5.out.at1 0).trans rfl
  have HD := Aside0.mk (int_del (g := g) H5.out.drew m bs bx 0 (by omega) NB.out.1 NB.out.2.1 NB.out.2.2 x0 x1 z2)
  clear z2
  refine tail_drew 7 (by kernel_rfl) (by kernel_rfl) W2.drew (Lib.hid rfl) ?_
  simp only [List.take_succ_cons, List.take_zero, List.drop_succ_cons, List.drop_zero]
  repeat ((with_reducible refine wpStill_step (fun K hK => ?_)); go_simp; (with_reducible refine hK _ ?_); clear hK K)
  with_reducible refine wpStill_nil ?_
  go_wp2_with (go_at_call 24; (with_reducible refine HD.out.mono ?_); rintro e w6 ⟨rfl, h⟩; have H6 := Aside0.mk h; clear h)
  go_ret
  have hm := HM.out
  refine ⟨rfl, note_shut H6.out.r1.drop2 (by simp [upLo] <;> exact hm) (by simp [upLo] <;> exact hm) (by simp [upLo] <;> exact hm) (by simp [upLo] <;> exact hm) (fun k => by simp [upCo, hm]) (fun k => by simp [upCo, hm]) (fun k => by simp [upCo, hm]) (fun k => by simp [upCo, hm]) (by omega) (by omega) (by omega) (by omega)⟩
set_option maxHeartbeats 4000000 in
set_option maxRecDepth 100000 in
theorem SeenNote_y1 (h : Own w0 w (SeenA g N lo co :: R)) (src seq low n cd : Int) (hsrc : src = 1) (hq : wfI seq) (hn : wfI n) (hN : N < 1000000000) (ha : askR lo co src seq low = (3, cd)) (hc : codeB n = true) : Calls Try.prog 10 #[.pointer (some ⟨g, 0, none⟩), .int .i64 src, .int .i64 seq, .int .i64 low, .int .i64 n] w fun e w' => e = .returned (.int .i64 0) ∧ Own w0 w' (SeenA g (N + 1) (upLo lo 1 low) (upCo lo co 1 seq low n) :: R) := by
  subst hsrc
  have HNN := Aside0.mk hn
  have H := Aside0.mk h
  have HQ := Aside0.mk hq
  have HA := Lib.hid ha
  have HC := Lib.hid hc
  have H2 := Aside0.mk ((h.alloc (.cells #[.pointer (some ⟨g, 0, none⟩)] 22)).alloc (.cells #[.int .i64 1] 3))
  clear h hq ha hc
  go_enter Try.func10, Try.ntmps10
  go_wp2_with (first
    | (go_at_call 9; (with_reducible refine (SeenAsk H2.out.r2 1 seq low HQ.out).mono ?_); rintro e w1 ⟨rfl, rfl⟩; rw [HA.out])
    | (go_at_call 23; (with_reducible refine (code_calls n _).mono ?_); rintro e w1 ⟨rfl, rfl⟩; rw [HC.out]))
  have h3 := H2.out.r2
  simp only [alloc_size] at h3
  obtain ⟨W, hW⟩ : ∃ W, W = (w.alloc (.cells #[.pointer (some ⟨g, 0, none⟩)] 22)).alloc (.cells #[.int .i64 1] 3) := ⟨_, rfl⟩
  rw [← hW] at h3 ⊢
  obtain ⟨bx, hbx⟩ : ∃ bx, bx = w.heap.size + 1 := ⟨_, rfl⟩
  rw [← hbx] at h3 ⊢
  obtain ⟨bs, hbs⟩ : ∃ bs, bs = w.heap.size := ⟨_, rfl⟩
  rw [← hbs] at h3 ⊢
  obtain ⟨b0, b1, b2, b3, h3⟩ := seen_open h3
  have H3 := Aside0.mk h3
  have x0 : W.cell? ⟨bs, 0, none⟩ = some (.pointer (some ⟨g, 0, none⟩)) := (blk_cell (h3.get 6 rfl).1 0).trans rfl
  have x1 : W.cell? ⟨bx, 0, none⟩ = some (.int .i64 1) := (blk_cell (h3.get 5 rfl).1 0).trans rfl
  have z0 : W.cell? ⟨g, 1, none⟩ = some (.int .i64 (lo 1)) := (blk_cell h3.at0 1).trans rfl
  have f0 := blk_frozen h3.at0 1
  obtain ⟨m, hm⟩ : ∃ m, m = max (lo 1) low := ⟨_, rfl⟩
  have hmx : (if lo 1 < low then low else lo 1) = m := by rw [hm]; by_cases q : lo 1 < low; rw [if_pos q]; omega; rw [if_neg q]; omega
  have HM := Aside0.mk hm
  have nbs : bs ≠ b1 := by
    rintro rfl
    exact Own.blk_int_ne h3 (i := 6) (j := 2) (by decide) rfl rfl
  have nbx : bx ≠ b1 := by
    rintro rfl
    exact Own.blk_int_ne h3 (i := 5) (j := 2) (by decide) rfl rfl
  have nbg : g ≠ b1 := by
    rintro rfl
    exact Own.blk_int_ne h3 (i := 0) (j := 2) (by decide) rfl rfl
  have NB := Aside0.mk (And.intro nbs (And.intro nbx nbg))
  have NN := Aside0.mk hN
  clear h3 hW hbs hbx H2 HA HC hm nbs nbx nbg hN
  go_region
  all_goals go_wp2
  have h4 := (H3.out.set 1 (.int .i64 m)).drew
  obtain ⟨W1, hW1⟩ : ∃ W1, W1 = (W.setCell ⟨g, 1, none⟩ (.int .i64 m)).drew := ⟨_, rfl⟩
  rw [← hW1] at h4 ⊢
  have H4 : Aside0 (Own w0 W1 (Blk g (.cells #[.int .i64 (lo 0), .int .i64 m, .int .i64 (lo 2), .int .i64 (lo 3), .map (some b0), .map (some b1), .map (some b2), .map (some b3)] 60 (0, 0)) :: IntM b0 N (co 0) :: IntM b1 N (co 1) :: IntM b2 N (co 2) :: IntM b3 N (co 3) :: Blk bx (.cells #[.int .i64 1] 3 (0, 0)) :: Blk bs (.cells #[.pointer (some ⟨g, 0, none⟩)] 22 (0, 0)) :: R)) := ⟨h4⟩
  clear h4 hW1 x0 x1 z0 f0 hmx
  have x0 : W1.cell? ⟨bs, 0, none⟩ = some (.pointer (some ⟨g, 0, none⟩)) := (blk_cell (H4.out.get 6 rfl).1 0).trans rfl
  have x1 : W1.cell? ⟨bx, 0, none⟩ = some (.int .i64 1) := (blk_cell (H4.out.get 5 rfl).1 0).trans rfl
  have z1 : W1.cell? ⟨g, 5, none⟩ = some (.map (some b1)) := (blk_cell H4.out.at0 5).trans rfl
  obtain ⟨W2, hrun, h5⟩ := int_put H4.out.drew.r2 seq n HQ.out HNN.out NN.out
  have H5 := Aside0.mk h5
  clear h5
  go_region
  all_goals go_wp2
  clear x0 x1 z1 hrun
  have x0 : W2.cell? ⟨bs, 0, none⟩ = some (.pointer (some ⟨g, 0, none⟩)) := (blk_cell (H5.out.get 6 rfl).1 0).trans rfl
  have x1 : W2.cell? ⟨bx, 0, none⟩ = some (.int .i64 1) := (blk_cell (H5.out.get 5 rfl).1 0).trans rfl
  have z1 : W2.cell? ⟨g, 5, none⟩ = some (.map (some b1)) := (blk_cell H5.out.at1 5).trans rfl
  have z2 : W2.cell? ⟨g, 1, none⟩ = some (.int .i64 m) := (blk_cell H5.out.at1 1).trans rfl
  have HD := Aside0.mk (int_del (g := g) H5.out.drew m bs bx 1 (by omega) NB.out.1 NB.out.2.1 NB.out.2.2 x0 x1 z2)
  clear z2
  refine tail_drew 7 (by kernel_rfl) (by kernel_rfl) W2.drew (Lib.hid rfl) ?_
  simp only [List.take_succ_cons, List.take_zero, List.drop_succ_cons, List.drop_zero]
  repeat ((with_reducible refine wpStill_step (fun K hK => ?_)); go_simp; (with_reducible refine hK _ ?_); clear hK K)
  with_reducible refine wpStill_nil ?_
  go_wp2_with (go_at_call 24; (with_reducible refine HD.out.mono ?_); rintro e w6 ⟨rfl, h⟩; have H6 := Aside0.mk h; clear h)
  go_ret
  have hm := HM.out
  refine ⟨rfl, note_shut H6.out.r2.r2.drop2 (by simp [upLo] <;> exact hm) (by simp [upLo] <;> exact hm) (by simp [upLo] <;> exact hm) (by simp [upLo] <;> exact hm) (fun k => by simp [upCo, hm]) (fun k => by simp [upCo, hm]) (fun k => by simp [upCo, hm]) (fun k => by simp [upCo, hm]) (by omega) (by omega) (by omega) (by omega)⟩
set_option maxHeartbeats 4000000 in
set_option maxRecDepth 100000 in
theorem SeenNote_y2 (h : Own w0 w (SeenA g N lo co :: R)) (src seq low n cd : Int) (hsrc : src = 2) (hq : wfI seq) (hn : wfI n) (hN : N < 1000000000) (ha : askR lo co src seq low = (3, cd)) (hc : codeB n = true) : Calls Try.prog 10 #[.pointer (some ⟨g, 0, none⟩), .int .i64 src, .int .i64 seq, .int .i64 low, .int .i64 n] w fun e w' => e = .returned (.int .i64 0) ∧ Own w0 w' (SeenA g (N + 1) (upLo lo 2 low) (upCo lo co 2 seq low n) :: R) := by
  subst hsrc
  have HNN := Aside0.mk hn
  have H := Aside0.mk h
  have HQ := Aside0.mk hq
  have HA := Lib.hid ha
  have HC := Lib.hid hc
  have H2 := Aside0.mk ((h.alloc (.cells #[.pointer (some ⟨g, 0, none⟩)] 22)).alloc (.cells #[.int .i64 2] 3))
  clear h hq ha hc
  go_enter Try.func10, Try.ntmps10
  go_wp2_with (first
    | (go_at_call 9; (with_reducible refine (SeenAsk H2.out.r2 2 seq low HQ.out).mono ?_); rintro e w1 ⟨rfl, rfl⟩; rw [HA.out])
    | (go_at_call 23; (with_reducible refine (code_calls n _).mono ?_); rintro e w1 ⟨rfl, rfl⟩; rw [HC.out]))
  have h3 := H2.out.r2
  simp only [alloc_size] at h3
  obtain ⟨W, hW⟩ : ∃ W, W = (w.alloc (.cells #[.pointer (some ⟨g, 0, none⟩)] 22)).alloc (.cells #[.int .i64 2] 3) := ⟨_, rfl⟩
  rw [← hW] at h3 ⊢
  obtain ⟨bx, hbx⟩ : ∃ bx, bx = w.heap.size + 1 := ⟨_, rfl⟩
  rw [← hbx] at h3 ⊢
  obtain ⟨bs, hbs⟩ : ∃ bs, bs = w.heap.size := ⟨_, rfl⟩
  rw [← hbs] at h3 ⊢
  obtain ⟨b0, b1, b2, b3, h3⟩ := seen_open h3
  have H3 := Aside0.mk h3
  have x0 : W.cell? ⟨bs, 0, none⟩ = some (.pointer (some ⟨g, 0, none⟩)) := (blk_cell (h3.get 6 rfl).1 0).trans rfl
  have x1 : W.cell? ⟨bx, 0, none⟩ = some (.int .i64 2) := (blk_cell (h3.get 5 rfl).1 0).trans rfl
  have z0 : W.cell? ⟨g, 2, none⟩ = some (.int .i64 (lo 2)) := (blk_cell h3.at0 2).trans rfl
  have f0 := blk_frozen h3.at0 2
  obtain ⟨m, hm⟩ : ∃ m, m = max (lo 2) low := ⟨_, rfl⟩
  have hmx : (if lo 2 < low then low else lo 2) = m := by rw [hm]; by_cases q : lo 2 < low; rw [if_pos q]; omega; rw [if_neg q]; omega
  have HM := Aside0.mk hm
  have nbs : bs ≠ b2 := by
    rintro rfl
    exact Own.blk_int_ne h3 (i := 6) (j := 3) (by decide) rfl rfl
  have nbx : bx ≠ b2 := by
    rintro rfl
    exact Own.blk_int_ne h3 (i := 5) (j := 3) (by decide) rfl rfl
  have nbg : g ≠ b2 := by
    rintro rfl
    exact Own.blk_int_ne h3 (i := 0) (j := 3) (by decide) rfl rfl
  have NB := Aside0.mk (And.intro nbs (And.intro nbx nbg))
  have NN := Aside0.mk hN
  clear h3 hW hbs hbx H2 HA HC hm nbs nbx nbg hN
  go_region
  all_goals go_wp2
  have h4 := (H3.out.set 2 (.int .i64 m)).drew
  obtain ⟨W1, hW1⟩ : ∃ W1, W1 = (W.setCell ⟨g, 2, none⟩ (.int .i64 m)).drew := ⟨_, rfl⟩
  rw [← hW1] at h4 ⊢
  have H4 : Aside0 (Own w0 W1 (Blk g (.cells #[.int .i64 (lo 0), .int .i64 (lo 1), .int .i64 m, .int .i64 (lo 3), .map (some b0), .map (some b1), .map (some b2), .map (some b3)] 60 (0, 0)) :: IntM b0 N (co 0) :: IntM b1 N (co 1) :: IntM b2 N (co 2) :: IntM b3 N (co 3) :: Blk bx (.cells #[.int .i64 2] 3 (0, 0)) :: Blk bs (.cells #[.pointer (some ⟨g, 0, none⟩)] 22 (0, 0)) :: R)) := ⟨h4⟩
  clear h4 hW1 x0 x1 z0 f0 hmx
  have x0 : W1.cell? ⟨bs, 0, none⟩ = some (.pointer (some ⟨g, 0, none⟩)) := (blk_cell (H4.out.get 6 rfl).1 0).trans rfl
  have x1 : W1.cell? ⟨bx, 0, none⟩ = some (.int .i64 2) := (blk_cell (H4.out.get 5 rfl).1 0).trans rfl
  have z1 : W1.cell? ⟨g, 6, none⟩ = some (.map (some b2)) := (blk_cell H4.out.at0 6).trans rfl
  obtain ⟨W2, hrun, h5⟩ := int_put H4.out.drew.r3 seq n HQ.out HNN.out NN.out
  have H5 := Aside0.mk h5
  clear h5
  go_region
  all_goals go_wp2
  clear x0 x1 z1 hrun
  have x0 : W2.cell? ⟨bs, 0, none⟩ = some (.pointer (some ⟨g, 0, none⟩)) := (blk_cell (H5.out.get 6 rfl).1 0).trans rfl
  have x1 : W2.cell? ⟨bx, 0, none⟩ = some (.int .i64 2) := (blk_cell (H5.out.get 5 rfl).1 0).trans rfl
  have z1 : W2.cell? ⟨g, 6, none⟩ = some (.map (some b2)) := (blk_cell H5.out.at1 6).trans rfl
  have z2 : W2.cell? ⟨g, 2, none⟩ = some (.int .i64 m) := (blk_cell H5.out.at1 2).trans rfl
  have HD := Aside0.mk (int_del (g := g) H5.out.drew m bs bx 2 (by omega) NB.out.1 NB.out.2.1 NB.out.2.2 x0 x1 z2)
  clear z2
  refine tail_drew 7 (by kernel_rfl) (by kernel_rfl) W2.drew (Lib.hid rfl) ?_
  simp only [List.take_succ_cons, List.take_zero, List.drop_succ_cons, List.drop_zero]
  repeat ((with_reducible refine wpStill_step (fun K hK => ?_)); go_simp; (with_reducible refine hK _ ?_); clear hK K)
  with_reducible refine wpStill_nil ?_
  go_wp2_with (go_at_call 24; (with_reducible refine HD.out.mono ?_); rintro e w6 ⟨rfl, h⟩; have H6 := Aside0.mk h; clear h)
  go_ret
  have hm := HM.out
  refine ⟨rfl, note_shut H6.out.r3.r3.r3.drop2 (by simp [upLo] <;> exact hm) (by simp [upLo] <;> exact hm) (by simp [upLo] <;> exact hm) (by simp [upLo] <;> exact hm) (fun k => by simp [upCo, hm]) (fun k => by simp [upCo, hm]) (fun k => by simp [upCo, hm]) (fun k => by simp [upCo, hm]) (by omega) (by omega) (by omega) (by omega)⟩
set_option maxHeartbeats 4000000 in
set_option maxRecDepth 100000 in
theorem SeenNote_y3 (h : Own w0 w (SeenA g N lo co :: R)) (src seq low n cd : Int) (hsrc : src = 3) (hq : wfI seq) (hn : wfI n) (hN : N < 1000000000) (ha : askR lo co src seq low = (3, cd)) (hc : codeB n = true) : Calls Try.prog 10 #[.pointer (some ⟨g, 0, none⟩), .int .i64 src, .int .i64 seq, .int .i64 low, .int .i64 n] w fun e w' => e = .returned (.int .i64 0) ∧ Own w0 w' (SeenA g (N + 1) (upLo lo 3 low) (upCo lo co 3 seq low n) :: R) := by
  subst hsrc
  have HNN := Aside0.mk hn
  have H := Aside0.mk h
  have HQ := Aside0.mk hq
  have HA := Lib.hid ha
  have HC := Lib.hid hc
  have H2 := Aside0.mk ((h.alloc (.cells #[.pointer (some ⟨g, 0, none⟩)] 22)).alloc (.cells #[.int .i64 3] 3))
  clear h hq ha hc
  go_enter Try.func10, Try.ntmps10
  go_wp2_with (first
    | (go_at_call 9; (with_reducible refine (SeenAsk H2.out.r2 3 seq low HQ.out).mono ?_); rintro e w1 ⟨rfl, rfl⟩; rw [HA.out])
    | (go_at_call 23; (with_reducible refine (code_calls n _).mono ?_); rintro e w1 ⟨rfl, rfl⟩; rw [HC.out]))
  have h3 := H2.out.r2
  simp only [alloc_size] at h3
  obtain ⟨W, hW⟩ : ∃ W, W = (w.alloc (.cells #[.pointer (some ⟨g, 0, none⟩)] 22)).alloc (.cells #[.int .i64 3] 3) := ⟨_, rfl⟩
  rw [← hW] at h3 ⊢
  obtain ⟨bx, hbx⟩ : ∃ bx, bx = w.heap.size + 1 := ⟨_, rfl⟩
  rw [← hbx] at h3 ⊢
  obtain ⟨bs, hbs⟩ : ∃ bs, bs = w.heap.size := ⟨_, rfl⟩
  rw [← hbs] at h3 ⊢
  obtain ⟨b0, b1, b2, b3, h3⟩ := seen_open h3
  have H3 := Aside0.mk h3
  have x0 : W.cell? ⟨bs, 0, none⟩ = some (.pointer (some ⟨g, 0, none⟩)) := (blk_cell (h3.get 6 rfl).1 0).trans rfl
  have x1 : W.cell? ⟨bx, 0, none⟩ = some (.int .i64 3) := (blk_cell (h3.get 5 rfl).1 0).trans rfl
  have z0 : W.cell? ⟨g, 3, none⟩ = some (.int .i64 (lo 3)) := (blk_cell h3.at0 3).trans rfl
  have f0 := blk_frozen h3.at0 3
  obtain ⟨m, hm⟩ : ∃ m, m = max (lo 3) low := ⟨_, rfl⟩
  have hmx : (if lo 3 < low then low else lo 3) = m := by rw [hm]; by_cases q : lo 3 < low; rw [if_pos q]; omega; rw [if_neg q]; omega
  have HM := Aside0.mk hm
  have nbs : bs ≠ b3 := by
    rintro rfl
    exact Own.blk_int_ne h3 (i := 6) (j := 4) (by decide) rfl rfl
  have nbx : bx ≠ b3 := by
    rintro rfl
    exact Own.blk_int_ne h3 (i := 5) (j := 4) (by decide) rfl rfl
  have nbg : g ≠ b3 := by
    rintro rfl
    exact Own.blk_int_ne h3 (i := 0) (j := 4) (by decide) rfl rfl
  have NB := Aside0.mk (And.intro nbs (And.intro nbx nbg))
  have NN := Aside0.mk hN
  clear h3 hW hbs hbx H2 HA HC hm nbs nbx nbg hN
  go_region
  all_goals go_wp2
  have h4 := (H3.out.set 3 (.int .i64 m)).drew
  obtain ⟨W1, hW1⟩ : ∃ W1, W1 = (W.setCell ⟨g, 3, none⟩ (.int .i64 m)).drew := ⟨_, rfl⟩
  rw [← hW1] at h4 ⊢
  have H4 : Aside0 (Own w0 W1 (Blk g (.cells #[.int .i64 (lo 0), .int .i64 (lo 1), .int .i64 (lo 2), .int .i64 m, .map (some b0), .map (some b1), .map (some b2), .map (some b3)] 60 (0, 0)) :: IntM b0 N (co 0) :: IntM b1 N (co 1) :: IntM b2 N (co 2) :: IntM b3 N (co 3) :: Blk bx (.cells #[.int .i64 3] 3 (0, 0)) :: Blk bs (.cells #[.pointer (some ⟨g, 0, none⟩)] 22 (0, 0)) :: R)) := ⟨h4⟩
  clear h4 hW1 x0 x1 z0 f0 hmx
  have x0 : W1.cell? ⟨bs, 0, none⟩ = some (.pointer (some ⟨g, 0, none⟩)) := (blk_cell (H4.out.get 6 rfl).1 0).trans rfl
  have x1 : W1.cell? ⟨bx, 0, none⟩ = some (.int .i64 3) := (blk_cell (H4.out.get 5 rfl).1 0).trans rfl
  have z1 : W1.cell? ⟨g, 7, none⟩ = some (.map (some b3)) := (blk_cell H4.out.at0 7).trans rfl
  obtain ⟨W2, hrun, h5⟩ := int_put H4.out.drew.r4 seq n HQ.out HNN.out NN.out
  have H5 := Aside0.mk h5
  clear h5
  go_region
  all_goals go_wp2
  clear x0 x1 z1 hrun
  have x0 : W2.cell? ⟨bs, 0, none⟩ = some (.pointer (some ⟨g, 0, none⟩)) := (blk_cell (H5.out.get 6 rfl).1 0).trans rfl
  have x1 : W2.cell? ⟨bx, 0, none⟩ = some (.int .i64 3) := (blk_cell (H5.out.get 5 rfl).1 0).trans rfl
  have z1 : W2.cell? ⟨g, 7, none⟩ = some (.map (some b3)) := (blk_cell H5.out.at1 7).trans rfl
  have z2 : W2.cell? ⟨g, 3, none⟩ = some (.int .i64 m) := (blk_cell H5.out.at1 3).trans rfl
  have HD := Aside0.mk (int_del (g := g) H5.out.drew m bs bx 3 (by omega) NB.out.1 NB.out.2.1 NB.out.2.2 x0 x1 z2)
  clear z2
  refine tail_drew 7 (by kernel_rfl) (by kernel_rfl) W2.drew (Lib.hid rfl) ?_
  simp only [List.take_succ_cons, List.take_zero, List.drop_succ_cons, List.drop_zero]
  repeat ((with_reducible refine wpStill_step (fun K hK => ?_)); go_simp; (with_reducible refine hK _ ?_); clear hK K)
  with_reducible refine wpStill_nil ?_
  go_wp2_with (go_at_call 24; (with_reducible refine HD.out.mono ?_); rintro e w6 ⟨rfl, h⟩; have H6 := Aside0.mk h; clear h)
  go_ret
  have hm := HM.out
  refine ⟨rfl, note_shut H6.out.r4.r4.r4.r4.drop2 (by simp [upLo] <;> exact hm) (by simp [upLo] <;> exact hm) (by simp [upLo] <;> exact hm) (by simp [upLo] <;> exact hm) (fun k => by simp [upCo, hm]) (fun k => by simp [upCo, hm]) (fun k => by simp [upCo, hm]) (fun k => by simp [upCo, hm]) (by omega) (by omega) (by omega) (by omega)⟩
end
end Go.Proofs.Ytboomdjkgheonaa.PSeenPlays
