/- Communications of one goroutine inside a walk by 'Code.wp': a region whose first operation is a select; a region that draws and whose last operation is a receive. -/
import Derived.Test.YtdnpodpmicllgaaWMore
import Derived.Test.YtdnpodpmicllgaaWLast
import Derived.Conc.LoneSelect
import Derived.Lib.Hide
namespace Go.Proofs.YtdnpodpmicllgaaC
open Go.RowKit Go.Conc
set_option linter.unusedVariables false

/-- A walk in a frame that is no early one. -/
def WpN (P : Program) (c : Code) (Q : Exit → Act → World → Prop) (a : Act) (w : World) : Prop :=
  ∀ (b : Frame) (k : List Item) (cs : List Frame), b.kind ≠ .early → ∃ e a' w', Q e a' w' ∧ Arrives P (lone (b.at a (.code c :: k)) cs w) b k cs e a' w'
section
variable {P : Program} {Q : Exit → Act → World → Prop} {a : Act} {w : World}
theorem WpN.of {c : Code} (h : c.wp P Q a w) : WpN P c Q a w := fun b k cs _ => h b k cs
theorem WpN.mono {c : Code} {Q' : Exit → Act → World → Prop} (h : WpN P c Q a w) (hq : ∀ e a w, Q e a w → Q' e a w) : WpN P c Q' a w :=
  fun b k cs hb => let ⟨e, a', w', q, r⟩ := h b k cs hb; ⟨e, a', w', hq _ _ _ q, r⟩
theorem WpN.seq {x y : Code} (h : WpN P x (Exit.then (WpN P y Q) Q) a w) : WpN P (Code.seq x y) Q a w := by
  intro b k cs hb
  obtain ⟨e, a₁, w₁, hq, harr⟩ := h b (.code y :: k) cs hb
  cases e with
  | normal =>
    obtain ⟨e₂, a₂, w₂, hq₂, harr₂⟩ := hq b k cs hb
    exact ⟨e₂, a₂, w₂, hq₂, .of_steps (.head step_seq harr) harr₂⟩
  | exit id => exact ⟨_, a₁, w₁, hq, .of_steps (.one step_seq) (.pass (x := .code y) rfl (fun _ _ => .inl (by simp)) harr)⟩
  | goto l => exact ⟨_, a₁, w₁, hq, .of_steps (.one step_seq) (.pass (x := .code y) rfl (fun _ _ => .inl (by simp)) harr)⟩
  | ret => exact ⟨_, a₁, w₁, hq, .of_steps (.one step_seq) (.pass (x := .code y) rfl (fun _ _ => .inl (by simp)) harr)⟩
  | panic ch => exact ⟨_, a₁, w₁, hq, .of_steps (.one step_seq) (.pass (x := .code y) rfl (fun _ _ => .inl (by simp)) harr)⟩
  | outgrown => exact ⟨_, a₁, w₁, hq, .of_steps (.one step_seq) (.pass (x := .code y) rfl (fun _ _ => .inl (by simp)) harr)⟩
/-- A cut: M holds behind the first part. -/
theorem WpN.cut {x y : Code} (M : Act → World → Prop) (h1 : x.wp P (Exit.then M Q) a w) (h2 : ∀ a w, M a w → WpN P y Q a w) : WpN P (Code.seq x y) Q a w :=
  WpN.seq ((WpN.of h1).mono fun e a w q => by cases e <;> first | exact h2 _ _ q | exact q)
theorem WpN.cutN {x y : Code} (M : Act → World → Prop) (h1 : WpN P x (Exit.then M Q) a w) (h2 : ∀ a w, M a w → WpN P y Q a w) : WpN P (Code.seq x y) Q a w :=
  WpN.seq (h1.mono fun e a w q => by cases e <;> first | exact h2 _ _ q | exact q)
theorem WpN.cond {c : Operand} {x y : Code} {t : Bool} (hc : a.eval c = .bool t) (h : WpN P (if t then x else y) Q a w) : WpN P (Code.cond c x y) Q a w :=
  fun b k cs hb => let ⟨e, a', w', q, r⟩ := h b k cs hb; ⟨e, a', w', q, .of_steps (.one (step_cond hc)) r⟩
theorem calls_of_wpN {f : FuncId} {fn : Func} {c : Code} {args : Array Value} {R : Ending → World → Prop} (hf : P.funcs[f]? = some fn) (hb : fn.body = some c)
    (h : WpN P c (bodyPost P fn R) { tmps := args ++ Array.replicate (fn.ntmps - args.size) undef, defers := [] } w) : Calls P f args w R := by
  intro cs
  let b : Frame := { (default : Frame) with fn := f, kind := .normal }
  have henter : Frame.enter P f args .normal = b.at { tmps := args ++ Array.replicate (fn.ntmps - args.size) undef, defers := [] } [.code c] := by
    simp [Frame.enter, Frame.at, hf, hb, b]
  obtain ⟨e, a', w', hq, harr⟩ := h b [] cs (by simp [b])
  rw [← henter] at harr
  cases e with
  | normal =>
    obtain ⟨hd, v, hr, hR⟩ := hq
    exact ⟨.returned v, w', _, hR, Steps.trans harr (.one step_end), rfl, rfl, hd, rfl, fn, hf, hr⟩
  | ret =>
    obtain ⟨hd, v, hr, hR⟩ := hq
    obtain ⟨todo, hs⟩ := harr
    exact ⟨.returned v, w', _, hR, hs, rfl, rfl, hd, rfl, fn, hf, hr⟩
  | panic chain =>
    obtain ⟨hd, hR⟩ := hq
    obtain ⟨todo, hs⟩ := harr
    exact ⟨.panicked chain, w', _, hR, hs, rfl, rfl, hd, fn, hf⟩
  | exit id => exact hq.elim
  | goto l => exact hq.elim
  | outgrown => exact ⟨.outgrown, w', b, hq, harr.resolve_left (by simp [b]), rfl, trivial⟩
end

/-- Operation i of a region, in this state, is one step that leaves v and the world w1. -/
def CommOne (P : Program) (ops : Array Oper) (i : Nat) (a : Act) (w : World) (v : Value) (w1 : World) : Prop :=
  ∀ (b : Frame) (k : List Item) (cs : List Frame) (rest : List Nat), b.kind ≠ .early → step P (lone (b.at a (.inRegion ops (i :: rest) :: k)) cs w) = .next (lone (b.at (a.put ((ops[i]?).bind (·.dst)) v) (.inRegion ops rest :: k)) cs w1)
section
variable {P : Program} {ops : Array Oper} {i : Nat} {o : Oper} {a : Act} {w w1 : World} {c cap s r : Nat} {buf : Array Value} {z z' v : Value} {tm closed : Bool}
theorem comm_send_room (hi : ops[i]? = some o) (hw : Region.wanted o (yielded ops a.tmps) = true)
    (hx : (execOp a.eval o).run P w = .ok (.comm #[scase c v z'] false .select) w) (hc : w.heap[c]? = some (.chan cap buf false s r tm)) (hroom : buf.size < cap) :
    CommOne P ops i a w (.tuple #[goInt 0, .bool false]) (w.setChan c cap (buf.push v) false (s + 1) r tm) := by
  intro b k cs rest hb
  rw [← Frame.finish_at]
  exact step_lone_select_send_room (stepG_comm hi hw hb hx) hc hroom
theorem comm_send_full (hi : ops[i]? = some o) (hw : Region.wanted o (yielded ops a.tmps) = true)
    (hx : (execOp a.eval o).run P w = .ok (.comm #[scase c v z'] false .select) w) (hc : w.heap[c]? = some (.chan cap buf false s r tm)) (hfull : cap ≤ buf.size) :
    CommOne P ops i a w (.tuple #[goInt (-1), .bool false]) w := by
  intro b k cs rest hb
  rw [← Frame.finish_at]
  exact step_lone_select_send_full (stepG_comm hi hw hb hx) hc hfull
theorem comm_recv (hi : ops[i]? = some o) (hw : Region.wanted o (yielded ops a.tmps) = true)
    (hx : (execOp a.eval o).run P w = .ok (.comm #[rcase c z] true (.recv false)) w) (hc : w.heap[c]? = some (.chan cap buf closed s r tm)) (hsome : 0 < buf.size) :
    CommOne P ops i a w (buf.getD 0 undef) (w.setChan c cap (buf.extract 1 buf.size) closed s (r + 1) tm) := by
  intro b k cs rest hb
  rw [← Frame.finish_at]
  exact step_lone_recv_buf false (stepG_comm hi hw hb hx) hc hsome
/-- A region whose first operation communicates. -/
theorem wpN_first {id : Nat} {Q : Exit → Act → World → Prop} {N : Option Tmp} (l : List Nat) (hl : List.range ops.size = 0 :: l) (hN : (ops[0]?).bind (·.dst) = N) (hc : CommOne P ops 0 a w v w1) (h : wpOps P ops Q l (a.put N v) w1) : WpN P (.region id ops false) Q a w := by
  intro b k cs hb
  subst hN
  obtain ⟨e, a', w', q, r⟩ := wp_ops l _ _ h b k cs
  refine ⟨e, a', w', q, .of_steps (.head step_region (.one ?_)) r⟩
  rw [hl]
  exact hc b k cs l hb
end

/-! ### A region that draws; its last operation receives -/
section
variable {P : Program} {ops opsX : Array Oper} {Q QX : Exit → Act → World → Prop}
/-- A list of operations, others behind it. -/
theorem ops_then (hg : ∀ (i : Nat) (o : Oper), ops[i]? = some o → o.guard = none) (rest : List Nat) : ∀ (l : List Nat) (hs : ∀ i ∈ l, opsX[i]? = ops[i]?) (a : Act) (w : World), wpOps P opsX QX l a w → ∀ (b : Frame) (k : List Item) (cs : List Frame),
    (∃ a1 w1, QX .normal a1 w1 ∧ Steps P (lone (b.at a (.inRegion ops (l ++ rest) :: k)) cs w) (lone (b.at a1 (.inRegion ops rest :: k)) cs w1)) ∨
      ∃ e a' w', e ≠ .normal ∧ QX e a' w' ∧ Arrives P (lone (b.at a (.inRegion ops (l ++ rest) :: k)) cs w) b k cs e a' w' := by
  intro l
  induction l with
  | nil => exact fun _ a w h b k cs => .inl ⟨a, w, h, Steps.refl _ _⟩
  | cons i l ih =>
    intro hs a w h b k cs
    have go : ∀ {a2 : Act} {w2 : World}, Steps P (lone (b.at a (.inRegion ops (i :: (l ++ rest)) :: k)) cs w) (lone (b.at a2 (.inRegion ops (l ++ rest) :: k)) cs w2) → wpOps P opsX QX l a2 w2 →
        (∃ a1 w1, QX .normal a1 w1 ∧ Steps P (lone (b.at a (.inRegion ops (i :: l ++ rest) :: k)) cs w) (lone (b.at a1 (.inRegion ops rest :: k)) cs w1)) ∨
          ∃ e a' w', e ≠ .normal ∧ QX e a' w' ∧ Arrives P (lone (b.at a (.inRegion ops (i :: l ++ rest) :: k)) cs w) b k cs e a' w' := fun {a2 w2} hst h2 => by
      rcases ih (fun j hj => hs j (List.mem_cons_of_mem _ hj)) _ _ h2 b k cs with ⟨a1, w1, q, st⟩ | ⟨e, a', w', hn, q, ar⟩
      · exact .inl ⟨a1, w1, q, Steps.trans hst st⟩
      · exact .inr ⟨e, a', w', hn, q, .of_steps hst ar⟩
    have hsi := hs i (List.mem_cons_self ..)
    simp only [wpOps] at h
    rw [hsi] at h
    cases ho : ops[i]? with
    | none =>
      simp only [ho] at h
      have hst := step_op_skip (P := P) (b := b) (a := a) (k := k) (cs := cs) (w := w) (ops := ops) (i := i) (rest := l ++ rest) (by simp [ho])
      simp only [ho, Option.bind_none, Act.put] at hst
      exact go (.one hst) h
    | some o =>
      simp only [ho] at h
      have hgo := hg i o ho
      have hw : ∀ y, Region.wanted o y = true := fun y => by simp [Region.wanted, hgo]
      rw [if_pos (hw _)] at h
      have hg := stepG_op (P := P) (b := b) (k := k) (cs := cs) (w := w) (a := a) (ops := ops) (rest := l ++ rest) ho (hw _)
      have hfin : ∀ v, (b.at a (.inRegion ops (i :: (l ++ rest)) :: k)).finish v = b.at (a.put o.dst v) (.inRegion ops (l ++ rest) :: k) := by
        intro v; rw [Frame.finish_at, ho]; rfl
      rcases h with h | ⟨hasks, a₀, w₀, hq⟩
      case inr =>
        by_cases hk : b.kind = .early
        · exact .inr ⟨.outgrown, a₀, w₀, by simp, hq, .inl hk⟩
        · exact .inr ⟨.outgrown, a₀, w₀, by simp, hq, .inr (asks_outgrown ho (hw _) hk hasks)⟩
      simp only [Oper.wp, Oper.upon] at h
      split at h
      · rename_i v w' hr
        refine go (.one (step_lone_go ?_)) h
        rw [hg, ← hfin]; simp [stepG.apply, hr]
      · rename_i w' hr
        refine go (.one (step_lone_go ?_)) h
        rw [hg, ← hfin]; simp [stepG.apply, hr]
      · rename_i d w' hr
        refine go (.one (step_lone_go ?_)) h
        have : ({ b.at a (.inRegion ops (i :: (l ++ rest)) :: k) with defers := d :: a.defers } : Frame).finish undef =
            b.at ({ a with defers := d :: a.defers }.put o.dst undef) (.inRegion ops (l ++ rest) :: k) := by
          have := Frame.finish_at b { a with defers := d :: a.defers } ops i (l ++ rest) k undef
          rw [ho] at this; exact this
        rw [hg]; simp only [stepG.apply, Sem.runT_eq, hr, GStep.bare_after]
        exact congrArg (fun fr => GStep.go { frame := fr, callers := cs, status := .running, dying := none } w') this
      · rename_i f args w' hr
        obtain ⟨e, w'', fr, hR, hsteps, _, hleave⟩ := h (b.at a (.inRegion ops (i :: (l ++ rest)) :: k) :: cs)
        have henter : step P (lone (b.at a (.inRegion ops (i :: (l ++ rest)) :: k)) cs w) =
            .next (lone (Frame.enter P f args .normal) (b.at a (.inRegion ops (i :: (l ++ rest)) :: k) :: cs) w') :=
          step_lone_go (by rw [hg]; simp [stepG.apply, hr, Frame.at])
        cases e with
        | returned v =>
          refine go (.head henter (hsteps.trans (.one ?_))) hR
          rw [← hfin]; exact step_leave_returned hleave
        | panicked chain =>
          refine .inr ⟨.panic chain, a, w'', by simp, hR, .inRegion ops (i :: (l ++ rest)) :: k, .head henter (hsteps.trans (.one ?_))⟩
          rw [← Frame.raise_at]; exact step_leave_panicked hleave
        | outgrown =>
          obtain ⟨a₀, w₀, hq⟩ := hR
          exact .inr ⟨.outgrown, a₀, w₀, by simp, hq, .inr (Outgrown.of_steps (.one henter) hsteps)⟩
      · rename_i row args w' hr
        obtain ⟨v, w'', hR, hsteps⟩ := h (b.at a (.inRegion ops (i :: (l ++ rest)) :: k)) cs
        have henter : step P (lone (b.at a (.inRegion ops (i :: (l ++ rest)) :: k)) cs w) =
            .next (lone (Frame.ofRow P row args .normal) (b.at a (.inRegion ops (i :: (l ++ rest)) :: k) :: cs) w') :=
          step_lone_go (by rw [hg]; simp [stepG.apply, hr, Frame.at])
        refine go (.head henter ?_) hR
        rw [← hfin]; exact hsteps
      · rename_i v w' hr
        refine .inr ⟨_, a, w', by simp, h, .inRegion ops (i :: (l ++ rest)) :: k, .one (step_lone_go ?_)⟩
        rw [List.cons_append, hg, ← Frame.raise_at]; simp [stepG.apply, hr]
      · exact h.elim
/-- Whatever is drawn, n comes last. -/
def endsIn (ops : Array Oper) (n : Nat) : Nat → Array Bool → Bool
  | 0, _ => false
  | fuel + 1, listed => !(Region.ready .any ops listed).isEmpty && (Region.ready .any ops listed).all fun i => if i == n then fuel == 0 else endsIn ops n fuel (listed.setIfInBounds i true)
theorem endsIn_go (n : Nat) : ∀ (fuel t : Nat) (listed : Array Bool), endsIn ops n fuel listed = true → ∃ l0, Region.linearise.go .any ops fuel t listed [] = l0 ++ [n] ∧ n ∉ l0 := by
  intro fuel
  induction fuel with
  | zero => intro t listed h; simp [endsIn] at h
  | succ fuel ih =>
    intro t listed h
    simp only [endsIn, Bool.and_eq_true, Bool.not_eq_true', List.all_eq_true] at h
    obtain ⟨h0, h1⟩ := h
    simp only [Region.linearise.go]
    change ∃ l0, (match (Region.ready .any ops listed)[t % (Region.ready .any ops listed).length]? with
      | some i => Region.linearise.go .any ops fuel (t / (Region.ready .any ops listed).length) (listed.setIfInBounds i true) [i]
      | none => [].reverse) = l0 ++ [n] ∧ n ∉ l0
    have hlen : 0 < (Region.ready .any ops listed).length := by
      cases hr : Region.ready .any ops listed with
      | nil => rw [hr] at h0; simp at h0
      | cons x xs => simp
    have hlt := Nat.mod_lt t hlen
    rw [List.getElem?_eq_getElem hlt]
    obtain ⟨i, hi⟩ : ∃ i, i = (Region.ready .any ops listed)[t % (Region.ready .any ops listed).length] := ⟨_, rfl⟩
    have hm : i ∈ Region.ready .any ops listed := by rw [hi]; exact List.getElem_mem _
    rw [← hi]
    have h2 := h1 i hm
    simp only []
    rw [linearise_go_acc, List.reverse_singleton, List.singleton_append]
    by_cases hin : i = n
    · subst hin
      simp only [beq_self_eq_true, if_true, beq_iff_eq] at h2
      subst h2
      exact ⟨[], by simp [Region.linearise.go], by simp⟩
    · have hb : (i == n) = false := by simpa using hin
      rw [hb, if_neg (by simp)] at h2
      obtain ⟨l0, e, hn⟩ := ih (t / (Region.ready .any ops listed).length) _ h2
      exact ⟨i :: l0, by rw [e]; rfl, fun q => by rcases List.mem_cons.1 q with q | q; exact hin q.symm; exact hn q⟩
theorem upon_then {o : Oper} {a : Act} {K K' : Act → World → Prop} {r : Result Next} (h : Oper.upon P o a K QX r) : Oper.upon P o a K (Exit.then K' QX) r := by
  cases r with
  | ok n w' => cases n <;> exact h
  | halt x w' => cases x <;> exact h
theorem wpOps_split (l2 : List Nat) : ∀ (l : List Nat) (a : Act) (w : World), wpOps P opsX QX (l ++ l2) a w → wpOps P opsX (Exit.then (wpOps P opsX QX l2) QX) l a w
  | [], _, _, h => h
  | i :: l, a, w, h => by
    rw [List.cons_append, wpOps_cons] at h
    rw [wpOps_cons]
    unfold wpOp at h ⊢
    cases ho : opsX[i]? with
    | none =>
      rw [ho] at h
      exact wpOps_split l2 l _ _ h
    | some o =>
      rw [ho] at h
      dsimp only at h ⊢
      split
      · rename_i hw
        rw [if_pos hw] at h
        rcases h with h | h
        · exact .inl (upon_then (Oper.wp_mono (fun a w q => wpOps_split l2 l a w q) h))
        · exact .inr h
      · rename_i hw
        rw [if_neg hw] at h
        exact wpOps_split l2 l _ _ h
theorem ready_same (hsz : opsX.size = ops.size) (ha : ∀ i : Nat, (opsX[i]?).map Oper.after = (ops[i]?).map Oper.after) (listed : Array Bool) : Region.ready .any opsX listed = Region.ready .any ops listed := by
  unfold Region.ready
  rw [hsz]
  refine List.filter_congr fun i _ => ?_
  have := ha i
  cases h1 : opsX[i]? with
  | none =>
    rw [h1] at this
    cases h2 : ops[i]? with
    | none => rfl
    | some y => rw [h2] at this; simp at this
  | some x =>
    rw [h1] at this
    cases h2 : ops[i]? with
    | none => rw [h2] at this; simp at this
    | some y => rw [h2] at this; simp only [Option.map_some, Option.some.injEq] at this; simp only [Option.map_some, this]
theorem go_same (hsz : opsX.size = ops.size) (ha : ∀ i : Nat, (opsX[i]?).map Oper.after = (ops[i]?).map Oper.after) : ∀ (fuel t : Nat) (listed : Array Bool), Region.linearise.go .any opsX fuel t listed [] = Region.linearise.go .any ops fuel t listed [] := by
  intro fuel
  induction fuel with
  | zero => intro t listed; rfl
  | succ fuel ih =>
    intro t listed
    have hr := ready_same hsz ha listed
    simp only [Region.linearise.go]
    change (match (Region.ready .any opsX listed)[t % (Region.ready .any opsX listed).length]? with
      | some i => Region.linearise.go .any opsX fuel (t / (Region.ready .any opsX listed).length) (listed.setIfInBounds i true) [i]
      | none => [].reverse) = (match (Region.ready .any ops listed)[t % (Region.ready .any ops listed).length]? with
      | some i => Region.linearise.go .any ops fuel (t / (Region.ready .any ops listed).length) (listed.setIfInBounds i true) [i]
      | none => [].reverse)
    rw [hr]
    split
    · rename_i i _
      rw [linearise_go_acc, linearise_go_acc (ops := ops), ih]
    · rfl
theorem wpN_recv {id n : Nat} {a : Act} {w : World} {ox : Oper} {u : Value} (hm : P.follows .mixedOrders = true) (hsz : opsX.size = ops.size) (hs : ∀ i : Nat, i ≠ n → opsX[i]? = ops[i]?)
    (hxa : (opsX[n]?).map Oper.after = (ops[n]?).map Oper.after) (hxn : opsX[n]? = some ox) (hop : ox.op = .move (.const u)) (hdst : ox.dst = none) (hgx : ox.guard = none)
    (hg : ∀ (i : Nat) (o : Oper), ops[i]? = some o → o.guard = none) (hend : endsIn ops n ops.size (Array.replicate ops.size false) = true)
    (h : wpAny P .any opsX QX opsX.size (Array.replicate opsX.size false) a w.drew)
    (hq : ∀ a w, QX .normal a w → ∃ v w1, CommOne P ops n a w v w1 ∧ Q .normal (a.put ((ops[n]?).bind (·.dst)) v) w1)
    (hqe : ∀ e a w, e ≠ .normal → QX e a w → Q e a w) : WpN P (.region id ops true) Q a w := by
  intro b k cs hb
  have ha : ∀ i : Nat, (opsX[i]?).map Oper.after = (ops[i]?).map Oper.after := fun i => by
    by_cases hi : i = n
    · subst hi; exact hxa
    · rw [hs i hi]
  have hst := step_region_draw (P := P) (b := b) (a := a) (k := k) (cs := cs) (w := w) (ops := ops) (id := id)
  simp only [Region.schedule, hm, Bool.true_or, if_true] at hst
  generalize w.tape w.drawn (.order b.fn id) = t at hst
  obtain ⟨l0, hl, hn⟩ := endsIn_go n ops.size t _ hend
  have hw := wpAny_sound opsX.size t _ a _ h
  rw [go_same hsz ha, hsz, hl] at hw
  have hs1 := wpOps_split [n] l0 _ _ hw
  have hlin : Region.linearise .any ops t = l0 ++ [n] := hl
  rw [hlin] at hst
  rcases ops_then hg [n] l0 (fun i hi => hs i fun e => hn (e ▸ hi)) _ _ hs1 b k cs with ⟨a1, w1, q, st⟩ | ⟨e, a', w', hne, q, ar⟩
  · have q : wpOps P opsX QX [n] a1 w1 := q
    have hwd : Region.wanted ox (yielded opsX a1.tmps) = true := by simp [Region.wanted, hgx]
    simp only [wpOps] at q
    rw [hxn] at q
    dsimp only at q
    rw [if_pos hwd] at q
    have hrun : (execOp a1.eval ox).run P w1 = .ok (.value u) w1 := by unfold execOp; simp [hop, Act.eval]
    rcases q with q | ⟨⟨hk, _⟩, _⟩
    · unfold Oper.wp at q
      rw [hrun] at q
      have q : QX .normal (a1.put ox.dst u) w1 := q
      rw [hdst] at q
      obtain ⟨v, w2, hc, hQ⟩ := hq a1 w1 q
      exact ⟨.normal, _, w2, hQ, Steps.trans (.one hst) (Steps.trans st (Steps.trans (.one (hc b k cs [] hb)) (.one step_region_end)))⟩
    · exfalso
      unfold execOp at hk
      simp [hop] at hk
  · have q : QX e a' w' := by cases e <;> first | exact absurd rfl hne | exact q
    exact ⟨e, a', w', hqe _ _ _ hne q, .of_steps (.one hst) ar⟩
/-- What is asked ahead of the receive. -/
def recvQ (P : Program) (ops : Array Oper) (n : Nat) (Q : Exit → Act → World → Prop) : Exit → Act → World → Prop
  | .normal, a, w => ∃ v w1, CommOne P ops n a w v w1 ∧ Q .normal (a.put ((ops[n]?).bind (·.dst)) v) w1
  | e, a, w => Q e a w
theorem wpN_recvQ {id n m : Nat} {S : World → Prop} {a : Act} {w : World} (ox : Oper) {u : Value} (hm : P.follows .mixedOrders = true) (hm2 : ops.size = m) (hn : n < ops.size) (hxa : (ops[n]?).map Oper.after = some ox.after) (hop : ox.op = .move (.const u)) (hdst : ox.dst = none) (hgx : ox.guard = none)
    (hg : ops.toList.all (fun o => o.guard.isNone) = true) (hend : endsIn ops n ops.size (Array.replicate ops.size false) = true) (hS : S w.drew) {l : Array Bool} (hl : Array.replicate m false = l) {X : Array Oper} (hX : ops.setIfInBounds n ox = X)
    (h : S w.drew → Go.Proofs.YtdnpodpmicllgaaW.PrintLast.wpAnyLast P .any X (recvQ P ops n Q) S [] m l a w.drew) : WpN P (.region id ops true) Q a w := by
  subst hX
  subst hm2
  subst hl
  refine wpN_recv (opsX := ops.setIfInBounds n ox) (QX := recvQ P ops n Q) (u := u) (ox := ox) hm (by simp) (fun i hi => by rw [Array.getElem?_setIfInBounds_ne (fun e => hi e.symm)]) ?_ ?_ hop hdst hgx (fun i o ho => ?_) hend ?_ (fun a w q => q) (fun e a w hne q => by cases e <;> first | exact absurd rfl hne | exact q)
  · rw [Array.getElem?_setIfInBounds_self_of_lt hn, hxa]
    rfl
  · rw [Array.getElem?_setIfInBounds_self_of_lt hn]
  · have := List.all_eq_true.1 hg o (by rw [Array.mem_toList_iff]; exact Array.mem_of_getElem? ho)
    simpa using this
  · rw [Array.size_setIfInBounds]
    exact Go.Proofs.YtdnpodpmicllgaaW.PrintLast.wpAny_of_last _ _ _ _ (h hS)
end
end Go.Proofs.YtdnpodpmicllgaaC
