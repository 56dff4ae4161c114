/- Traces: the document's rows for acts. -/
import Derived.Test.YtglccegihffndaaTrc12
namespace Go.Proofs.Ytglccegihffndaa.PTracePlays
open Go.RowKit Go.Proofs.YtglccegihffndaaW.PrintWords Go.Proofs.YtglccegihffndaaW.PrintLast Go.Proofs.YtglccegihffndaaW.PrintMore
open Go.Proofs.YtglccegihffndaaO
attribute [local go_sem] max2_int min2_int max_two min_two max_three min_three max_four min_four
set_option linter.unusedVariables false
set_option linter.unusedSimpArgs false
abbrev zI : S31 := ⟨0, 0, 0, 0, ⟨#[]⟩, 0, 0, 0⟩
abbrev zO : S44 := ⟨⟨#[]⟩, 0, ⟨0, 0, 0, 0, ⟨0, 0, 0, 0⟩⟩⟩
/-- A window's row, and an item's. -/
def mkW (x : S33) (y : S44) : RR := ⟨x.f1, true, y, x.f2, x.f3, zI, 0⟩
def mkA (x : S33) : RR := ⟨x.f1, false, zO, 0, 0, x.f5, x.f6⟩
/-- The rows behind an act. -/
def addR (n : Nat) (rows : List RR) (x : S33) : List RR := if inB n x.f1 = true then (if x.f0 = 0 then rows ++ x.f4.map (mkW x) else if x.f0 = 1 then rows ++ [mkA x] else rows) else rows
/-- What stands is what the rows tell. -/
def Stood (ss : List (List TO × List TA)) (rows : List RR) : Prop := ∀ q, (sAt ss q).1 = (filt rows q true).map toldOf ∧ (sAt ss q).2 = (filt rows q false).map appOf
theorem stood_new (n : Nat) : Stood (List.replicate n ([], [])) [] := fun q => by rw [sAt_new]; exact ⟨rfl, rfl⟩
theorem filt_append (a b : List RR) (q : Int) (tell : Bool) : filt (a ++ b) q tell = filt a q tell ++ filt b q tell := List.filter_append ..
theorem filt_mkW (x : S33) (q : Int) (tell : Bool) : ∀ ys : List S44, filt (ys.map (mkW x)) q tell = if x.f1 = q ∧ tell = true then ys.map (mkW x) else []
  | [] => by rw [List.map_nil]; split <;> rfl
  | y :: ys => by
    have ih := filt_mkW x q tell ys
    unfold filt at ih ⊢
    rw [List.map_cons, List.filter_cons, ih]
    by_cases h : x.f1 = q ∧ tell = true
    · rw [if_pos h, if_pos h, if_pos (by obtain ⟨h1, rfl⟩ := h; simp [mkW, h1])]
    · rw [if_neg h, if_neg h, if_neg (by cases tell <;> simp_all [mkW])]
theorem filt_mkA (x : S33) (q : Int) (tell : Bool) : filt [mkA x] q tell = if x.f1 = q ∧ tell = false then [mkA x] else [] := by
  unfold filt
  rw [List.filter_cons, List.filter_nil]
  by_cases h : x.f1 = q ∧ tell = false
  · rw [if_pos h, if_pos (by obtain ⟨h1, rfl⟩ := h; simp [mkA, h1])]
  · rw [if_neg h, if_neg (by cases tell <;> simp_all [mkA])]
theorem stood_do (ss : List (List TO × List TA)) (rows : List RR) (hs : Stood ss rows) (x : S33) : Stood (doA ss x) (addR ss.length rows x) := by
  intro q
  obtain ⟨h1, h2⟩ := hs q
  rw [sAt_do]
  unfold addR upd
  by_cases hb : inB ss.length x.f1 = true
  · rw [if_pos hb]
    by_cases c0 : x.f0 = 0
    · rw [if_pos c0, if_pos c0, filt_append, filt_append, filt_mkW, filt_mkW, if_neg (show ¬ (x.f1 = q ∧ false = true) from fun z => by cases z.2), List.append_nil, List.map_append]
      by_cases hq : q = x.f1
      · rw [if_pos ⟨hb, hq⟩, if_pos ⟨hq.symm, rfl⟩, List.map_map]
        refine ⟨?_, h2⟩
        show (sAt ss q).1 ++ _ = _
        rw [h1]
        rfl
      · rw [if_neg (fun z => hq z.2), if_neg (fun z => hq z.1.symm), List.map_nil, List.append_nil]
        exact ⟨h1, h2⟩
    · rw [if_neg c0, if_neg c0]
      by_cases c1 : x.f0 = 1
      · rw [if_pos c1, if_pos c1, filt_append, filt_append, filt_mkA, filt_mkA, if_neg (show ¬ (x.f1 = q ∧ true = false) from fun z => by cases z.2), List.append_nil, List.map_append]
        by_cases hq : q = x.f1
        · rw [if_pos ⟨hb, hq⟩, if_pos ⟨hq.symm, rfl⟩]
          refine ⟨h1, ?_⟩
          show (sAt ss q).2 ++ _ = _
          rw [h2]
          rfl
        · rw [if_neg (fun z => hq z.2), if_neg (fun z => hq z.1.symm), List.map_nil, List.append_nil]
          exact ⟨h1, h2⟩
      · rw [if_neg c1, if_neg c1, ite_self]
        exact ⟨h1, h2⟩
  · rw [if_neg hb, if_neg (fun z => hb z.1)]
    exact ⟨h1, h2⟩
theorem stood_fold (n : Nat) : ∀ (l : List S33) (ss : List (List TO × List TA)) (rows : List RR), ss.length = n → Stood ss rows → Stood (l.foldl doA ss) (l.foldl (addR n) rows)
  | [], _, _, _, h => h
  | x :: l, ss, rows, hn, h => by
    subst hn
    rw [List.foldl_cons, List.foldl_cons]
    exact stood_fold _ l _ _ (doA_len ss x) (stood_do ss rows h x)
theorem addR_len (n : Nat) (rows : List RR) (x : S33) (h : x.f4.length ≤ 30) : (addR n rows x).length ≤ rows.length + 30 := by
  unfold addR
  split
  · split
    · simp; omega
    · split
      · simp
      · omega
  · omega
theorem foldR_len (n : Nat) : ∀ (l : List S33) (rows : List RR), (∀ x ∈ l, x.f4.length ≤ 30) → (l.foldl (addR n) rows).length ≤ rows.length + 30 * l.length
  | [], rows, _ => by simp
  | x :: l, rows, h => by
    have h1 := addR_len n rows x (h x (List.mem_cons_self ..))
    have h2 := foldR_len n l (addR n rows x) fun y hy => h y (List.mem_cons_of_mem _ hy)
    rw [List.foldl_cons, List.length_cons]
    omega
/-- A window's cells. -/
def outL (x : S44) : List Value := [.string x.f0, .int .i64 x.f1, .int .i64 x.f2.f0, .int .i64 x.f2.f1, .int .i64 x.f2.f2, .int .i64 x.f2.f3, .int .i64 x.f2.f4.f0, .int .i64 x.f2.f4.f1, .int .i64 x.f2.f4.f2, .int .i64 x.f2.f4.f3]
theorem infoO : (Try.prog.info? 44).map (fun i => (i.zero, i.size, i.bytes)) = some (some (.agg #[.string ⟨#[]⟩, .int .i64 0, .int .i64 0, .int .i64 0, .int .i64 0, .int .i64 0, .int .i64 0, .int .i64 0, .int .i64 0, .int .i64 0]), k44.sz, 88) := by kernel_rfl
section
variable {w0 w w' : World} {R : List Asn} {g : Nat} {ss : List (List TO × List TA)}
theorem row_C {α : Type} {d : Kd α} {e n c : Nat} {A : Option Addr} {xs : List α} (h : Own w0 w (Row d e (.slice A n c) xs :: R)) : Kd.C d w A xs.length xs := by
  obtain ⟨A', c', e1, _, hC⟩ := h.row_reads
  cases e1
  exact hC
theorem row_len {α : Type} {d : Kd α} {e n c : Nat} {A : Option Addr} {xs : List α} (h : Own w0 w (Row d e (.slice A n c) xs :: R)) : xs.length = n := by
  obtain ⟨A', c', e1, _, hC⟩ := h.row_reads
  cases e1
  rfl
theorem out_blk {e b n c : Nat} {l : List S44} (h : Own w0 w (Row k44 e (.slice (some ⟨b, 0, none⟩) n c) l :: R)) : ∃ cs, Own w0 w (Blk b (.cells cs e (0, 0)) :: R) ∧ ∀ j x, l[j]? = some x → ∀ i u, (outL x)[i]? = some u → cs[j * 10 + i]? = some u := by
  obtain ⟨cs, h1, h2⟩ := row_blk h
  refine ⟨cs, h1, fun j x hx i u hu => ?_⟩
  obtain ⟨c', hK, hc⟩ := h2 j x hx
  unfold outL at hu
  rw [k44_open hK] at hc
  exact hc i u hu
theorem out_cell {e b n c : Nat} {l : List S44} (h : Own w0 w (Row k44 e (.slice (some ⟨b, 0, none⟩) n c) l :: R)) (j : Nat) (x : S44) (hx : l[j]? = some x) (i : Nat) (u : Value) (hu : (outL x)[i]? = some u) : w.cell? ⟨b, j * 10 + i, none⟩ = some u := by
  obtain ⟨cs, h1, h2⟩ := out_blk h
  exact (blk_cell h1.at0 _).trans (h2 j x hx i u hu)
/-- A row as it is built. -/
theorem build_W {ev : Operand → Value} {o : Oper} {w : World} (p0 p2 p3 p4 : Tmp) (x : S33) (y : S44) (ho : o.op = .build 58 #[(0, .tmp p0), (1, .const (.bool true)), (2, .tmp p2), (3, .tmp p3), (4, .tmp p4)]) (h0 : ev (.tmp p0) = .int .i64 x.f1) (h1 : ev (.const (.bool true)) = .bool true) (h2 : ev (.tmp p2) = .agg (outL y).toArray) (h3 : ev (.tmp p3) = .int .i64 x.f2) (h4 : ev (.tmp p4) = .int .i64 x.f3) : (execOp ev o).run Try.prog w = .ok (.value (.agg (refV (mkW x y)).toArray)) w := by
  unfold execOp
  rw [ho]
  dsimp only
  simp only [List.map_toArray, List.map_cons, List.map_nil]
  rw [h0, h1, h2, h3, h4]
  unfold refV outL mkW
  go_simp
theorem build_A {ev : Operand → Value} {o : Oper} {w : World} (p0 p5 p6 : Tmp) (x : S33) (ho : o.op = .build 58 #[(0, .tmp p0), (5, .tmp p5), (6, .tmp p6)]) (h0 : ev (.tmp p0) = .int .i64 x.f1) (h5 : ev (.tmp p5) = .agg (itemV x.f5)) (h6 : ev (.tmp p6) = .int .i64 x.f6) : (execOp ev o).run Try.prog w = .ok (.value (.agg (refV (mkA x)).toArray)) w := by
  unfold execOp
  rw [ho]
  dsimp only
  simp only [List.map_toArray, List.map_cons, List.map_nil]
  rw [h0, h5, h6]
  unfold refV itemV mkA
  go_simp
end
end Go.Proofs.Ytglccegihffndaa.PTracePlays
