/- Traces: the document's rows, and what stands. -/
import Derived.Test.YtglccegihffndaaTrc10
import Derived.Deep.MidRow
namespace Go.Proofs.Ytglccegihffndaa.PTracePlays
open Go.RowKit Go.Proofs.YtglccegihffndaaW.PrintWords Go.Proofs.YtglccegihffndaaW.PrintLast Go.Proofs.YtglccegihffndaaW.PrintMore
open Go.Proofs.YtglccegihffndaaO
attribute [local go_sem] max2_int min2_int max_two min_two max_three min_three max_four min_four
set_option linter.unusedVariables false
set_option linter.unusedSimpArgs false
abbrev RR := S58
def refV (x : RR) : List Value := [.int .i64 x.f0, .bool x.f1, .string x.f2.f0, .int .i64 x.f2.f1, .int .i64 x.f2.f2.f0, .int .i64 x.f2.f2.f1, .int .i64 x.f2.f2.f2, .int .i64 x.f2.f2.f3, .int .i64 x.f2.f2.f4.f0, .int .i64 x.f2.f2.f4.f1, .int .i64 x.f2.f2.f4.f2, .int .i64 x.f2.f2.f4.f3, .int .i64 x.f3, .int .i64 x.f4, .int .i64 x.f5.f0, .int .i64 x.f5.f1, .int .i64 x.f5.f2, .int .u8 x.f5.f3, .string x.f5.f4, .int .i64 x.f5.f5, .int .i64 x.f5.f6, .int .i64 x.f5.f7, .int .i64 x.f6]
abbrev toldOf (x : RR) : TO := ⟨x.f2, x.f3, x.f4⟩
abbrev appOf (x : RR) : TA := ⟨x.f5, x.f6⟩
/-- The rows of a shard. -/
def filt (l : List RR) (part : Int) (tell : Bool) : List RR := l.filter (fun x => x.f0 == part && x.f1 == tell)
theorem filt_snoc (l : List RR) (k : Nat) (x : RR) (part : Int) (tell : Bool) (h : l[k]? = some x) : filt (l.take (k + 1)) part tell = if x.f0 = part ∧ x.f1 = tell then filt (l.take k) part tell ++ [x] else filt (l.take k) part tell := by
  unfold filt
  rw [List.take_add_one, h, List.filter_append, Option.toList_some, List.filter_cons, List.filter_nil]
  by_cases c : x.f0 = part ∧ x.f1 = tell
  · rw [if_pos c, if_pos (by simp [c.1, c.2])]
  · rw [if_neg c, if_neg (by simpa using c), List.append_nil]
theorem filt_len (l : List RR) (part : Int) (tell : Bool) : (filt l part tell).length ≤ l.length := List.length_filter_le ..
/-- A row is laid down. -/
theorem ref_lit {ev : Operand → Value} {o : Oper} {w : World} (p : Tmp) (x : RR) (ho : o.op = .buildSlice 56 1 #[(0, .tmp p)]) (hev : ev (.tmp p) = .agg (refV x).toArray) : (execOp ev o).run Try.prog w = .ok (.value (.slice (some ⟨w.heap.size, 0, none⟩) 1 1)) (w.alloc (.cells (refV x).toArray 58)) := by
  unfold execOp
  rw [ho]
  dsimp only
  simp only [List.map_toArray, List.map_cons, List.map_nil]
  rw [hev]
  unfold refV
  go_simp
theorem refV_len (x : RR) : (refV x).length = 23 := rfl
theorem ref_size : (Try.prog.info? 58).map (·.size) = some 23 := by kernel_rfl
theorem ref_mk (x : RR) (w : World) (base : Nat) (ok : Nat → Prop) : k58.M w base ok x (refV x) := k58_mkM _ _ _ _
theorem infoR : (Try.prog.info? 58).map (fun i => (i.zero, i.size, i.bytes)) = some (some (.agg #[.int .i64 0, .bool false, .string ⟨#[]⟩, .int .i64 0, .int .i64 0, .int .i64 0, .int .i64 0, .int .i64 0, .int .i64 0, .int .i64 0, .int .i64 0, .int .i64 0, .int .i64 0, .int .i64 0, .int .i64 0, .int .i64 0, .int .i64 0, .int .u8 0, .string ⟨#[]⟩, .int .i64 0, .int .i64 0, .int .i64 0, .int .i64 0]), k58.sz, 200) := by kernel_rfl
section
variable {w0 w w' : World} {R : List Asn} {g : Nat} {ss : List (List TO × List TA)}
theorem row_formA {α : Type} {d : Kd α} {e n c : Nat} {A : Option Addr} {ys : List α} (h : Own w0 w (Row d e (.slice A n c) ys :: R)) (hp : 0 < ys.length) : ∃ b, A = some ⟨b, 0, none⟩ := by
  obtain ⟨b, c', e1⟩ := row_form' h hp
  injection e1 with e1
  exact ⟨b, e1⟩
theorem ref_blk {e b n c : Nat} {l : List RR} (h : Own w0 w (Row k58 e (.slice (some ⟨b, 0, none⟩) n c) l :: R)) : ∃ cs, Own w0 w (Blk b (.cells cs e (0, 0)) :: R) ∧ ∀ j x, l[j]? = some x → ∀ i u, (refV x)[i]? = some u → cs[j * 23 + i]? = some u := by
  obtain ⟨cs, h1, h2⟩ := row_blk h
  refine ⟨cs, h1, fun j x hx i u hu => ?_⟩
  obtain ⟨c', hK, hc⟩ := h2 j x hx
  unfold refV at hu
  rw [k58_open hK] at hc
  exact hc i u hu
theorem ref_cell {e b n c : Nat} {l : List RR} (h : Own w0 w (Row k58 e (.slice (some ⟨b, 0, none⟩) n c) l :: R)) (j : Nat) (x : RR) (hx : l[j]? = some x) (i : Nat) (u : Value) (hu : (refV x)[i]? = some u) : w.cell? ⟨b, j * 23 + i, none⟩ = some u := by
  obtain ⟨cs, h1, h2⟩ := ref_blk h
  exact (blk_cell h1.at0 _).trans (h2 j x hx i u hu)
set_option maxHeartbeats 4000000 in
set_option maxRecDepth 100000 in
theorem OfC {A : Option Addr} {n c : Nat} {l : List RR} (h : Own w0 w (Row k58 58 (.slice A n c) l :: R)) (hn : l.length = n) (hb : n ≤ 1000000000) (part : Int) (tell : Bool) (r : List RR) (m : Nat) (hr : filt l part tell = r) (hm : r.length = m) : Calls Try.prog 21 #[.slice A n c, .int .i64 part, .bool tell] w fun e w' => ∃ A2 c2, e = .returned (.slice A2 m c2) ∧ Own w0 w' (Row k58 58 (.slice A2 m c2) r :: Row k58 58 (.slice A n c) l :: R) := by
  subst hn
  have HR := Aside0.mk hr
  have HM := Aside0.mk hm
  have HB := Aside0.mk hb
  have H := Aside0.mk (h.row_nil k58 58)
  have hB : l.length ≤ 9223372036854775807 := by omega
  clear h hr hm hb
  go_enter Try.func21, Try.ntmps21
  go_wp2
  go_loopw [7, 8] (fun v7 v8 wr => ∃ k : Nat, k ≤ l.length ∧ v8 = .int .i64 k ∧ Aside0 (Own w0 wr (Row k58 58 v7 (filt (l.take k) part tell) :: Row k58 58 (.slice A l.length c) l :: R))) (fun _ v8 _ => l.length - (RowKit.intOf v8).toNat)
  case atStart => exact ⟨0, Nat.zero_le _, rfl, H⟩
  case round =>
    obtain ⟨k, hk, rfl, HO⟩ := hrel
    by_cases hlt : k < l.length
    · have hgk := List.getElem?_eq_getElem hlt
      generalize l[k] = x at hgk
      have HS := Aside0.mk (fun q => filt_snoc l k x part q hgk)
      obtain ⟨b, c', e1⟩ := row_form' HO.out.r1 (by omega)
      cases e1
      obtain ⟨A1, c1, e1, _, _⟩ := HO.out.row_reads
      subst e1
      have HL := Aside0.mk (show (filt (l.take k) part tell).length ≤ 1000000000 by have := filt_len (l.take k) part tell; have := HB.out; have := List.length_take_le k l; omega)
      have hc : ∀ i u, (refV x)[i]? = some u → wr.cell? ⟨b, k * 23 + i, none⟩ = some u := fun i u hu => ref_cell HO.out.r1 k x hgk i u hu
      have HCX := Aside0.mk hc
      have p0 := hc 0 _ rfl
      have p1 := hc 1 _ rfl
      rw [Nat.add_zero] at p0
      clear hc
      have hfb := add_at b
      clear hgk
      by_cases hp : x.f0 = part
      · have qp : (x.f0 == part) = true := beq_iff_eq.mpr hp
        have HP := Aside0.mk hp
        clear hp
        by_cases ht : x.f1 = tell
        · have qt : (x.f1 == tell) = true := beq_iff_eq.mpr ht
          have HT := Aside0.mk ht
          clear ht
          go_wp2_with (first
            | ((with_reducible refine gate_dst (N := 35) rfl ?_); refine wpList_load_mid rfl 58 (.tmp 34) rfl b (k * 23) ?_ (refV x) _ HCX.out Try.underlying58 rfl ref_size ?_; (first | rfl | (go_simp; done)))
            | ((with_reducible refine gate_dst (N := 36) rfl ?_); refine Kd.event_run rfl (ref_lit 35 x rfl rfl) ?_)
            | ((with_reducible refine gate_builtin (b := .append) (xs := #[.tmp 31, .tmp 36]) rfl ?_); at_builtin; refine Own.append k58 rfl (.tmp 31) (.tmp 36) 56 58 _ 200 rfl Try.underlying56 infoR rfl (by decide) (by omega) _ (filt (l.take k) part tell) x (refV x) rfl rfl (fun _ => ref_mk x _ _ _) HO.out (by have := HL.out; omega) ?_; intro A2 c2 w2 h2; have H2 := Aside0.mk h2; clear h2))
          go_roundw
          case rel => exact ⟨k + 1, by omega, by first | rfl | go_num, ⟨by rw [HS.out tell, if_pos ⟨HP.out, HT.out⟩]; exact H2.out⟩⟩
          case measure => first | (simp [RowKit.intOf]; done) | (simp [RowKit.intOf]; omega)
        · have qt : (x.f1 == tell) = false := beq_eq_false_iff_ne.mpr ht
          have HT := Aside0.mk ht
          clear ht
          go_wp2
          go_roundw
          case rel => exact ⟨k + 1, by omega, by first | rfl | go_num, ⟨by rw [HS.out tell, if_neg (fun z => HT.out z.2)]; exact HO.out⟩⟩
          case measure => first | (simp [RowKit.intOf]; done) | (simp [RowKit.intOf]; omega)
      · have qp : (x.f0 == part) = false := beq_eq_false_iff_ne.mpr hp
        have HP := Aside0.mk hp
        clear hp
        go_wp2
        go_roundw
        case rel => exact ⟨k + 1, by omega, by first | rfl | go_num, ⟨by rw [HS.out tell, if_neg (fun z => HP.out z.1)]; exact HO.out⟩⟩
        case measure => first | (simp [RowKit.intOf]; done) | (simp [RowKit.intOf]; omega)
    · have hk' : k = l.length := by omega
      subst hk'
      rw [List.take_length, HR.out] at HO
      obtain ⟨A2, c2, e1, _, _⟩ := HO.out.row_reads
      rw [HM.out] at e1
      subst e1
      go_wp2
      go_ret
      exact ⟨_, _, rfl, HO.out⟩
end
end Go.Proofs.Ytglccegihffndaa.PTracePlays
