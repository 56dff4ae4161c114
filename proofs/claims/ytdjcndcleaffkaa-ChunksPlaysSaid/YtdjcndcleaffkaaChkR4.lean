/- The document's own answer for pieces that come, beside whatever else one owns. -/
import Derived.Test.YtdjcndcleaffkaaChkR3
namespace Go.Proofs.Ytdjcndcleaffkaa.PChunksPlays
open Go.RowKit Go.Proofs.YtdjcndcleaffkaaW.PrintWords Go.Proofs.YtdjcndcleaffkaaW.PrintLast Go.Proofs.YtdjcndcleaffkaaW.PrintMore
open Go.Proofs.YtdjcndcleaffkaaO
attribute [local go_sem] max2_int min2_int max_two min_two max_three min_three max_four min_four
set_option linter.unusedVariables false
set_option linter.unusedSimpArgs false
section
variable {w0 w w' : World} {R : List Asn} {v : Value} {ps : List PC}
theorem RefPut (h : Own w0 w (Row k66 66 v ps :: R)) (n cnt : Int) (d : ByteArray) (ps' : List PC) (b : Bool) (er : Int) (hf : meterref16_Rows_Put.f 1 ps n cnt d = some (ps', b, er)) : Calls Try.prog 18 #[.agg #[v], .int .i64 n, .int .i64 cnt, .string d] w fun e w' => ∃ v', e = .returned (.tuple #[.agg #[v'], .bool b, .int .i64 er]) ∧ Own w0 w' (Row k66 66 v' ps' :: R) := by
  have hbel := h.bel
  obtain ⟨F, h1, h2, h3⟩ := h.open1
  refine (meterref16_Rows_Put.calls 1 F v ps n cnt d ps' b er w0 w h.bel h1.1 hf).mono ?_
  rintro e w' ⟨v', rfl, hr, hb, hk⟩
  exact ⟨v', rfl, h3 w' _ ⟨hb.os.trans hbel.os.symm, hb.tape.trans hbel.tape.symm, hb.output.trans hbel.output.symm, hk.1, fun k hk1 hn => hk.2 k hk1 hn, _, ⟨Kd.R_bound hr, fun k hk => hk.2.2.1⟩, fun k hk => hk.1⟩⟩
theorem RefAcks (h : Own w0 w (Row k66 66 v ps :: R)) (k : Nat) (low : Int) (M : List Int) (hf : meterref16_Rows_Acks.f k ps = some (low, M)) : Calls Try.prog 19 #[.agg #[v]] w fun e w' => ∃ A c, e = .returned (.tuple #[.int .i64 low, .slice A M.length c]) ∧ Own w0 w' (Row (Kd.int .i64) 3 (.slice A M.length c) M :: Row k66 66 v ps :: R) := by
  obtain ⟨A, c, rfl, hc, hC⟩ := h.row_reads
  refine (meterref16_Rows_Acks.calls k A c ps low M w hC hc hf).mono ?_
  rintro e w' ⟨u, rfl, hr, hb⟩
  obtain ⟨A2, c2, e2⟩ := Kd.R_slice hr
  subst e2
  exact ⟨A2, c2, rfl, h.row_new hb hr⟩
theorem RefWhole (h : Own w0 w (Row k66 66 v ps :: R)) (k : Nat) (s : ByteArray) (b : Bool) (hf : meterref16_Rows_Whole.f k ps = some (s, b)) : Calls Try.prog 20 #[.agg #[v]] w fun e w' => e = .returned (.tuple #[.string s, .bool b]) ∧ Below w.heap.size w w' := by
  obtain ⟨A, c, rfl, hc, hC⟩ := h.row_reads
  exact meterref16_Rows_Whole.calls k A c ps s b w hC hc hf
theorem _root_.Go.Proofs.YtdjcndcleaffkaaO.Own.box {w0 W w1 : World} {L : List Asn} {g : Nat} {o : Obj} (h : Own w0 W L) (hg : g = W.heap.size) (ho : w1.heap[g]? = some o) (hb : Below W.heap.size W w1) : Own w0 w1 (Blk g o :: L) :=
  h.make hb ⟨fun k => k = g, ⟨ho, fun _ => Iff.rfl⟩, fun k hk => by omega⟩
theorem store1 {gb t : Nat} {L : List Asn} (u u' : Value) (h : Own w0 w (Blk gb (.cells #[u] t (0, 0)) :: L)) : Own w0 (w.setCell ⟨gb, 0, none⟩ u') (Blk gb (.cells #[u'] t (0, 0)) :: L) := by
  have := h.set 0 u'
  simpa using this
theorem store4 {gb t : Nat} {L : List Asn} (u0 u1 u2 u3 v0 v1 v2 v3 : Value) (h : Own w0 w (Blk gb (.cells #[u0, u1, u2, u3] t (0, 0)) :: L)) : Own w0 ((((w.setCell ⟨gb, 0, none⟩ v0).setCell ⟨gb, 1, none⟩ v1).setCell ⟨gb, 2, none⟩ v2).setCell ⟨gb, 3, none⟩ v3) (Blk gb (.cells #[v0, v1, v2, v3] t (0, 0)) :: L) := by
  have := (((h.set 0 v0).set 1 v1).set 2 v2).set 3 v3
  simpa using this
/-- An element, in whatever world that has come of the first one. -/
theorem elem_at {w v : World} {A : Option Addr} {l : List S40} (hr : Kd.C k40 w A l.length l) (hb : Below w.heap.size w v) (k : Nat) (f0 f1 : Int) (f2 : ByteArray) (f3 : Bool) (hx : l[k]? = some ⟨f0, f1, f2, f3⟩) :
    ∃ ad, A = some ad ∧ v.cell? (ad.add (k * 4)) = some (.int .i64 f0) ∧ v.cell? ⟨(ad.add (k * 4)).block, (ad.add (k * 4)).off + 1, none⟩ = some (.int .i64 f1) ∧ v.cell? ⟨(ad.add (k * 4)).block, (ad.add (k * 4)).off + 2, none⟩ = some (.string f2) ∧ v.cell? ⟨(ad.add (k * 4)).block, (ad.add (k * 4)).off + 3, none⟩ = some (.bool f3) := by
  have hk := (List.getElem?_eq_some_iff.1 hx).1
  obtain ⟨ad, e, h0, h1, h2, h3⟩ := at_T40 hr (k : Int) (by omega) (by omega)
  have hrd : rd_T40 l (k : Int) = ⟨f0, f1, f2, f3⟩ := by unfold rd_T40; rw [Int.toNat_natCast, List.getD_eq_getElem?_getD, hx]; rfl
  rw [hrd, Int.toNat_natCast] at h0 h1 h2 h3
  have hlt : (ad.add (k * 4)).block < w.heap.size := World.block_lt_of_cell? w _ h0
  exact ⟨ad, e, (hb.cell hlt).trans h0, (hb.cell (p := ⟨_, _, none⟩) hlt).trans h1, (hb.cell (p := ⟨_, _, none⟩) hlt).trans h2, (hb.cell (p := ⟨_, _, none⟩) hlt).trans h3⟩
end
end Go.Proofs.Ytdjcndcleaffkaa.PChunksPlays
