/- Readers and writers of bytes: each call beside whatever else one owns. -/
import Derived.Test.YtjlcggjghlmiaaaPack3
import Derived.Test.YtjlcggjghlmiaaaOwn
namespace Go.Proofs.Ytjlcggjghlmiaaa.PPackWrites
open Go.RowKit Go.Proofs.YtjlcggjghlmiaaaW.PrintWords Go.Proofs.YtjlcggjghlmiaaaW.PrintLast Go.Proofs.YtjlcggjghlmiaaaW.PrintMore
open Go.Proofs.YtjlcggjghlmiaaaO
attribute [local go_sem] max2_int min2_int max_two min_two max_three min_three max_four min_four
set_option linter.unusedVariables false
set_option linter.unusedSimpArgs false
/-- A reader. -/
abbrev InA (g : Nat) (s : ByteArray) (a bad : Int) : Asn := Blk g (.cells #[.string s, .int .i64 a, .int .i64 bad] 62 (0, 0))
/-- A writer. -/
def Out (g : Nat) (l : List Int) : Asn := ex fun v => star (Blk g (.cells #[v] 26 (0, 0))) (Row (Kd.int .u8) 5 v l)
section
variable {w0 w w' : World} {L : List Asn}
theorem out_open {g : Nat} {l : List Int} (h : Own w0 w (Out g l :: L)) : ∃ v, IsO w0 w g v l ∧ ∀ (l' : List Int) (w' : World) (v' : Value), OutR w0 w w' g v v' l' → Own w0 w' (Out g l' :: L) := by
  obtain ⟨v, h2⟩ := h.ex_out
  have hbel := h.bel
  obtain ⟨F, ⟨F1, F2, hF1, hF2, hd, hF⟩, h3, _⟩ := h2.sat
  refine ⟨v, ⟨hF1.1, (h3 g ((hF g).2 (.inl ((hF1.2 g).2 rfl)))).1, R_tight hF2.1⟩, fun l' w' v' hr => ?_⟩
  refine Own.ex_in v' (h2.step fun F hFF hFB => ?_)
  obtain ⟨F1, F2, hF1, hF2, hd, hF⟩ := hFF
  refine ⟨hr.bel.os.trans hbel.os.symm, hr.bel.tape.trans hbel.tape.symm, hr.bel.output.trans hbel.output.symm, hr.sz, fun k hk hn => hr.keep k hk (fun e => hn ((hF k).2 (.inl ((hF1.2 k).2 e)))) (fun e => hn ((hF k).2 (.inr (hF2.1.1 k e)))), fun k => k = g ∨ v'.ownBlock = some k, ⟨fun k => k = g, fun k => v'.ownBlock = some k, ⟨hr.is.hg, fun _ => Iff.rfl⟩, ⟨hr.is.row, fun k hk => (hr.is.row_lt k hk).2⟩, fun k hk hk2 => hr.is.ne (hk ▸ hk2), fun _ => Iff.rfl⟩, fun k hk => ?_⟩
  rcases hk with hk | hk
  · exact .inl ((hF k).2 (.inl ((hF1.2 k).2 hk)))
  · rcases hr.at_ k hk with h | h
    · exact .inl ((hF k).2 (.inr (hF2.1.1 k h)))
    · exact .inr h
/-- A new writer. -/
theorem out_new {g : Nat} (h : Own w0 w (Blk g (.cells #[.slice none 0 0] 26 (0, 0)) :: L)) : Own w0 w (Out g [] :: L) :=
  Own.ex_in (.slice none 0 0) (Own.join (((h.row_nil (Kd.int .u8) 5)).swap))
variable {g : Nat} {l : List Int}
theorem OutNum (h : Own w0 w (Out g l :: L)) (x : Int) (n : Nat) (hx : x = n) (hn : n < 2 ^ 64) (hl : l.length < 10000000000000) :
    Calls Try.prog 28 #[.pointer (some ⟨g, 0, none⟩), .int .u64 x] w fun e w' => e = .returned (.tuple #[]) ∧ Own w0 w' (Out g (l ++ numB n) :: L) := by
  subst hx
  obtain ⟨v, hI, hs⟩ := out_open h
  exact (onum_calls g v l n hn hl w0 w hI h.bel).mono fun e w' ⟨he, v', hr⟩ => ⟨he, hs _ _ _ hr⟩
theorem OutInt (h : Own w0 w (Out g l :: L)) (i : Int) (h0 : -(2^63) ≤ i) (h1 : i < 2 ^ 63) (hl : l.length < 10000000000000) :
    Calls Try.prog 10 #[.pointer (some ⟨g, 0, none⟩), .int .i64 i] w fun e w' => e = .returned (.tuple #[]) ∧ Own w0 w' (Out g (l ++ numB (zigN i)) :: L) := by
  obtain ⟨v, hI, hs⟩ := out_open h
  exact (oint_calls g v l i h0 h1 hl w0 w hI h.bel).mono fun e w' ⟨he, v', hr⟩ => ⟨he, hs _ _ _ hr⟩
theorem OutByte (h : Own w0 w (Out g l :: L)) (b : Int) (hl : l.length < 10000000000000) :
    Calls Try.prog 30 #[.pointer (some ⟨g, 0, none⟩), .int .u8 b] w fun e w' => e = .returned (.tuple #[]) ∧ Own w0 w' (Out g (l ++ [b]) :: L) := by
  obtain ⟨v, hI, hs⟩ := out_open h
  exact (obyte_calls g v l b hl w0 w hI h.bel).mono fun e w' ⟨he, v', hr⟩ => ⟨he, hs _ _ _ hr⟩
theorem OutText (h : Own w0 w (Out g l :: L)) (s : ByteArray) (hs : s.size < 1000000) (hl : l.length < 1000000000000) :
    Calls Try.prog 11 #[.pointer (some ⟨g, 0, none⟩), .string s] w fun e w' => e = .returned (.tuple #[]) ∧ Own w0 w' (Out g (l ++ (numB s.size ++ bytesOf s)) :: L) := by
  obtain ⟨v, hI, hss⟩ := out_open h
  exact (otext_calls g v l s hs hl w0 w hI h.bel).mono fun e w' ⟨he, v', hr⟩ => ⟨he, hss _ _ _ hr⟩
theorem OutString (h : Own w0 w (Out g l :: L)) :
    Calls Try.prog 14 #[.pointer (some ⟨g, 0, none⟩)] w fun e w' => e = .returned (.string (strOfNums l)) ∧ w = w' := by
  obtain ⟨v, hI, hss⟩ := out_open h
  exact ostr_calls g v l w0 w hI
/-- What a reading leaves: the value, the place, the fault. -/
def finR {α : Type} (p : α × Int × Int) (a : Int) : α × Int × Int := (p.1, if p.2.1 = 0 then p.2.2 else a, p.2.1)
def rdNum (s : ByteArray) (a bad : Int) : Int × Int × Int := if bad ≠ 0 then (0, a, bad) else finR (numP s a.toNat) a
def rdMost (s : ByteArray) (a bad most : Int) : Int × Int × Int := if bad ≠ 0 then (0, a, bad) else finR (mostR s a.toNat most) a
def rdText (s : ByteArray) (a bad most : Int) : ByteArray × Int × Int := if bad ≠ 0 then (.empty, a, bad) else finR (textR s a.toNat most) a
def rdByte (s : ByteArray) (a bad : Int) : Int × Int × Int := if bad ≠ 0 then (0, a, bad) else finR (byteR s a.toNat) a
variable {s : ByteArray} {a bad : Int}
theorem InNum (h : Own w0 w (InA g s a bad :: L)) (h0 : 0 ≤ a) (h1 : a ≤ s.size) (hs : s.size ≤ 1000000) (v a' bad' : Int) (hr : rdNum s a bad = (v, a', bad')) :
    Calls Try.prog 26 #[.pointer (some ⟨g, 0, none⟩)] w fun e w' => e = .returned (.int .u64 v) ∧ Own w0 w' (InA g s a' bad' :: L) := by
  obtain ⟨n, rfl⟩ := Int.eq_ofNat_of_zero_le h0
  have hI := h.at0
  by_cases hb : bad = 0
  · subst hb
    rcases hp : numP s n with ⟨v0, c0, a0⟩
    unfold rdNum at hr
    rw [if_neg (by simp), Int.toNat_natCast, hp] at hr
    simp only [finR, Prod.mk.injEq] at hr
    obtain ⟨rfl, rfl, rfl⟩ := hr
    have hnp := hp
    unfold numP at hp
    rcases hv : gvF (s.extract n s.size) (min (s.extract n s.size).size 10) 0 with ⟨x, sz⟩
    rw [hv] at hp
    have hle := gvF_le (s.extract n s.size) (min (s.extract n s.size).size 10) 0
    have hex : (s.extract n s.size).size = s.size - n := by rw [ByteArray.size_extract]; omega
    rw [hv] at hle
    exact (num_ok g s n w0 w h.bel (h.get 0 rfl).2 hI (by omega) hs _ rfl x sz hv (by simp only at hle; omega) v0 c0 a0 hp _ rfl).mono fun e w' ⟨he, hg, hb, hk⟩ => ⟨he, h.blk_step hb hk hg⟩
  · unfold rdNum at hr
    rw [if_pos hb] at hr
    simp only [Prod.mk.injEq] at hr
    obtain ⟨rfl, rfl, rfl⟩ := hr
    exact (num_skip g s _ bad hb w0 w h.bel hI).mono fun e w' ⟨he, hg, hb, hk⟩ => ⟨he, h.blk_step hb hk hg⟩
theorem InMost (h : Own w0 w (InA g s a bad :: L)) (h0 : 0 ≤ a) (h1 : a ≤ s.size) (hs : s.size ≤ 1000000) (most : Int) (hm : most < 2 ^ 63) (v a' bad' : Int) (hr : rdMost s a bad most = (v, a', bad')) :
    Calls Try.prog 20 #[.pointer (some ⟨g, 0, none⟩), .int .i64 most] w fun e w' => e = .returned (.int .i64 v) ∧ Own w0 w' (InA g s a' bad' :: L) := by
  obtain ⟨n, rfl⟩ := Int.eq_ofNat_of_zero_le h0
  have hI := h.at0
  by_cases hb : bad = 0
  · subst hb
    rcases hp : mostR s n most with ⟨v0, c0, a0⟩
    unfold rdMost at hr
    rw [if_neg (by simp), Int.toNat_natCast, hp] at hr
    simp only [finR, Prod.mk.injEq] at hr
    obtain ⟨rfl, rfl, rfl⟩ := hr
    exact (Most_ok g s n most hm w0 w h.bel (h.get 0 rfl).2 hI (by omega) hs v0 c0 a0 hp _ rfl).mono fun e w' ⟨he, hg, hb, hk⟩ => ⟨he, h.blk_step hb hk hg⟩
  · unfold rdMost at hr
    rw [if_pos hb] at hr
    simp only [Prod.mk.injEq] at hr
    obtain ⟨rfl, rfl, rfl⟩ := hr
    exact (Most_skip g s _ bad most hb w0 w h.bel hI).mono fun e w' ⟨he, hg, hb, hk⟩ => ⟨he, h.blk_step hb hk hg⟩
theorem InText (h : Own w0 w (InA g s a bad :: L)) (h0 : 0 ≤ a) (h1 : a ≤ s.size) (hs : s.size ≤ 1000000) (most : Int) (hm : most < 2 ^ 63) (v : ByteArray) (a' bad' : Int) (hr : rdText s a bad most = (v, a', bad')) :
    Calls Try.prog 23 #[.pointer (some ⟨g, 0, none⟩), .int .i64 most] w fun e w' => e = .returned (.string v) ∧ Own w0 w' (InA g s a' bad' :: L) := by
  obtain ⟨n, rfl⟩ := Int.eq_ofNat_of_zero_le h0
  have hI := h.at0
  by_cases hb : bad = 0
  · subst hb
    rcases hp : textR s n most with ⟨v0, c0, a0⟩
    unfold rdText at hr
    rw [if_neg (by simp), Int.toNat_natCast, hp] at hr
    simp only [finR, Prod.mk.injEq] at hr
    obtain ⟨rfl, rfl, rfl⟩ := hr
    exact (Text_ok g s n most hm w0 w h.bel (h.get 0 rfl).2 hI (by omega) hs v0 c0 a0 hp _ rfl).mono fun e w' ⟨he, hg, hb, hk⟩ => ⟨he, h.blk_step hb hk hg⟩
  · unfold rdText at hr
    rw [if_pos hb] at hr
    simp only [Prod.mk.injEq] at hr
    obtain ⟨rfl, rfl, rfl⟩ := hr
    exact (Text_skip g s _ bad most hb w0 w h.bel hI).mono fun e w' ⟨he, hg, hb, hk⟩ => ⟨he, h.blk_step hb hk hg⟩
theorem InByte (h : Own w0 w (InA g s a bad :: L)) (h0 : 0 ≤ a) (h1 : a ≤ s.size) (hs : s.size ≤ 1000000) (v : Int) (a' bad' : Int) (hr : rdByte s a bad = (v, a', bad')) :
    Calls Try.prog 19 #[.pointer (some ⟨g, 0, none⟩)] w fun e w' => e = .returned (.int .u8 v) ∧ Own w0 w' (InA g s a' bad' :: L) := by
  obtain ⟨n, rfl⟩ := Int.eq_ofNat_of_zero_le h0
  have hI := h.at0
  by_cases hb : bad = 0
  · subst hb
    rcases hp : byteR s n with ⟨v0, c0, a0⟩
    unfold rdByte at hr
    rw [if_neg (by simp), Int.toNat_natCast, hp] at hr
    simp only [finR, Prod.mk.injEq] at hr
    obtain ⟨rfl, rfl, rfl⟩ := hr
    exact (Byte_ok g s n w0 w h.bel (h.get 0 rfl).2 hI (by omega) hs v0 c0 a0 hp _ rfl).mono fun e w' ⟨he, hg, hb, hk⟩ => ⟨he, h.blk_step hb hk hg⟩
  · unfold rdByte at hr
    rw [if_pos hb] at hr
    simp only [Prod.mk.injEq] at hr
    obtain ⟨rfl, rfl, rfl⟩ := hr
    exact (Byte_skip g s _ bad hb w0 w h.bel hI).mono fun e w' ⟨he, hg, hb, hk⟩ => ⟨he, h.blk_step hb hk hg⟩
theorem InOf (h : Own w0 w L) (s : ByteArray) :
    Calls Try.prog 18 #[.string s] w fun e w' => ∃ g : Nat, e = .returned (.pointer (some ⟨g, 0, none⟩)) ∧ Own w0 w' (InA g s 0 0 :: L) := by
  have H := Aside0.mk (h.alloc (.cells #[.string s, .int .i64 0, .int .i64 0] 62 (0, 0)))
  clear h
  go_enter Try.func18, Try.ntmps18
  go_wp2
  go_ret
  exact ⟨_, rfl, H.out⟩
theorem InFault0 (h : Own w0 w (InA g s a 0 :: L)) :
    Calls Try.prog 21 #[.pointer (some ⟨g, 0, none⟩)] w fun e w' => e = .returned (.tuple #[.int .i64 0, .int .i64 0]) ∧ Own w0 w' (InA g s a 0 :: L) := by
  have hI : IsS62 w0 w g s a 0 := ⟨h.at0, (h.get 0 rfl).2⟩
  exact (pack_In_Fault.calls g s a 0 0 0 s a 0 w0 w hI h.bel (by unfold pack_In_Fault.f; rw [if_pos rfl])).mono fun e w' ⟨he, hg, hb, hk⟩ => ⟨he, h.blk_step hb hk hg.1⟩
theorem InFault1 (h : Own w0 w (InA g s a bad :: L)) (hb : bad ≠ 0) :
    Calls Try.prog 21 #[.pointer (some ⟨g, 0, none⟩)] w fun e w' => e = .returned (.tuple #[.int .i64 bad, .int .i64 a]) ∧ Own w0 w' (InA g s a bad :: L) := by
  have hI : IsS62 w0 w g s a bad := ⟨h.at0, (h.get 0 rfl).2⟩
  exact (pack_In_Fault.calls g s a bad bad a s a bad w0 w hI h.bel (by unfold pack_In_Fault.f; rw [if_neg hb])).mono fun e w' ⟨he, hg, hb, hk⟩ => ⟨he, h.blk_step hb hk hg.1⟩
theorem InLeft (h : Own w0 w (InA g s a bad :: L)) (h0 : 0 ≤ a) (h1 : a ≤ s.size) (hs : s.size ≤ 1000000) :
    Calls Try.prog 22 #[.pointer (some ⟨g, 0, none⟩)] w fun e w' => e = .returned (.int .i64 ((s.size : Int) - a)) ∧ Own w0 w' (InA g s a bad :: L) := by
  have hI : IsS62 w0 w g s a bad := ⟨h.at0, (h.get 0 rfl).2⟩
  exact (pack_In_Left.calls g s a bad ((s.size : Int) - a) s a bad w0 w hI h.bel (by unfold pack_In_Left.f; rw [show wrap64 ((s.size : Int) - a) = (s.size : Int) - a by unfold wrap64; omega])).mono fun e w' ⟨he, hg, hb, hk⟩ => ⟨he, h.blk_step hb hk hg.1⟩
theorem InEnd (h : Own w0 w (InA g s a bad :: L)) (h0 : 0 ≤ a) (h1 : a ≤ s.size) (hs : s.size ≤ 1000000) (r : Int) (hr : r = if bad = 0 then (if a < s.size then 8 else 0) else bad) :
    Calls Try.prog 24 #[.pointer (some ⟨g, 0, none⟩)] w fun e w' => e = .returned (.int .i64 r) ∧ Own w0 w' (InA g s a bad :: L) := by
  have hI : IsS62 w0 w g s a bad := ⟨h.at0, (h.get 0 rfl).2⟩
  refine (pack_In_End.calls g s a bad r s a bad w0 w hI h.bel ?_).mono fun e w' ⟨he, hg, hb, hk⟩ => ⟨he, h.blk_step hb hk hg.1⟩
  subst hr
  have e1 : wrap64 ((s.size : Int) - a) = (s.size : Int) - a := by unfold wrap64; omega
  unfold pack_In_End.f pack_In_Fault.f
  by_cases hb : bad = 0
  · subst hb
    simp only [if_pos, Option.bind_some, pack_In_Left.f, e1]
    by_cases hl : a < s.size
    · rw [if_pos (show ((s.size : Int) - a > 0) by omega), if_pos hl]
    · rw [if_neg (show ¬ ((s.size : Int) - a > 0) by omega), if_neg hl]
  · simp only [if_neg hb, Option.bind_some]
end
end Go.Proofs.Ytjlcggjghlmiaaa.PPackWrites
