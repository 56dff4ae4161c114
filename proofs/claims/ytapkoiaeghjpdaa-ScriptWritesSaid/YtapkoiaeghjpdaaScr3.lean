/- Acts as bytes (package script): what read's closures do. -/
import Derived.Test.YtapkoiaeghjpdaaPack5
namespace Go.Proofs.Ytapkoiaeghjpdaa.PScriptWrites
open Go.RowKit Go.Proofs.YtapkoiaeghjpdaaW.PrintWords Go.Proofs.YtapkoiaeghjpdaaW.PrintLast Go.Proofs.YtapkoiaeghjpdaaW.PrintMore
open Go.Proofs.YtapkoiaeghjpdaaO
attribute [local go_sem] max2_int min2_int max_two min_two max_three min_three max_four min_four
set_option linter.unusedVariables false
set_option linter.unusedSimpArgs false
theorem take_next {α : Type} (L : List α) (a b : Nat) (P R : List α) (h : L.drop a = P ++ R) (ha : a ≤ L.length) (hb : b = a + P.length) : L.take b = L.take a ++ P := by
  subst hb
  have e : L = L.take a ++ (P ++ R) := by rw [← h, List.take_append_drop]
  have hl : (L.take a).length = a := by rw [List.length_take]; omega
  conv => lhs; rw [e]
  rw [List.take_append, hl, List.take_of_length_le (by omega), show a + P.length - a = P.length by omega, List.take_left]
theorem num_back (s : ByteArray) (a : Nat) (ha : a ≤ s.size) : (∃ bad : Int, bad ≠ 0 ∧ rdNum s a 0 = (0, (a : Int), bad)) ∨ ∃ n : Nat, n < 2 ^ 64 ∧ rdNum s a 0 = ((n : Int), ((a + (numB n).length : Nat) : Int), 0) ∧ a + (numB n).length ≤ s.size ∧ (bytesOf s).take (a + (numB n).length) = (bytesOf s).take a ++ numB n := by
  rcases hp : numP s a with ⟨v, c, a'⟩
  have hb := numP_bad s a v c a' hp
  unfold rdNum
  rw [if_neg (by simp), Int.toNat_natCast, hp]
  rcases hb with ⟨rfl, h1, h2⟩ | ⟨hc, rfl, h1⟩
  · right
    obtain ⟨n, hn, rfl, rfl, hl, hd⟩ := numP_back s a ha v a' hp
    exact ⟨n, hn, rfl, hl, take_next _ _ _ _ _ hd (by rw [bytesOf_length]; exact ha) rfl⟩
  · left
    exact ⟨c, hc, by unfold finR; simp only [if_neg hc]⟩
theorem byte_back (s : ByteArray) (a : Nat) (ha : a ≤ s.size) : (∃ bad : Int, bad ≠ 0 ∧ rdByte s a 0 = (0, (a : Int), bad)) ∨ ∃ b : Int, 0 ≤ b ∧ b < 256 ∧ rdByte s a 0 = (b, ((a + [b].length : Nat) : Int), 0) ∧ a + [b].length ≤ s.size ∧ (bytesOf s).take (a + [b].length) = (bytesOf s).take a ++ [b] := by
  unfold rdByte byteR
  rw [if_neg (by simp), Int.toNat_natCast]
  by_cases h : a = s.size
  · left
    exact ⟨7, by omega, by rw [if_pos h]; unfold finR; simp⟩
  · right
    have hl : a < (bytesOf s).length := by rw [bytesOf_length]; omega
    have hlt := byteN_lt s a
    refine ⟨((byteN s a : Nat) : Int), by omega, by omega, by rw [if_neg h]; unfold finR; simp, by simp; omega, ?_⟩
    show (bytesOf s).take (a + 1) = _
    rw [List.take_succ_eq_append_getElem hl, byteN_list, List.getD_eq_getElem?_getD, List.getElem?_eq_getElem hl]
    rfl
theorem text_back (s : ByteArray) (a : Nat) (ha : a ≤ s.size) (hs : s.size < 1000000) (most : Int) (hm : most < 2 ^ 63) : (∃ bad : Int, bad ≠ 0 ∧ rdText s a 0 most = (.empty, (a : Int), bad)) ∨ ∃ t : ByteArray, t.size < 1000000 ∧ rdText s a 0 most = (t, ((a + (numB t.size ++ bytesOf t).length : Nat) : Int), 0) ∧ a + (numB t.size ++ bytesOf t).length ≤ s.size ∧ (bytesOf s).take (a + (numB t.size ++ bytesOf t).length) = (bytesOf s).take a ++ (numB t.size ++ bytesOf t) := by
  rcases hp : numP s a with ⟨v, c, a'⟩
  have hb := numP_bad s a v c a' hp
  rcases hb with ⟨rfl, h1, h2⟩ | ⟨hc, rfl, h1⟩
  · obtain ⟨n, hn, rfl, rfl, hl, hd⟩ := numP_back s a ha v a' hp
    by_cases hmo : most < 0 ∨ most < (n : Int)
    · left
      have hm2 : mostR s a most = (0, 8, ((a + (numB n).length : Nat) : Int)) := by
        unfold mostR
        rw [hp]
        rw [if_pos ⟨rfl, hmo⟩]
      refine ⟨8, by omega, ?_⟩
      unfold rdText textR
      rw [if_neg (by simp), Int.toNat_natCast, hm2]
      rfl
    · have hm2 : mostR s a most = ((n : Int), 0, ((a + (numB n).length : Nat) : Int)) := by
        unfold mostR
        rw [hp]
        rw [if_neg (fun h => hmo h.2)]
      have ht : textR s a most = if (s.size : Int) - ((a + (numB n).length : Nat) : Int) < (n : Int) then (.empty, 7, ((a + (numB n).length : Nat) : Int)) else (s.extract (a + (numB n).length) (a + (numB n).length + n), 0, ((a + (numB n).length : Nat) : Int) + (n : Int)) := by
        unfold textR
        rw [hm2]
        simp only
        rw [if_neg (by simp), Int.toNat_natCast, Int.toNat_natCast]
      by_cases hlt : (s.size : Int) - ((a + (numB n).length : Nat) : Int) < (n : Int)
      · left
        refine ⟨7, by omega, ?_⟩
        unfold rdText
        rw [if_neg (by simp), Int.toNat_natCast, ht, if_pos hlt]
        rfl
      · right
        have hts : (s.extract (a + (numB n).length) (a + (numB n).length + n)).size = n := by rw [ByteArray.size_extract]; omega
        have htb : bytesOf (s.extract (a + (numB n).length) (a + (numB n).length + n)) = ((bytesOf s).drop (a + (numB n).length)).take n := by
          rw [bytesOf_extract, List.drop_take]
          congr 1
          omega
        refine ⟨s.extract (a + (numB n).length) (a + (numB n).length + n), by rw [hts]; omega, ?_, ?_, ?_⟩
        · unfold rdText
          rw [if_neg (by simp), Int.toNat_natCast, ht, if_neg hlt, hts, List.length_append, bytesOf_length, hts]
          have e : ((a + (numB n).length : Nat) : Int) + (n : Int) = ((a + ((numB n).length + n) : Nat) : Int) := by omega
          rw [e]
          rfl
        · rw [hts, List.length_append, bytesOf_length, hts]
          omega
        · rw [hts]
          refine take_next _ _ _ _ ((bytesOf s).drop (a + (numB n).length + n)) ?_ (by rw [bytesOf_length]; exact ha) rfl
          rw [hd, htb, List.append_assoc]
          congr 1
          rw [← List.drop_drop (l := bytesOf s) (i := n) (j := a + (numB n).length), List.take_append_drop]
  · left
    have hm2 : mostR s a most = (0, c, (a : Int)) := by
      unfold mostR
      rw [hp]
      rw [if_neg (fun h => hc h.1), h1]
    refine ⟨c, hc, ?_⟩
    unfold rdText textR
    rw [if_neg (by simp), Int.toNat_natCast, hm2]
    simp only
    rw [if_pos hc]
    unfold finR
    simp only [if_neg hc]
theorem most_back (s : ByteArray) (a : Nat) (ha : a ≤ s.size) (most : Int) : (∃ bad : Int, bad ≠ 0 ∧ rdMost s a 0 most = (0, (a : Int), bad)) ∨ ∃ n : Nat, (n : Int) ≤ most ∧ n < 2 ^ 64 ∧ rdMost s a 0 most = ((n : Int), ((a + (numB n).length : Nat) : Int), 0) ∧ a + (numB n).length ≤ s.size ∧ (bytesOf s).take (a + (numB n).length) = (bytesOf s).take a ++ numB n := by
  rcases hp : numP s a with ⟨v, c, a'⟩
  have hb := numP_bad s a v c a' hp
  rcases hb with ⟨rfl, h1, h2⟩ | ⟨hc, rfl, h1⟩
  · obtain ⟨n, hn, rfl, rfl, hl, hd⟩ := numP_back s a ha v a' hp
    by_cases hmo : most < 0 ∨ most < (n : Int)
    · left
      have hm2 : mostR s a most = (0, 8, ((a + (numB n).length : Nat) : Int)) := by
        unfold mostR
        rw [hp]
        rw [if_pos ⟨rfl, hmo⟩]
      refine ⟨8, by omega, ?_⟩
      unfold rdMost
      rw [if_neg (by simp), Int.toNat_natCast, hm2]
      rfl
    · have hm2 : mostR s a most = ((n : Int), 0, ((a + (numB n).length : Nat) : Int)) := by
        unfold mostR
        rw [hp]
        rw [if_neg (fun h => hmo h.2)]
      right
      refine ⟨n, by omega, hn, ?_, hl, take_next _ _ _ _ _ hd (by rw [bytesOf_length]; exact ha) rfl⟩
      unfold rdMost
      rw [if_neg (by simp), Int.toNat_natCast, hm2]
      rfl
  · left
    have hm2 : mostR s a most = (0, c, a') := by
      unfold mostR
      rw [hp]
      rw [if_neg (fun h => hc h.1)]
    refine ⟨c, hc, ?_⟩
    unfold rdMost
    rw [if_neg (by simp), Int.toNat_natCast, hm2]
    unfold finR; simp only [if_neg hc]
/-- The readings, one after the other: the value, and the place and the fault behind it. -/
def rN (s : ByteArray) (p : Int × Int) : Int := (rdMost s p.1 p.2 2147483647).1
def rN' (s : ByteArray) (p : Int × Int) : Int × Int := (rdMost s p.1 p.2 2147483647).2
def rI (s : ByteArray) (p : Int × Int) : Int := zagI (rdNum s p.1 p.2).1.toNat
def rI' (s : ByteArray) (p : Int × Int) : Int × Int := (rdNum s p.1 p.2).2
def rT (s : ByteArray) (p : Int × Int) : ByteArray := (rdText s p.1 p.2 255).1
def rT' (s : ByteArray) (p : Int × Int) : Int × Int := (rdText s p.1 p.2 255).2
def rB (s : ByteArray) (p : Int × Int) : Int := (rdByte s p.1 p.2).1
def rB' (s : ByteArray) (p : Int × Int) : Int × Int := (rdByte s p.1 p.2).2
def inS (s : ByteArray) (p : Int × Int) : Prop := 0 ≤ p.1 ∧ p.1 ≤ s.size
theorem rN_in {s : ByteArray} {p : Int × Int} (h : inS s p) : inS s (rN' s p) := by
  obtain ⟨a, bad⟩ := p
  unfold inS rN' at *
  simp only at h ⊢
  obtain ⟨n, rfl⟩ := Int.eq_ofNat_of_zero_le h.1
  by_cases hb : bad = 0
  · subst hb
    rcases most_back s n (by omega) 2147483647 with ⟨b, _, e⟩ | ⟨m, _, _, e, hl, _⟩ <;> rw [e] <;> simp only <;> omega
  · unfold rdMost; rw [if_pos hb]; exact h
theorem rT_in {s : ByteArray} {p : Int × Int} (hs : s.size < 1000000) (h : inS s p) : inS s (rT' s p) := by
  obtain ⟨a, bad⟩ := p
  unfold inS rT' at *
  simp only at h ⊢
  obtain ⟨n, rfl⟩ := Int.eq_ofNat_of_zero_le h.1
  by_cases hb : bad = 0
  · subst hb
    rcases text_back s n (by omega) hs 255 (by omega) with ⟨b, _, e⟩ | ⟨m, _, e, hl, _⟩ <;> rw [e] <;> simp only <;> omega
  · unfold rdText; rw [if_pos hb]; exact h
theorem rB_in {s : ByteArray} {p : Int × Int} (h : inS s p) : inS s (rB' s p) := by
  obtain ⟨a, bad⟩ := p
  unfold inS rB' at *
  simp only at h ⊢
  obtain ⟨n, rfl⟩ := Int.eq_ofNat_of_zero_le h.1
  by_cases hb : bad = 0
  · subst hb
    rcases byte_back s n (by omega) with ⟨b, _, e⟩ | ⟨m, _, _, e, hl, _⟩ <;> rw [e] <;> simp only <;> omega
  · unfold rdByte; rw [if_pos hb]; exact h
theorem rI_in {s : ByteArray} {p : Int × Int} (h : inS s p) : inS s (rI' s p) ∧ ∃ n : Nat, n < 2 ^ 64 ∧ rdNum s p.1 p.2 = ((n : Int), (rI' s p).1, (rI' s p).2) ∧ rI s p = zagI n := by
  obtain ⟨a, bad⟩ := p
  unfold inS rI' rI at *
  simp only at h ⊢
  obtain ⟨n, rfl⟩ := Int.eq_ofNat_of_zero_le h.1
  by_cases hb : bad = 0
  · subst hb
    rcases num_back s n (by omega) with ⟨b, _, e⟩ | ⟨m, hm, e, hl, _⟩
    · rw [e]; simp only; exact ⟨by omega, 0, by omega, rfl, rfl⟩
    · rw [e]; simp only; exact ⟨by omega, m, hm, rfl, by rw [Int.toNat_natCast]⟩
  · have e : rdNum s (n : Int) bad = (0, (n : Int), bad) := by unfold rdNum; rw [if_pos hb]
    rw [e]; exact ⟨h, 0, by omega, rfl, rfl⟩
section
variable {w0 w w' : World} {R : List Asn} {gc gx gi : Nat} {cs : Array Value} {t : Nat} {s : ByteArray} {p : Int × Int}
set_option maxHeartbeats 4000000 in
set_option maxRecDepth 100000 in
theorem rnum (h : Own w0 w (Blk gc (.cells cs t (0, 0)) :: Blk gx (.cells #[.pointer (some ⟨gi, 0, none⟩)] 48 (0, 0)) :: InA gi s p.1 p.2 :: R)) (k : Nat) (u : Value) (hu : cs[k]? = some u) (hp : inS s p) (hs : s.size < 1000000) (q : Int × Int) (hq : rN' s p = q) :
    Calls Try.prog 27 #[.pointer (some ⟨gc, k, none⟩), .pointer (some ⟨gx, 0, none⟩)] w fun e w' => e = .returned (.tuple #[]) ∧ Own w0 w' (Blk gc (.cells (cs.setIfInBounds k (.int .i64 (rN s p))) t (0, 0)) :: Blk gx (.cells #[.pointer (some ⟨gi, 0, none⟩)] 48 (0, 0)) :: InA gi s q.1 q.2 :: R) := by
  subst hq
  have zx : w.cell? ⟨gx, 0, none⟩ = some (.pointer (some ⟨gi, 0, none⟩)) := (blk_cell h.at1 0).trans rfl
  have HU := Lib.hid hu
  have H := Aside0.mk h
  have HP0 := Aside0.mk (show 0 ≤ p.1 from hp.1)
  have HP1 := Aside0.mk (show p.1 ≤ s.size from hp.2)
  have HS := Aside0.mk (Nat.le_of_lt hs)
  clear h hp hs hu
  go_enter Try.func27, Try.ntmps27
  go_wp2_with (go_at_call 28; (with_reducible refine (InMost H.out.r2 HP0.out HP1.out HS.out 2147483647 (by omega) _ _ _ rfl).mono ?_); rintro e w6 ⟨rfl, h⟩; have H7 := Aside0.mk h.r2.r2; clear h; have zk6 := (blk_cell H7.out.at0 k).trans HU.out; have fk6 := blk_frozen H7.out.at0 k)
  go_end0
  exact ⟨rfl, (H7.out.set k (.int .i64 (rN s p)))⟩
set_option maxHeartbeats 4000000 in
set_option maxRecDepth 100000 in
theorem rint (h : Own w0 w (Blk gc (.cells cs t (0, 0)) :: Blk gx (.cells #[.pointer (some ⟨gi, 0, none⟩)] 48 (0, 0)) :: InA gi s p.1 p.2 :: R)) (k : Nat) (u : Value) (hu : cs[k]? = some u) (hp : inS s p) (hs : s.size < 1000000) (q : Int × Int) (hq : rI' s p = q) :
    Calls Try.prog 29 #[.pointer (some ⟨gc, k, none⟩), .pointer (some ⟨gx, 0, none⟩)] w fun e w' => e = .returned (.tuple #[]) ∧ Own w0 w' (Blk gc (.cells (cs.setIfInBounds k (.int .i64 (rI s p))) t (0, 0)) :: Blk gx (.cells #[.pointer (some ⟨gi, 0, none⟩)] 48 (0, 0)) :: InA gi s q.1 q.2 :: R) := by
  subst hq
  have zx : w.cell? ⟨gx, 0, none⟩ = some (.pointer (some ⟨gi, 0, none⟩)) := (blk_cell h.at1 0).trans rfl
  have HU := Lib.hid hu
  have H := Aside0.mk h
  have HP0 := Aside0.mk (show 0 ≤ p.1 from hp.1)
  have HP1 := Aside0.mk (show p.1 ≤ s.size from hp.2)
  have HS := Aside0.mk (Nat.le_of_lt hs)
  obtain ⟨n, hn, hr, hv⟩ := (rI_in hp).2
  have HN := Aside0.mk hn
  have HR := Aside0.mk hr
  have HV := Lib.hid hv
  clear hn hr hv
  clear h hp hs hu
  go_enter Try.func29, Try.ntmps29
  go_wp2_with (go_at_call 30; (with_reducible refine (InInt H.out.r2 HP0.out HP1.out HS.out n _ _ HN.out HR.out).mono ?_); rintro e w6 ⟨rfl, h⟩; have H7 := Aside0.mk h.r2.r2; clear h; have zk6 := (blk_cell H7.out.at0 k).trans HU.out; have fk6 := blk_frozen H7.out.at0 k)
  go_end0
  exact ⟨rfl, by rw [HV.out]; exact H7.out.set k (.int .i64 (zagI n))⟩
set_option maxHeartbeats 4000000 in
set_option maxRecDepth 100000 in
theorem rtext (h : Own w0 w (Blk gc (.cells cs t (0, 0)) :: Blk gx (.cells #[.pointer (some ⟨gi, 0, none⟩)] 48 (0, 0)) :: InA gi s p.1 p.2 :: R)) (k : Nat) (u : Value) (hu : cs[k]? = some u) (hp : inS s p) (hs : s.size < 1000000) (q : Int × Int) (hq : rT' s p = q) :
    Calls Try.prog 31 #[.pointer (some ⟨gc, k, none⟩), .pointer (some ⟨gx, 0, none⟩)] w fun e w' => e = .returned (.tuple #[]) ∧ Own w0 w' (Blk gc (.cells (cs.setIfInBounds k (.string (rT s p))) t (0, 0)) :: Blk gx (.cells #[.pointer (some ⟨gi, 0, none⟩)] 48 (0, 0)) :: InA gi s q.1 q.2 :: R) := by
  subst hq
  have zx : w.cell? ⟨gx, 0, none⟩ = some (.pointer (some ⟨gi, 0, none⟩)) := (blk_cell h.at1 0).trans rfl
  have HU := Lib.hid hu
  have H := Aside0.mk h
  have HP0 := Aside0.mk (show 0 ≤ p.1 from hp.1)
  have HP1 := Aside0.mk (show p.1 ≤ s.size from hp.2)
  have HS := Aside0.mk (Nat.le_of_lt hs)
  clear h hp hs hu
  go_enter Try.func31, Try.ntmps31
  go_wp2_with (go_at_call 32; (with_reducible refine (InText H.out.r2 HP0.out HP1.out HS.out 255 (by omega) _ _ _ rfl).mono ?_); rintro e w6 ⟨rfl, h⟩; have H7 := Aside0.mk h.r2.r2; clear h; have zk6 := (blk_cell H7.out.at0 k).trans HU.out; have fk6 := blk_frozen H7.out.at0 k)
  go_end0
  exact ⟨rfl, (H7.out.set k (.string (rT s p)))⟩
end
end Go.Proofs.Ytapkoiaeghjpdaa.PScriptWrites
