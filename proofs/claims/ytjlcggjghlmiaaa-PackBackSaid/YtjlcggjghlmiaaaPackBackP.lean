/- What is read of a text, written again: plain facts. -/
import Derived.Test.YtjlcggjghlmiaaaPackInt
import Derived.Test.YtjlcggjghlmiaaaHPackMost
import Derived.Test.YtjlcggjghlmiaaaHPackAlone
import Derived.Deep.RegionWith
namespace Go.Proofs.Ytjlcggjghlmiaaa.PPackWrites
open Go.RowKit Go.Proofs.YtjlcggjghlmiaaaW.PrintWords Go.Proofs.YtjlcggjghlmiaaaW.PrintLast Go.Proofs.YtjlcggjghlmiaaaW.PrintMore
open Go.Proofs.YtjlcggjghlmiaaaO
attribute [local go_sem] max2_int min2_int max_two min_two max_three min_three max_four min_four
set_option linter.unusedVariables false
set_option linter.unusedSimpArgs false
/-- The bytes behind the first k parts begin with the next one's. -/
theorem allB_drop (l : List S38) (k : Nat) (h : k < l.length) : (allB l).drop (allB (l.take k)).length = partB l[k] ++ allB (l.drop (k + 1)) := by
  have e : allB l = allB (l.take k) ++ (partB l[k] ++ allB (l.drop (k + 1))) := by
    conv => lhs; rw [← List.take_append_drop k l, List.drop_eq_getElem_cons h]
    unfold allB
    rw [List.flatMap_append, List.flatMap_cons]
  rw [e, List.drop_left]
theorem allB_le (l : List S38) (k : Nat) : (allB (l.take k)).length ≤ (allB l).length := by
  have e : allB l = allB (l.take k) ++ allB (l.drop k) := by
    unfold allB
    rw [← List.flatMap_append, List.take_append_drop]
  rw [e, List.length_append]
  omega
theorem take_next {α : Type} (L : List α) (a b : Nat) (P R : List α) (h : L.drop a = P ++ R) (ha : a ≤ L.length) (hb : b = a + P.length) : L.take b = L.take a ++ P := by
  subst hb
  have e : L = L.take a ++ (P ++ R) := by rw [← h, List.take_append_drop]
  have hl : (L.take a).length = a := by rw [List.length_take]; omega
  conv => lhs; rw [e]
  rw [List.take_append, hl, List.take_of_length_le (by omega), show a + P.length - a = P.length by omega, List.take_left]
/-- A text's reading of a number: a fault changes nothing, else it is the bytes that were read. -/
theorem num_back (s : ByteArray) (a : Nat) (ha : a ≤ s.size) : (∃ bad : Int, bad ≠ 0 ∧ rdNum s a 0 = (0, (a : Int), bad)) ∨ ∃ n : Nat, n < 2 ^ 64 ∧ rdNum s a 0 = ((n : Int), ((a + (numB n).length : Nat) : Int), 0) ∧ a + (numB n).length ≤ s.size ∧ (bytesOf s).take (a + (numB n).length) = (bytesOf s).take a ++ numB n := by
  rcases hp : numP s a with ⟨v, c, a'⟩
  have hb := numP_bad s a v c a' hp
  unfold rdNum
  rw [if_neg (by simp), Int.toNat_natCast, hp]
  rcases hb with ⟨rfl, h1, h2⟩ | ⟨hc, rfl, h1⟩
  · right
    obtain ⟨n, hn, rfl, rfl, hl, hd⟩ := numP_back s a ha v a' hp
    exact ⟨n, hn, rfl, hl, take_next _ _ _ _ _ hd (by rw [bytesOf_length]; exact ha) rfl⟩
  · left
    exact ⟨c, hc, by unfold finR; simp only [if_neg hc]⟩
theorem byte_back (s : ByteArray) (a : Nat) (ha : a ≤ s.size) : (∃ bad : Int, bad ≠ 0 ∧ rdByte s a 0 = (0, (a : Int), bad)) ∨ ∃ b : Int, 0 ≤ b ∧ b < 256 ∧ rdByte s a 0 = (b, ((a + [b].length : Nat) : Int), 0) ∧ a + [b].length ≤ s.size ∧ (bytesOf s).take (a + [b].length) = (bytesOf s).take a ++ [b] := by
  unfold rdByte byteR
  rw [if_neg (by simp), Int.toNat_natCast]
  by_cases h : a = s.size
  · left
    exact ⟨7, by omega, by rw [if_pos h]; unfold finR; simp⟩
  · right
    have hl : a < (bytesOf s).length := by rw [bytesOf_length]; omega
    have hlt := byteN_lt s a
    refine ⟨((byteN s a : Nat) : Int), by omega, by omega, by rw [if_neg h]; unfold finR; simp, by simp; omega, ?_⟩
    show (bytesOf s).take (a + 1) = _
    rw [List.take_succ_eq_append_getElem hl, byteN_list, List.getD_eq_getElem?_getD, List.getElem?_eq_getElem hl]
    rfl
theorem text_back (s : ByteArray) (a : Nat) (ha : a ≤ s.size) (hs : s.size < 1000000) (most : Int) (hm : most < 2 ^ 63) : (∃ bad : Int, bad ≠ 0 ∧ rdText s a 0 most = (.empty, (a : Int), bad)) ∨ ∃ t : ByteArray, t.size < 1000000 ∧ rdText s a 0 most = (t, ((a + (numB t.size ++ bytesOf t).length : Nat) : Int), 0) ∧ a + (numB t.size ++ bytesOf t).length ≤ s.size ∧ (bytesOf s).take (a + (numB t.size ++ bytesOf t).length) = (bytesOf s).take a ++ (numB t.size ++ bytesOf t) := by
  rcases hp : numP s a with ⟨v, c, a'⟩
  have hb := numP_bad s a v c a' hp
  rcases hb with ⟨rfl, h1, h2⟩ | ⟨hc, rfl, h1⟩
  · obtain ⟨n, hn, rfl, rfl, hl, hd⟩ := numP_back s a ha v a' hp
    by_cases hmo : most < 0 ∨ most < (n : Int)
    · left
      have hm2 : mostR s a most = (0, 8, ((a + (numB n).length : Nat) : Int)) := by
        unfold mostR
        rw [hp]
        rw [if_pos ⟨rfl, hmo⟩]
      refine ⟨8, by omega, ?_⟩
      unfold rdText textR
      rw [if_neg (by simp), Int.toNat_natCast, hm2]
      rfl
    · have hm2 : mostR s a most = ((n : Int), 0, ((a + (numB n).length : Nat) : Int)) := by
        unfold mostR
        rw [hp]
        rw [if_neg (fun h => hmo h.2)]
      have ht : textR s a most = if (s.size : Int) - ((a + (numB n).length : Nat) : Int) < (n : Int) then (.empty, 7, ((a + (numB n).length : Nat) : Int)) else (s.extract (a + (numB n).length) (a + (numB n).length + n), 0, ((a + (numB n).length : Nat) : Int) + (n : Int)) := by
        unfold textR
        rw [hm2]
        simp only
        rw [if_neg (by simp), Int.toNat_natCast, Int.toNat_natCast]
      by_cases hlt : (s.size : Int) - ((a + (numB n).length : Nat) : Int) < (n : Int)
      · left
        refine ⟨7, by omega, ?_⟩
        unfold rdText
        rw [if_neg (by simp), Int.toNat_natCast, ht, if_pos hlt]
        rfl
      · right
        have hts : (s.extract (a + (numB n).length) (a + (numB n).length + n)).size = n := by rw [ByteArray.size_extract]; omega
        have htb : bytesOf (s.extract (a + (numB n).length) (a + (numB n).length + n)) = ((bytesOf s).drop (a + (numB n).length)).take n := by
          rw [bytesOf_extract, List.drop_take]
          congr 1
          omega
        refine ⟨s.extract (a + (numB n).length) (a + (numB n).length + n), by rw [hts]; omega, ?_, ?_, ?_⟩
        · unfold rdText
          rw [if_neg (by simp), Int.toNat_natCast, ht, if_neg hlt, hts, List.length_append, bytesOf_length, hts]
          have e : ((a + (numB n).length : Nat) : Int) + (n : Int) = ((a + ((numB n).length + n) : Nat) : Int) := by omega
          rw [e]
          rfl
        · rw [hts, List.length_append, bytesOf_length, hts]
          omega
        · rw [hts]
          refine take_next _ _ _ _ ((bytesOf s).drop (a + (numB n).length + n)) ?_ (by rw [bytesOf_length]; exact ha) rfl
          rw [hd, htb, List.append_assoc]
          congr 1
          rw [← List.drop_drop (l := bytesOf s) (i := n) (j := a + (numB n).length), List.take_append_drop]
  · left
    have hm2 : mostR s a most = (0, c, (a : Int)) := by
      unfold mostR
      rw [hp]
      rw [if_neg (fun h => hc h.1), h1]
    refine ⟨c, hc, ?_⟩
    unfold rdText textR
    rw [if_neg (by simp), Int.toNat_natCast, hm2]
    simp only
    rw [if_pos hc]
    unfold finR
    simp only [if_neg hc]
end Go.Proofs.Ytjlcggjghlmiaaa.PPackWrites
