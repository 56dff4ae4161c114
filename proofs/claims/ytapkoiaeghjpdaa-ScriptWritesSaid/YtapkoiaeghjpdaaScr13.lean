/- Acts as bytes (package script): what is decoded. -/
import Derived.Test.YtapkoiaeghjpdaaScr12
namespace Go.Proofs.Ytapkoiaeghjpdaa.PScriptWrites
open Go.RowKit Go.Proofs.YtapkoiaeghjpdaaW.PrintWords Go.Proofs.YtapkoiaeghjpdaaW.PrintLast Go.Proofs.YtapkoiaeghjpdaaW.PrintMore
open Go.Proofs.YtapkoiaeghjpdaaO
attribute [local go_sem] max2_int min2_int max_two min_two max_three min_three max_four min_four
set_option linter.unusedVariables false
set_option linter.unusedSimpArgs false
def rg (L : List Int) : Prop := ∀ x ∈ L, 0 ≤ x ∧ x < 256
theorem rg_drop {L : List Int} (h : rg L) (n : Nat) : rg (L.drop n) := fun x hx => h x (List.mem_of_mem_drop hx)
theorem rg_take {L : List Int} (h : rg L) (n : Nat) : rg (L.take n) := fun x hx => h x (List.mem_of_mem_take hx)
theorem rg_app {L M : List Int} (h : rg L) (h2 : rg M) : rg (L ++ M) := fun x hx => (List.mem_append.1 hx).elim (h x) (h2 x)
theorem rg_app1 {L M : List Int} (h : rg (L ++ M)) : rg L := fun x hx => h x (List.mem_append_left _ hx)
theorem rg_app2 {L M : List Int} (h : rg (L ++ M)) : rg M := fun x hx => h x (List.mem_append_right _ hx)
theorem rg_cons {b : Int} {L : List Int} (h : rg (b :: L)) : rg L := fun x hx => h x (List.mem_cons_of_mem _ hx)
theorem rg_encA (a : ActS) : rg (encA a) := encA_range a
theorem rg_encL (l : List ActS) : rg (encL l) := fun x hx => by
  obtain ⟨a, _, h⟩ := List.mem_flatMap.1 hx
  exact encA_range a x h
theorem encL_cons (a : ActS) (l : List ActS) : encL (a :: l) = encA a ++ encL l := List.flatMap_cons ..
theorem encL_app (l m : List ActS) : encL (l ++ m) = encL l ++ encL m := List.flatMap_append ..
theorem encA_pos (a : ActS) (h : okA a = true) : 1 ≤ (encA a).length := by
  obtain ⟨f0, f1, f2, f3, f4, f5⟩ := a
  unfold okA okF at h
  unfold encA encF
  simp only at h ⊢
  repeat' split
  all_goals first
    | (simp only [List.length_append, List.length_cons, List.length_nil]; omega)
    | (exfalso; simp_all)
/-- One act at the beginning of a row of bytes. -/
def readC (L : List Int) : ActS × Int × Bool := readV (strOfNums (L.take 1020))
theorem readC_size (L : List Int) : (strOfNums (L.take 1020)).size < 1000000 := by rw [size_strOf, List.length_take]; omega
theorem readC_enc {a : ActS} {R : List Int} (hr : rg R) (ha : actIn a) (ho : okA a = true) : readC (encA a ++ R) = (a, ((encA a).length : Int), true) := by
  have hl := encA_len a ha ho
  refine read_enc (R := R.take (1020 - (encA a).length)) (readC_size _) ha ho ?_
  rw [bytes_strOf _ (rg_take (rg_app (rg_encA a) hr) _), List.take_append, List.take_of_length_le (by omega)]
theorem readC_back {L : List Int} {a : ActS} {m : Int} (hr : rg L) (h : readC L = (a, m, true)) : okA a = true ∧ actIn a ∧ m = ((encA a).length : Int) ∧ (encA a).length ≤ L.length ∧ L = encA a ++ L.drop (encA a).length := by
  obtain ⟨h1, h2, h3, h4, h5⟩ := read_back (readC_size L) h
  rw [bytes_strOf _ (rg_take hr _)] at h5
  rw [size_strOf, List.length_take] at h4
  refine ⟨h1, h2, h3, by omega, ?_⟩
  rw [List.take_take, Nat.min_eq_left (by omega)] at h5
  conv => lhs; rw [← List.take_append_drop (encA a).length L]
  rw [h5]
theorem readC_no {b : Int} {R : List Int} (hr : rg (b :: R)) (hb : b < 1 ∨ 8 < b) : (readC (b :: R)).2.2 = false := by
  refine read_no (R := R.take 1019) hb ?_
  rw [bytes_strOf _ (rg_take hr _)]
  rfl
/-- All acts of a row of bytes. -/
def decU : Nat → List Int → List ActS
  | 0, _ => []
  | k + 1, L => if L = [] then [] else if (readC L).2.2 = true then (readC L).1 :: decU k (L.drop (readC L).2.1.toNat) else decU k (L.drop 1)
def dec (L : List Int) : List ActS := decU L.length L
theorem decU_nil : ∀ k, decU k [] = []
  | 0 => rfl
  | k + 1 => by rw [decU, if_pos rfl]
theorem readC_step {L : List Int} (hr : rg L) (h : (readC L).2.2 = true) : 1 ≤ (readC L).2.1.toNat := by
  rcases e : readC L with ⟨a, m, b⟩
  rw [e] at h
  simp only at h
  subst h
  obtain ⟨h1, h2, h3, h4, h5⟩ := readC_back hr e
  have := encA_pos a h1
  simp only
  omega
theorem decU_fuel : ∀ (k j : Nat) (L : List Int), rg L → L.length ≤ k → L.length ≤ j → decU k L = decU j L
  | 0, j, L, _, hk, _ => by
    obtain rfl : L = [] := List.length_eq_zero_iff.1 (by omega)
    rw [decU_nil, decU_nil]
  | k + 1, 0, L, _, _, hj => by
    obtain rfl : L = [] := List.length_eq_zero_iff.1 (by omega)
    rw [decU_nil, decU_nil]
  | k + 1, j + 1, L, hr, hk, hj => by
    rw [decU, decU]
    by_cases h0 : L = []
    · rw [if_pos h0, if_pos h0]
    · rw [if_neg h0, if_neg h0]
      have hpos : 0 < L.length := List.length_pos_iff.2 h0
      by_cases h1 : (readC L).2.2 = true
      · have := readC_step hr h1
        rw [if_pos h1, if_pos h1, decU_fuel k j _ (rg_drop hr _) (by rw [List.length_drop]; omega) (by rw [List.length_drop]; omega)]
      · rw [if_neg h1, if_neg h1, decU_fuel k j _ (rg_drop hr _) (by rw [List.length_drop]; omega) (by rw [List.length_drop]; omega)]
theorem dec_nil : dec [] = [] := rfl
theorem dec_enc {a : ActS} {R : List Int} (hr : rg R) (ha : actIn a) (ho : okA a = true) : dec (encA a ++ R) = a :: dec R := by
  have hp := encA_pos a ho
  have hl : (encA a ++ R).length = (encA a).length + R.length := List.length_append ..
  obtain ⟨k, hk⟩ : ∃ k, (encA a ++ R).length = k + 1 := ⟨(encA a ++ R).length - 1, by omega⟩
  have hne : encA a ++ R ≠ [] := fun h => by rw [h] at hk; simp at hk
  unfold dec
  rw [hk, decU, if_neg hne, readC_enc hr ha ho]
  simp only
  rw [if_pos trivial, Int.toNat_natCast, List.drop_left, decU_fuel k R.length R hr (by omega) (Nat.le_refl _)]
theorem dec_no {b : Int} {R : List Int} (hr : rg (b :: R)) (hb : b < 1 ∨ 8 < b) : dec (b :: R) = dec R := by
  unfold dec
  rw [List.length_cons, decU, if_neg (by simp), readC_no hr hb, if_neg (by simp)]
  rfl
theorem dec_rep {b : Int} (hb : b < 1 ∨ 8 < b) : ∀ (n : Nat) {R : List Int}, 0 ≤ b ∧ b < 256 → rg R → dec (List.replicate n b ++ R) = dec R
  | 0, R, _, _ => by simp
  | n + 1, R, h0, hr => by
    have hrr : rg (List.replicate n b ++ R) := rg_app (fun x hx => by rw [List.eq_of_mem_replicate hx]; exact h0) hr
    rw [List.replicate_succ, List.cons_append, dec_no (fun x hx => (List.mem_cons.1 hx).elim (fun e => e ▸ h0) (hrr x)) hb, dec_rep hb n h0 hr]
theorem dec_encL : ∀ (l : List ActS) {R : List Int}, rg R → (∀ x ∈ l, actIn x) → l.all okA = true → dec (encL l ++ R) = l ++ dec R
  | [], R, _, _, _ => by simp [encL]
  | a :: l, R, hr, hq, ho => by
    rw [List.all_cons, Bool.and_eq_true] at ho
    rw [encL_cons, List.append_assoc, dec_enc (rg_app (rg_encL l) hr) (hq a (by simp)) ho.1, dec_encL l hr (fun x hx => hq x (by simp [hx])) ho.2, List.cons_append]
theorem decU_back : ∀ (k : Nat) (L : List Int), rg L → (∀ x ∈ decU k L, okA x = true ∧ actIn x) ∧ (encL (decU k L)).length ≤ L.length
  | 0, L, _ => ⟨fun x hx => by simp [decU] at hx, by simp [decU, encL]⟩
  | k + 1, L, hr => by
    rw [decU]
    by_cases h0 : L = []
    · rw [if_pos h0]
      exact ⟨fun x hx => by simp at hx, by simp [encL]⟩
    rw [if_neg h0]
    rcases e : readC L with ⟨a, m, b⟩
    cases b with
    | true =>
      simp only
      rw [if_pos trivial]
      obtain ⟨h1, h2, h3, h4, h5⟩ := readC_back hr e
      have ih := decU_back k (L.drop m.toNat) (rg_drop hr _)
      refine ⟨fun x hx => ?_, ?_⟩
      · rcases List.mem_cons.1 hx with rfl | hx
        · exact ⟨h1, h2⟩
        · exact ih.1 x hx
      · have := ih.2
        rw [List.length_drop] at this
        rw [encL_cons, List.length_append]
        omega
    | false =>
      simp only
      rw [if_neg (by simp)]
      have ih := decU_back k (L.drop 1) (rg_drop hr _)
      refine ⟨ih.1, ?_⟩
      have := ih.2
      rw [List.length_drop] at this
      omega
theorem dec_in {L : List Int} (hr : rg L) : ∀ x ∈ dec L, actIn x := fun x hx => ((decU_back _ L hr).1 x hx).2
theorem dec_ok {L : List Int} (hr : rg L) : (dec L).all okA = true := List.all_eq_true.2 fun x hx => ((decU_back _ L hr).1 x hx).1
theorem dec_len {L : List Int} (hr : rg L) : (encL (dec L)).length ≤ L.length := (decU_back _ L hr).2
theorem encL_take_len (l : List ActS) (n : Nat) : (encL (l.take n)).length ≤ (encL l).length := by
  conv => rhs; rw [← List.take_append_drop n l, encL_app, List.length_append]
  omega
theorem decGo_decU : ∀ (k : Nat) (s : ByteArray) (l : List ActS), l.length ≤ 4096 → decGo k s l = l ++ (decU k (bytesOf s)).take (4096 - l.length)
  | 0, s, l, _ => by simp [decGo, decU]
  | k + 1, s, l, hl => by
    have hx : s.extract 0 (min s.size 1020) = strOfNums ((bytesOf s).take 1020) := by
      apply bytesOf_inj
      rw [bytesOf_extract, List.drop_zero, bytes_strOf _ (rg_take (bytesOf_range s) _)]
      by_cases h : s.size ≤ 1020
      · rw [Nat.min_eq_left h, List.take_of_length_le (by rw [bytesOf_length]; omega), List.take_of_length_le (by rw [bytesOf_length]; omega)]
      · rw [Nat.min_eq_right (by omega)]
    have hz : s.size = 0 ↔ bytesOf s = [] := by rw [← bytesOf_length, List.length_eq_zero_iff]
    unfold decGo decU
    rw [hx]
    change (if s.size = 0 ∨ 4096 ≤ l.length then l else if (readC (bytesOf s)).2.2 = true then decGo k (s.extract (readC (bytesOf s)).2.1.toNat s.size) (l ++ [(readC (bytesOf s)).1]) else decGo k (s.extract 1 s.size) l) = _
    by_cases h0 : bytesOf s = []
    · rw [if_pos (.inl (hz.2 h0)), if_pos h0]; simp
    by_cases h1 : 4096 ≤ l.length
    · rw [if_pos (.inr h1), show 4096 - l.length = 0 by omega, List.take_zero, List.append_nil]
    rw [if_neg (fun h => h.elim (fun h => h0 (hz.1 h)) h1), if_neg h0]
    by_cases h2 : (readC (bytesOf s)).2.2 = true
    · rw [if_pos h2, if_pos h2, decGo_decU k _ _ (by rw [List.length_append, List.length_singleton]; omega), bytesOf_drop, List.length_append, List.length_singleton, List.append_assoc]
      congr 1
      rw [show 4096 - l.length = (4096 - (l.length + 1)) + 1 by omega, List.take_succ_cons]
      rfl
    · rw [if_neg h2, if_neg h2, decGo_decU k _ _ hl, bytesOf_drop]
/-- What Decode hands back. -/
def decR (L : List Int) : List ActS := (dec (L.take 65536)).take 4096
theorem decR_go {L : List Int} (hr : rg L) : decGo (L.take 65536).length (strOfNums (L.take 65536)) [] = decR L := by
  rw [decGo_decU _ _ _ (by simp), bytes_strOf _ (rg_take hr _), List.nil_append]
  rfl
theorem decR_len (L : List Int) : (decR L).length ≤ 4096 := by unfold decR; rw [List.length_take]; omega
theorem decR_in {L : List Int} (hr : rg L) : ∀ x ∈ decR L, actIn x := fun x hx => dec_in (rg_take hr _) x (List.mem_of_mem_take hx)
theorem decR_ok {L : List Int} (hr : rg L) : (decR L).all okA = true := List.all_eq_true.2 fun x hx => List.all_eq_true.1 (dec_ok (rg_take hr _)) x (List.mem_of_mem_take hx)
theorem decR_bytes {L : List Int} (hr : rg L) : (encL (decR L)).length ≤ L.length ∧ (encL (decR L)).length ≤ 65536 := by
  have h1 := encL_take_len (dec (L.take 65536)) 4096
  have h2 := dec_len (rg_take hr 65536)
  rw [List.length_take] at h2
  exact ⟨Nat.le_trans h1 (by omega), Nat.le_trans h1 (by omega)⟩
/-- A list's bytes are read as the list. -/
theorem decR_enc {l : List ActS} (hq : ∀ x ∈ l, actIn x) (ho : l.all okA = true) (h1 : l.length ≤ 4096) (h2 : (encL l).length ≤ 65536) : decR (encL l) = l := by
  have := dec_encL l (R := []) (fun x hx => by simp at hx) hq ho
  rw [List.append_nil, dec_nil, List.append_nil] at this
  unfold decR
  rw [List.take_of_length_le h2, this, List.take_of_length_le h1]
theorem encR_ok {l : List ActS} (h : (encR l).2 = 0) : l.all okA = true ∧ l.length ≤ 4096 ∧ (encL l).length ≤ 65536 ∧ encR l = (encL l, 0) := by
  unfold encR at h ⊢
  by_cases c : l.all okA = true
  · rw [if_pos c] at h ⊢
    by_cases c2 : 4096 < l.length ∨ 65536 < (encL l).length
    · rw [if_pos c2] at h; simp at h
    · rw [if_neg c2]; exact ⟨c, by omega, by omega, rfl⟩
  · rw [if_neg c] at h; simp at h
theorem encR_yes {l : List ActS} (h1 : l.all okA = true) (h2 : l.length ≤ 4096) (h3 : (encL l).length ≤ 65536) : encR l = (encL l, 0) := by
  unfold encR
  rw [if_pos h1, if_neg (by omega)]
theorem encR_dec {L : List Int} (hr : rg L) : encR (decR L) = (encL (decR L), 0) := encR_yes (decR_ok hr) (decR_len L) (decR_bytes hr).2
theorem decR_dec {L : List Int} (hr : rg L) : decR (encL (decR L)) = decR L := decR_enc (decR_in hr) (decR_ok hr) (decR_len L) (decR_bytes hr).2
/-- A list ahead of other bytes is read first. -/
theorem decR_app {l : List ActS} {b : List Int} (hr : rg b) (hq : ∀ x ∈ l, actIn x) (ho : l.all okA = true) (h1 : (encL l).length + b.length ≤ 65536) (h2 : l.length + (decR b).length ≤ 4096) : decR (encL l ++ b) = l ++ decR b := by
  have hb : b.take 65536 = b := List.take_of_length_le (by omega)
  unfold decR at *
  rw [hb] at h2 ⊢
  have hx : (encL l ++ b).take 65536 = encL l ++ b := List.take_of_length_le (by rw [List.length_append]; omega)
  rw [hx, dec_encL l hr hq ho, List.take_append, List.take_of_length_le (by omega)]
  congr 1
  rw [List.length_take] at h2
  by_cases c : (dec b).length ≤ 4096
  · rw [List.take_of_length_le c, List.take_of_length_le (by omega)]
  · obtain rfl : l = [] := List.length_eq_zero_iff.1 (by omega)
    rfl
/-- Bytes with which no act begins, put between. -/
theorem decR_skip {l m : List ActS} {b : Int} (n : Nat) (hb : b < 1 ∨ 8 < b) (hb2 : 0 ≤ b ∧ b < 256) (hq : ∀ x ∈ l, actIn x) (ho : l.all okA = true) (hq2 : ∀ x ∈ m, actIn x) (ho2 : m.all okA = true) (h1 : (encL l).length + (encL m).length + 3 * n ≤ 65536) (h2 : l.length + m.length ≤ 4096) : decR (List.replicate n b ++ encL l ++ List.replicate n b ++ encL m ++ List.replicate n b) = l ++ m := by
  have hrep : rg (List.replicate n b) := fun x hx => by rw [List.eq_of_mem_replicate hx]; exact hb2
  unfold decR
  have hx : (List.replicate n b ++ encL l ++ List.replicate n b ++ encL m ++ List.replicate n b).take 65536 = List.replicate n b ++ encL l ++ List.replicate n b ++ encL m ++ List.replicate n b := List.take_of_length_le (by simp only [List.length_append, List.length_replicate]; omega)
  rw [hx]
  have e : List.replicate n b ++ encL l ++ List.replicate n b ++ encL m ++ List.replicate n b = List.replicate n b ++ (encL l ++ (List.replicate n b ++ (encL m ++ (List.replicate n b ++ [])))) := by simp [List.append_assoc]
  have r0 : rg ([] : List Int) := fun x hx => by simp at hx
  have r1 := rg_app hrep r0
  have r2 := rg_app (rg_encL m) r1
  have r3 := rg_app hrep r2
  have r4 := rg_app (rg_encL l) r3
  rw [e, dec_rep hb n hb2 r4, dec_encL l r3 hq ho, dec_rep hb n hb2 r2, dec_encL m r1 hq2 ho2, dec_rep hb n hb2 r0, dec_nil, List.append_nil]
  exact List.take_of_length_le (by rw [List.length_append]; omega)
/-- What is cut off behind a whole act. -/
theorem decR_cut {l : List ActS} {j n : Nat} (hq : ∀ x ∈ l, actIn x) (ho : l.all okA = true) (h1 : (encL l).length ≤ 65536) (h2 : l.length ≤ 4096) (hj : (encL (l.take j)).length ≤ n) : ∃ t, decR ((encL l).take n) = l.take j ++ t := by
  have e : (encL l).take n = encL (l.take j) ++ (encL (l.drop j)).take (n - (encL (l.take j)).length) := by
    conv => lhs; rw [← List.take_append_drop j l, encL_app]
    rw [List.take_append, List.take_of_length_le hj]
  unfold decR
  have hx : ((encL l).take n).take 65536 = (encL l).take n := List.take_of_length_le (by rw [List.length_take]; omega)
  rw [hx, e, dec_encL _ (rg_take (rg_encL _) _) (fun x hx => hq x (List.mem_of_mem_take hx)) (List.all_eq_true.2 fun x hx => List.all_eq_true.1 ho x (List.mem_of_mem_take hx)), List.take_append, List.take_of_length_le (by rw [List.length_take]; omega)]
  exact ⟨_, rfl⟩
end Go.Proofs.Ytapkoiaeghjpdaa.PScriptWrites
