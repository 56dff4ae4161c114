/- Acts as bytes (package script): Encode. -/
import Derived.Test.YtapkoiaeghjpdaaScr8
namespace Go.Proofs.Ytapkoiaeghjpdaa.PScriptWrites
open Go.RowKit Go.Proofs.YtapkoiaeghjpdaaW.PrintWords Go.Proofs.YtapkoiaeghjpdaaW.PrintLast Go.Proofs.YtapkoiaeghjpdaaW.PrintMore
open Go.Proofs.YtapkoiaeghjpdaaO
attribute [local go_sem] max2_int min2_int max_two min_two max_three min_three max_four min_four
set_option linter.unusedVariables false
set_option linter.unusedSimpArgs false
def encL (l : List ActS) : List Int := l.flatMap encA
def encR (l : List ActS) : List Int × Int := if l.all okA = true then (if 4096 < l.length ∨ 65536 < (encL l).length then ([], 3) else (encL l, 0)) else ([], 1)
theorem encA_len (a : ActS) (h : actIn a) (ho : okA a = true) : (encA a).length ≤ 1000 := by
  obtain ⟨f0, f1, f2, f3, f4, f5⟩ := a
  obtain ⟨h4, h5, hs⟩ := h
  simp only at h4 h5 hs
  have a1 := numB_len10 (uN f1) (uN_lt f1)
  have a2 := numB_len10 (uN f2) (uN_lt f2)
  have a3 := numB_len10 f3.size (by omega)
  have a4 := numB_len10 (zigN f4) (zigN_lt f4 h4.1 h4.2)
  have a5 := numB_len10 (zigN f5) (zigN_lt f5 h5.1 h5.2)
  have a6 := bytesOf_length f3
  unfold encA encF
  unfold okA okF at ho
  simp only at ho ⊢
  by_cases c1 : f0 = 1
  · rw [if_pos c1] at ho ⊢
    have ht : f3.size ≤ 255 := by
      unfold textOk at ho
      simp only [Bool.and_eq_true, decide_eq_true_eq] at ho
      exact ho.1.2
    simp only [List.length_append, List.length_nil, List.length_cons]
    omega
  · rw [if_neg c1]
    repeat' split
    all_goals (simp only [List.length_append, List.length_nil, List.length_cons]; omega)
theorem encA_range (a : ActS) : ∀ x ∈ encA a, 0 ≤ x ∧ x < 256 := by
  obtain ⟨f0, f1, f2, f3, f4, f5⟩ := a
  unfold encA encF
  simp only
  have hn := fun n => numB_range n
  have hb := bytesOf_range f3
  intro x hx
  repeat' split at hx
  all_goals
    simp only [List.mem_append, List.mem_singleton, List.not_mem_nil, false_or] at hx
  all_goals
    rcases hx with hx
    repeat' (rcases hx with hx | hx)
    all_goals first
      | omega
      | (subst hx; omega)
      | exact hn _ x hx
      | exact hb x hx
      | (exact hx.elim)
theorem encL_snoc (l : List ActS) (i : Nat) (x : ActS) (h : l[i]? = some x) : encL (l.take (i + 1)) = encL (l.take i) ++ encA x := by
  obtain ⟨hi, e⟩ := List.getElem?_eq_some_iff.1 h
  unfold encL
  rw [List.take_succ_eq_append_getElem hi, e, List.flatMap_append]
  simp
theorem all_snoc (l : List ActS) (i : Nat) (x : ActS) (h : l[i]? = some x) : (l.take (i + 1)).all okA = ((l.take i).all okA && okA x) := by
  obtain ⟨hi, e⟩ := List.getElem?_eq_some_iff.1 h
  rw [List.take_succ_eq_append_getElem hi, e, List.all_append]
  simp
theorem encL_len (l : List ActS) (h : ∀ x ∈ l, actIn x) (ho : l.all okA = true) : (encL l).length ≤ 1000 * l.length := by
  induction l with
  | nil => simp [encL]
  | cons a l ih =>
    rw [List.all_cons, Bool.and_eq_true] at ho
    have h1 := encA_len a (h a (by simp)) ho.1
    have h2 := ih (fun x hx => h x (by simp [hx])) ho.2
    unfold encL at *
    rw [List.flatMap_cons, List.length_append, List.length_cons]
    omega
theorem act_at {w v : World} {ad : Addr} {n : Nat} {l : List ActS} (hr : Kd.C k33 w (some ad) n l) (hb : Below w.heap.size w v) (k : Nat) (hk : k < n) (f0 f1 f2 : Int) (f3 : ByteArray) (f4 f5 : Int) (hx : l[k]? = some ⟨f0, f1, f2, f3, f4, f5⟩) :
    v.cell? (ad.add (k * 6)) = some (.int .u8 f0) ∧ v.cell? ⟨(ad.add (k * 6)).block, (ad.add (k * 6)).off + 1, none⟩ = some (.int .i64 f1) ∧ v.cell? ⟨(ad.add (k * 6)).block, (ad.add (k * 6)).off + 2, none⟩ = some (.int .i64 f2) ∧ v.cell? ⟨(ad.add (k * 6)).block, (ad.add (k * 6)).off + 3, none⟩ = some (.string f3) ∧ v.cell? ⟨(ad.add (k * 6)).block, (ad.add (k * 6)).off + 4, none⟩ = some (.int .i64 f4) ∧ v.cell? ⟨(ad.add (k * 6)).block, (ad.add (k * 6)).off + 5, none⟩ = some (.int .i64 f5) := by
  obtain ⟨ad', e, h0, h1, h2, h3, h4, h5⟩ := at_T33 hr (k : Int) (by omega) (by omega)
  cases e
  have hrd : rd_T33 l (k : Int) = ⟨f0, f1, f2, f3, f4, f5⟩ := by unfold rd_T33; rw [Int.toNat_natCast, List.getD_eq_getElem?_getD, hx]; rfl
  rw [hrd, Int.toNat_natCast] at h0 h1 h2 h3 h4 h5
  have hlt : (ad.add (k * 6)).block < w.heap.size := World.block_lt_of_cell? w _ h0
  exact ⟨(hb.cell hlt).trans h0, (hb.cell (p := ⟨_, _, none⟩) hlt).trans h1, (hb.cell (p := ⟨_, _, none⟩) hlt).trans h2, (hb.cell (p := ⟨_, _, none⟩) hlt).trans h3, (hb.cell (p := ⟨_, _, none⟩) hlt).trans h4, (hb.cell (p := ⟨_, _, none⟩) hlt).trans h5⟩
section
variable {w0 w w' : World} {R : List Asn}
set_option maxHeartbeats 8000000 in
set_option maxRecDepth 100000 in
theorem EncodeF (h : Own w0 w R) (A : Option Addr) (c : Nat) (l : List ActS) (hr : Kd.C k33 w0 A l.length l) (hQ : ∀ x ∈ l, actIn x) (hL : l.length ≤ 10000000) (rl : List Int) (code : Int) (he : encR l = (rl, code)) :
    Calls Try.prog 14 #[.slice A l.length c] w fun e w' => ∃ A' c', e = .returned (.tuple #[.slice A' rl.length c', .int .i64 code]) ∧ Own w0 w' (Row (Kd.int .u8) 5 (.slice A' rl.length c') rl :: R) := by
  have HR := Aside0.mk hr
  have HQ := Aside0.mk hQ
  have HE := Lib.hid he
  have H := Aside0.mk (h.row_nil (Kd.int .u8) 5)
  clear hr hQ h he
  go_enter Try.func14, Try.ntmps14
  go_wp2
  go_loopw [4, 11] (fun v4 v11 wr => ∃ (i : Nat) (B : Option Addr) (d : Nat), i ≤ l.length ∧ v11 = .int .i64 i ∧ v4 = .slice B (encL (l.take i)).length d ∧ Aside0 ((l.take i).all okA = true) ∧ Aside0 (Own w0 wr (Row (Kd.int .u8) 5 (.slice B (encL (l.take i)).length d) (encL (l.take i)) :: R))) (fun _ v11 _ => l.length - (RowKit.intOf v11).toNat)
  case atStart => exact ⟨0, none, 0, Nat.zero_le _, rfl, rfl, ⟨rfl⟩, H⟩
  case round =>
    obtain ⟨i, B, d, hi, rfl, rfl, HAL, HO⟩ := hrel
    by_cases hlt : i < l.length
    · have hgx := List.getElem?_eq_getElem hlt
      obtain ⟨x, hx⟩ : ∃ x, l[i] = x := ⟨_, rfl⟩
      rw [hx] at hgx
      have hmem := List.mem_of_getElem? hgx
      have hq := HQ.out x hmem
      have hrg := encA_range x
      have hall : l.all okA = true → okA x = true := fun h => List.all_eq_true.1 h x hmem
      clear hmem
      have hsn := encL_snoc l i x hgx
      have has := all_snoc l i x hgx
      rw [HAL.out, Bool.true_and] at has
      have hln := encA_len x hq
      have hbl := encL_len (l.take i) (fun y hy => HQ.out y (List.mem_of_mem_take hy)) HAL.out
      rw [List.length_take, Nat.min_eq_left hi] at hbl
      obtain ⟨f0, f1, f2, f3, f4, f5⟩ := x
      rcases A with _ | ad
      · exact absurd (HR.out.2.2 (by omega)) (by rintro ⟨_, h, _⟩; cases h)
      obtain ⟨a0, a1, a2, a3, a4, a5⟩ := act_at HR.out HO.out.bel i hlt f0 f1 f2 f3 f4 f5 hgx
      have HW4 := Aside0.mk hq.1
      have HW5 := Aside0.mk hq.2.1
      have HW3 := Aside0.mk hq.2.2
      obtain ⟨bs, hbs⟩ : ∃ bs, bs = encL (l.take i) := ⟨_, rfl⟩
      rw [← hbs] at hsn HO hbl ⊢
      clear hbs hgx hx hq
      obtain ⟨b, hb⟩ : ∃ b, okF f0 f1 f2 f3 f4 f5 = b := ⟨_, rfl⟩
      obtain ⟨es, hes⟩ : ∃ es, encF f0 f1 f2 f3 f4 f5 = es := ⟨_, rfl⟩
      have HB := Lib.hid hb
      have HES := Lib.hid hes
      have HS := Lib.hid hsn
      have HAS := Lib.hid (has.trans hb)
      have HLN := Aside0.mk (show b = true → es.length ≤ 1000 from fun h => by rw [← hes]; exact hln (hb.trans h))
      have HBL := Aside0.mk hbl
      have HRG := Aside0.mk (show bytesOf (strOfNums es) = es from bytes_strOf es (by rw [← hes]; exact hrg))
      have HALL := Aside0.mk (show l.all okA = true → b = true from fun h => by rw [← hb]; exact hall h)
      clear hb hes hsn has hln hbl hrg hall
      cases b with
      | true =>
        go_wp2_with (first
          | (go_at_call 21; (first | (with_reducible refine (writeF (HO.out.junk _) f0 f1 f2 f3 f4 f5 HW4.out HW5.out HW3.out).mono ?_) | (with_reducible refine (writeF HO.out f0 f1 f2 f3 f4 f5 HW4.out HW5.out HW3.out).mono ?_)); rintro e w1 ⟨⟨s, rfl, hse⟩, h⟩; rw [HB.out] at hse; have HSE := Lib.hid ((hse rfl).trans (congrArg strOfNums HES.out)); rw [HB.out]; have HLEN := Aside0.mk (show bs.length + s.size ≤ 140737488355328 from (by rw [HSE.out, size_strOf]; have h1 := HLN.out rfl; have h2 := HBL.out; omega)); have H1 := Aside0.mk h; clear h hse)
          | ((with_reducible refine gate_builtin (b := .append) (xs := #[.tmp 22, .tmp 23]) rfl ?_); at_builtin; refine app_strO rfl (.tmp 22) (.tmp 23) 22 9 rfl Try.underlying22 Try.underlying9 info5 _ bs s rfl rfl H1.out HLEN.out ?_; intro A1 c1 w2 h; rw [HSE.out, HRG.out, ← HES.out] at h ⊢; have H2 := Aside0.mk h; clear h))
        go_roundw
        case rel =>
          refine ⟨i + 1, A1, c1, by omega, by first | rfl | go_num, ?_, ⟨HAS.out⟩, ?_⟩
          · rw [HS.out, List.length_append]; rfl
          · rw [HS.out]; exact H2
        case measure => first | (simp [RowKit.intOf]; done) | (simp [RowKit.intOf]; omega)
      | false =>
        go_wp2_with (go_at_call 21; (first | (with_reducible refine (writeF (HO.out.junk _) f0 f1 f2 f3 f4 f5 HW4.out HW5.out HW3.out).mono ?_) | (with_reducible refine (writeF HO.out f0 f1 f2 f3 f4 f5 HW4.out HW5.out HW3.out).mono ?_)); rintro e w1 ⟨⟨s, rfl, _⟩, h⟩; rw [HB.out]; have H1 := Aside0.mk h; clear h)
        go_ret2
        have h2 := HE.out
        unfold encR at h2
        rw [if_neg (fun h => absurd (HALL.out h) (by simp))] at h2
        simp only [Prod.mk.injEq] at h2
        rw [← h2.1, ← h2.2]
        exact ⟨none, 0, rfl, H1.out.tail.row_nil (Kd.int .u8) 5⟩
    · obtain rfl : i = l.length := by omega
      have h2 := HE.out
      unfold encR at h2
      have hal := HAL.out
      rw [List.take_length] at hal
      rw [if_pos hal] at h2
      have H3 : Aside0 (Own w0 wr (Row (Kd.int .u8) 5 (.slice B (encL l).length d) (encL l) :: R)) := ⟨by have := HO.out; rwa [List.take_length] at this⟩
      rw [List.take_length]
      clear HO hal HAL
      by_cases c1 : 4096 < l.length
      · have d1 : decide ((l.length : Int) > 4096) = true := decide_eq_true (by omega)
        rw [if_pos (.inl c1)] at h2
        have H2 := Lib.hid h2
        clear h2
        go_wp2
        go_ret2
        have h2 := H2.out
        simp only [Prod.mk.injEq] at h2
        rw [← h2.1, ← h2.2]
        exact ⟨none, 0, rfl, H3.out.tail.row_nil (Kd.int .u8) 5⟩
      · have d1 : decide ((l.length : Int) > 4096) = false := decide_eq_false (by omega)
        by_cases c2 : 65536 < (encL l).length
        · have d2 : decide (((encL l).length : Int) > 65536) = true := decide_eq_true (by omega)
          rw [if_pos (.inr c2)] at h2
          have H2 := Lib.hid h2
          clear h2
          go_wp2
          go_ret2
          have h2 := H2.out
          simp only [Prod.mk.injEq] at h2
          rw [← h2.1, ← h2.2]
          exact ⟨none, 0, rfl, H3.out.tail.row_nil (Kd.int .u8) 5⟩
        · have d2 : decide (((encL l).length : Int) > 65536) = false := decide_eq_false (by omega)
          rw [if_neg (by omega)] at h2
          have H2 := Lib.hid h2
          clear h2
          go_wp2
          go_ret2
          have h2 := H2.out
          simp only [Prod.mk.injEq] at h2
          rw [← h2.1, ← h2.2]
          exact ⟨B, d, rfl, H3.out⟩
end
end Go.Proofs.Ytapkoiaeghjpdaa.PScriptWrites
