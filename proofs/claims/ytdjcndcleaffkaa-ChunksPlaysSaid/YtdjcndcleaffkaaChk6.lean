/- Pieces that came (package chunks): whatever came. -/
import Derived.Test.YtdjcndcleaffkaaChk5
namespace Go.Proofs.Ytdjcndcleaffkaa.PChunksPlays
open Go.RowKit Go.Proofs.YtdjcndcleaffkaaW.PrintWords Go.Proofs.YtdjcndcleaffkaaW.PrintLast Go.Proofs.YtdjcndcleaffkaaW.PrintMore
open Go.Proofs.YtdjcndcleaffkaaO
attribute [local go_sem] max2_int min2_int max_two min_two max_three min_three max_four min_four
set_option linter.unusedVariables false
set_option linter.unusedSimpArgs false
/-- Pieces that came: none yet, or their texts and numbers. -/
def RowsA (g : Nat) : Option (List ByteArray × List Int) → Asn
  | none => RowsN g
  | some (xs, L) => RowsS g xs L
/-- What Put answers, and what there is then. -/
def putR (st : Option (List ByteArray × List Int)) (n count : Int) (d : ByteArray) : Bool × Int × Option (List ByteArray × List Int) :=
  if mayB n count d = false then (false, 1, st) else
  match st with
  | none => (true, 0, some ((List.replicate count.toNat ⟨#[]⟩).set (n - 1).toNat d, [n]))
  | some (xs, L) => if xs.length ≠ count.toNat ∨ (n ∈ L ∧ xs[(n - 1).toNat]? ≠ some d) then (false, 8, some (xs, L)) else (freshB L n, 0, some (xs.set (n - 1).toNat d, addL L n))
/-- What Acks answers. -/
def AcksIs : Option (List ByteArray × List Int) → Nat → List Int → Prop
  | none, low, M => low = 0 ∧ M = []
  | some (_, L), low, M => LowIs L low ∧ SetIs L low M
/-- What Whole answers. -/
def WholeIs : Option (List ByteArray × List Int) → ByteArray → Bool → Prop
  | none, s, b => s = ⟨#[]⟩ ∧ b = false
  | some (xs, L), s, b => ∃ low, LowIs L low ∧ ((xs.length ≤ low ∧ s = joinB xs ∧ b = true) ∨ (low < xs.length ∧ s = ⟨#[]⟩ ∧ b = false))
theorem whole_ex (st : Option (List ByteArray × List Int)) : ∃ s b, WholeIs st s b := by
  cases st with
  | none => exact ⟨_, _, rfl, rfl⟩
  | some p =>
    obtain ⟨low, h⟩ := low_ex p.2
    by_cases q : p.1.length ≤ low
    · exact ⟨_, _, low, h, .inl ⟨q, rfl, rfl⟩⟩
    · exact ⟨_, _, low, h, .inr ⟨by omega, rfl, rfl⟩⟩
theorem acks_ex (st : Option (List ByteArray × List Int)) : ∃ low M, AcksIs st low M := by
  cases st with
  | none => exact ⟨_, _, rfl, rfl⟩
  | some p =>
    obtain ⟨low, s, h⟩ := facts_ex p.2
    exact ⟨low, s, h⟩
theorem join_len (xs : List ByteArray) (h : ∀ x ∈ xs, x.size ≤ 64) : (Lib.join (xs.map (·.data.toList)) ([] : List UInt8)).length ≤ 64 * xs.length := by
  have e : Lib.join (xs.map (·.data.toList)) ([] : List UInt8) = (xs.map (·.data.toList)).flatten := by
    cases xs with
    | nil => rfl
    | cons x xs =>
      rw [List.map_cons, Lib.join_cons, Lib.joinTail]
      simp
      rfl
  rw [e]
  clear e
  induction xs with
  | nil => exact Nat.zero_le _
  | cons x xs ih =>
    rw [List.map_cons, List.flatten_cons, List.length_append, List.length_cons]
    have h1 := h x (List.mem_cons_self ..)
    have h2 := ih fun y hy => h y (List.mem_cons_of_mem _ hy)
    have h3 : x.data.toList.length = x.size := Array.length_toList
    omega
section
variable {w0 w w' : World} {R : List Asn} {g : Nat} {st : Option (List ByteArray × List Int)}
theorem RowsPut (h : Own w0 w (RowsA g st :: R)) (n count : Int) (d : ByteArray) (b : Bool) (er : Int) (st' : Option (List ByteArray × List Int)) (hp : putR st n count d = (b, er, st')) :
    Calls Try.prog 14 #[.pointer (some ⟨g, 0, none⟩), .int .i64 n, .int .i64 count, .string d] w fun e w' => e = .returned (.tuple #[.bool b, .int .i64 er]) ∧ Own w0 w' (RowsA g st' :: R) := by
  unfold putR at hp
  by_cases hm : mayB n count d = false
  · rw [if_pos hm] at hp
    cases hp
    exact (RowsPut_bad n count d w hm).mono fun e w' ⟨h1, h2⟩ => ⟨h1, h2 ▸ h⟩
  · rw [if_neg hm] at hp
    have hm : mayB n count d = true := by simpa using hm
    have hmb := of_decide_eq_true hm
    obtain ⟨i, rfl⟩ : ∃ i : Nat, n = (i : Int) + 1 := ⟨(n - 1).toNat, by omega⟩
    obtain ⟨m, rfl⟩ : ∃ m : Nat, count = (m : Int) := ⟨count.toNat, by omega⟩
    have e1 : ((i : Int) + 1 - 1).toNat = i := by omega
    have e2 : ((m : Nat) : Int).toNat = m := Int.toNat_natCast m
    rw [e1, e2] at hp
    have him : i < m := by omega
    cases st with
    | none =>
      cases hp
      exact RowsPutN h i m d hm
    | some p =>
      obtain ⟨xs, L⟩ := p
      simp only at hp
      by_cases hl : xs.length = m
      · by_cases hin : ((i : Int) + 1) ∈ L
        · by_cases hx : xs[i]? = some d
          · rw [if_neg (by rintro (q | q); exact q hl; exact q.2 hx)] at hp
            cases hp
            have hf : freshB L ((i : Int) + 1) = false := decide_eq_false fun q => q.2.2 hin
            rw [hf]
            exact RowsPut_old h i m d hm hl hin hx
          · rw [if_pos (.inr ⟨hin, hx⟩)] at hp
            cases hp
            exact RowsPut_ne h i m d hm hl hin hx
        · rw [if_neg (by rintro (q | q); exact q hl; exact hin q.1)] at hp
          cases hp
          have hf : freshB L ((i : Int) + 1) = true := decide_eq_true ⟨by omega, by omega, hin⟩
          rw [hf]
          exact RowsPut_new h i m d hm hl hin
      · rw [if_pos (.inl hl)] at hp
        cases hp
        exact RowsPut_len h i m d hm hl
theorem RowsAcksA (h : Own w0 w (RowsA g st :: R)) (low : Nat) (M : List Int) (hl : AcksIs st low M) : Calls Try.prog 12 #[.pointer (some ⟨g, 0, none⟩)] w fun e w' => ∃ A c, e = .returned (.tuple #[.int .i64 low, .slice A M.length c]) ∧ M.length ≤ c ∧ Own w0 w' (Row (Kd.int .i64) 3 (.slice A M.length c) M :: RowsA g st :: R) := by
  cases st with
  | none =>
    obtain ⟨rfl, rfl⟩ := hl
    exact (RowsAcksN h).mono fun e w' ⟨h1, h2⟩ => ⟨none, 0, h1, Nat.le_refl _, h2.row_nil _ _⟩
  | some p =>
    obtain ⟨xs, L⟩ := p
    have hL : L.length ≤ 1000000000 := by
      obtain ⟨A, c, ga, hf, hc, h2⟩ := rows_open h
      have := right_len (acks_right h2.r2) fun x hx => hf.2.2.1 x hx
      omega
    exact RowsAcks h low M hl.1 hl.2 hL
theorem RowsWholeA (h : Own w0 w (RowsA g st :: R)) (s : ByteArray) (b : Bool) (hw : WholeIs st s b) : Calls Try.prog 13 #[.pointer (some ⟨g, 0, none⟩)] w fun e w' => e = .returned (.tuple #[.string s, .bool b]) ∧ Own w0 w' (RowsA g st :: R) := by
  cases st with
  | none =>
    obtain ⟨rfl, rfl⟩ := hw
    exact RowsWholeN h
  | some p =>
    obtain ⟨xs, L⟩ := p
    obtain ⟨low, hl, ⟨h1, rfl, rfl⟩ | ⟨h1, rfl, rfl⟩⟩ := hw
    · have hj : (Lib.join (xs.map (·.data.toList)) ([] : List UInt8)).length ≤ 140737488355328 := by
        obtain ⟨A, c, ga, hf, hc, h2⟩ := rows_open h
        have := join_len xs hf.2.2.2
        omega
      exact RowsWhole_yes h low hl h1 hj
    · exact RowsWhole_no h low hl h1
theorem RowsNewA (h : Own w0 w R) : Calls Try.prog 11 #[] w fun e w' => ∃ g : Nat, e = .returned (.pointer (some ⟨g, 0, none⟩)) ∧ Own w0 w' (RowsA g none :: R) := RowsNew h
end
end Go.Proofs.Ytdjcndcleaffkaa.PChunksPlays
