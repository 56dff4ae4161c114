/- Writers of bytes (package pack), function by function: what each call does; numbers' bytes, read back. -/
import Derived.Test.YtjlcggjghlmiaaaPack1
namespace Go.Proofs.Ytjlcggjghlmiaaa.PPackWrites
open Go.RowKit Go.Proofs.YtjlcggjghlmiaaaW.PrintWords Go.Proofs.YtjlcggjghlmiaaaW.PrintLast Go.Proofs.YtjlcggjghlmiaaaW.PrintMore
attribute [local go_sem] max2_int min2_int max_two min_two max_three min_three max_four min_four
set_option linter.unusedVariables false
set_option linter.unusedSimpArgs false
/-- A number's bytes. -/
def numB (n : Nat) : List Int := if n < 128 then [(n : Int)] else ((n % 128 + 128 : Nat) : Int) :: numB (n / 128)
decreasing_by omega
theorem or128 (n : Nat) : Go.bits .or .u8 (((n : Int)) % 256) 128 = ((n % 128 + 128 : Nat) : Int) := by
  have h : ∀ m, m < 256 → Go.bits .or .u8 ((m : Nat) : Int) 128 = ((m % 128 + 128 : Nat) : Int) := by decide +kernel
  have h1 := h (n % 256) (Nat.mod_lt _ (by omega))
  have e : ((n : Int)) % 256 = ((n % 256 : Nat) : Int) := by omega
  rw [e, h1]
  congr 1
  omega
theorem numB_len (n : Nat) : ∀ k, n < 128 ^ k → 1 ≤ (numB n).length ∧ (numB n).length ≤ max k 1 := by
  induction n using Nat.strongRecOn with
  | ind n ih =>
    intro k hk
    rw [numB]
    split
    · simp; omega
    · cases k with
      | zero => simp at hk; omega
      | succ k =>
        have := ih (n / 128) (by omega) k (by rw [Nat.pow_succ] at hk; omega)
        simp only [List.length_cons]
        have : k ≠ 0 := by rintro rfl; simp at hk; omega
        omega
theorem putVar_f (n : Nat) : ∀ (k : Nat) (l : List Int), n < 128 ^ k → 0 < k → l.length + k < 100000000000000 → pack_putVar.f k l (n : Int) = some (l ++ numB n) := by
  induction n using Nat.strongRecOn with
  | ind n ih =>
    intro k l hk h0 hl
    obtain ⟨k, rfl⟩ : ∃ j, k = j + 1 := ⟨k - 1, by omega⟩
    unfold pack_putVar.f pack_putVar.l0
    by_cases h : n < 128
    · rw [if_neg (show ¬ ((n : Int) ≥ 128) by omega), if_pos (by omega), numB, if_pos h]
      congr 3
      omega
    · rw [if_pos (show ((n : Int) ≥ 128) by omega), if_pos (by omega), or128]
      have e : ((n : Int)) / 128 = ((n / 128 : Nat) : Int) := by omega
      have hk1 : 0 < k := by
        rcases Nat.eq_zero_or_pos k with rfl | h1
        · simp at hk; omega
        · exact h1
      have := ih (n / 128) (by omega) k (l ++ [((n % 128 + 128 : Nat) : Int)]) (by rw [Nat.pow_succ] at hk; omega) hk1 (by simp; omega)
      unfold pack_putVar.f at this
      rw [e, this]
      conv => rhs; rw [numB, if_neg h]
      simp
/-- Bytes that are written. -/
structure IsO (w0 w : World) (g : Nat) (v : Value) (l : List Int) : Prop where
  hg : w.heap[g]? = some (.cells #[v] 26 (0, 0))
  ge : w0.heap.size ≤ g
  row : (Kd.int .u8).R 5 w w0.heap.size (fun k => v.ownBlock = some k) v l
/-- What writing leaves: more bytes; all else but the writer and its row as it was. -/
structure OutR (w0 w w' : World) (g : Nat) (v v' : Value) (l : List Int) : Prop where
  is : IsO w0 w' g v' l
  bel : Below w0.heap.size w0 w'
  sz : w.heap.size ≤ w'.heap.size
  keep : ∀ k, k < w.heap.size → k ≠ g → v.ownBlock ≠ some k → w'.heap[k]? = w.heap[k]?
  at_ : ∀ k, v'.ownBlock = some k → v.ownBlock = some k ∨ w.heap.size ≤ k
theorem R_tight {w : World} {B : Nat} {P : Nat → Prop} {v : Value} {l : List Int} (h : (Kd.int .u8).R 5 w B P v l) : (Kd.int .u8).R 5 w B (fun k => v.ownBlock = some k) v l := ⟨fun k hk => hk, h.2.imp_ fun _ _ hp => hp⟩
theorem IsO.ne {w0 w : World} {g : Nat} {v : Value} {l : List Int} (h : IsO w0 w g v l) : v.ownBlock ≠ some g := fun e => Kd.R_ne h.row h.hg (by decide) e.symm
theorem IsO.row_lt {w0 w : World} {g : Nat} {v : Value} {l : List Int} (h : IsO w0 w g v l) : ∀ k, v.ownBlock = some k → w0.heap.size ≤ k ∧ k < w.heap.size := fun k hk => by
  have := (Kd.R_bound h.row).1 k hk
  exact ⟨this.2.1, this.2.2.1⟩
theorem pow10 (n : Nat) (h : n < 2 ^ 64) : n < 128 ^ 10 := Nat.lt_trans h (by decide)
set_option maxHeartbeats 4000000 in
set_option maxRecDepth 100000 in
theorem onum_calls (g : Nat) (v : Value) (l : List Int) (n : Nat) (hn : n < 2 ^ 64) (hl : l.length < 10000000000000) (w0 w : World) (hI : IsO w0 w g v l) (hB : Below w0.heap.size w0 w) :
    Calls Try.prog 28 #[.pointer (some ⟨g, 0, none⟩), .int .u64 n] w fun e w' => e = .returned (.tuple #[]) ∧ ∃ v', OutR w0 w w' g v v' (l ++ numB n) := by
  have y0 := (blk_cell hI.hg 0).trans rfl
  have HC := Aside0.mk (pack_putVar.calls 10 (fun k => v.ownBlock = some k) v l n (l ++ numB n) w0 w hB hI.row (putVar_f n 10 l (pow10 n hn) (by omega) (by omega)))
  have HI := Aside0.mk hI
  have hgl := Aside0.mk (blk_lt hI.hg)
  have hne := Aside0.mk hI.ne
  clear hI hB
  go_enter Try.func28, Try.ntmps28
  go_wp2_with (go_at_call 29; refine HC.out.mono ?_; rintro e w1 ⟨v1, rfl, hr, hb, hk⟩; obtain ⟨A1, c1, e1⟩ := Kd.R_slice hr; subst e1; have HR := Aside0.mk hr; have HB1 := Aside0.mk hb; have HK := Aside0.mk hk; have G1 := Aside0.mk (blk_kept HI.out.hg hk hne.out); clear hr hb hk y0; have z0 := (blk_cell G1.out 0).trans rfl; have f0 := blk_frozen G1.out 0)
  refine Go.Great.bodyPost_end0 (by kernel_rfl) rfl ?_
  exact ⟨rfl, _, ⟨by simpa using blk_set G1.out 0 _, HI.out.ge, R_tight (Kd.R_set HR.out G1.out (by decide) 0 _)⟩, below_set HB1.out HI.out.ge, by simpa using HK.out.1, fun k hk h1 h2 => by rw [Below.heap_setCell _ _ _ _ h1]; exact HK.out.2 k hk h2, fun k hk => HR.out.1 k hk⟩

/-- An integer as a number. -/
def zigN (i : Int) : Nat := if 0 ≤ i then (2 * i).toNat else (2 * (-(i + 1)) + 1).toNat
theorem xor_none (x : Int) (h0 : 0 ≤ x) (h1 : x < 18446744073709551616) : Go.bits .xor .u64 x 0 = x := by
  have h : Go.bits .xor .u64 x 0 = IntKind.u64.wrap (((BitVec.ofInt 64 x) ^^^ (BitVec.ofInt 64 0)).toNat : Int) := rfl
  rw [h, show BitVec.ofInt 64 0 = 0#64 from rfl, BitVec.xor_zero, BitVec.toNat_ofInt]
  simp only [IntKind.wrap, IntKind.bits, IntKind.signed]
  simp
  omega
theorem xor_all (x : Int) (h0 : 0 ≤ x) (h1 : x < 18446744073709551616) : Go.bits .xor .u64 x 18446744073709551615 = 18446744073709551615 - x := by
  have h : Go.bits .xor .u64 x 18446744073709551615 = IntKind.u64.wrap (((BitVec.ofInt 64 x) ^^^ (BitVec.ofInt 64 18446744073709551615)).toNat : Int) := rfl
  rw [h, show BitVec.ofInt 64 18446744073709551615 = BitVec.allOnes 64 from by decide, BitVec.xor_allOnes, BitVec.toNat_not, BitVec.toNat_ofInt]
  simp only [IntKind.wrap, IntKind.bits, IntKind.signed]
  simp
  omega
theorem zig_bits (i : Int) (h0 : -(2^63) ≤ i) (h1 : i < 2 ^ 63) : Go.bits .xor .u64 (IntKind.u64.wrap (IntKind.u64.wrap i * 2)) (IntKind.u64.wrap (i / 9223372036854775808)) = ((zigN i : Nat) : Int) := by
  by_cases h : 0 ≤ i
  · have e1 : IntKind.u64.wrap (IntKind.u64.wrap i * 2) = 2 * i := by simp only [IntKind.wrap, IntKind.bits, IntKind.signed]; simp; omega
    have e2 : IntKind.u64.wrap (i / 9223372036854775808) = 0 := by simp only [IntKind.wrap, IntKind.bits, IntKind.signed]; simp; omega
    rw [e1, e2, xor_none _ (by omega) (by omega), zigN, if_pos h]
    omega
  · have e1 : IntKind.u64.wrap (IntKind.u64.wrap i * 2) = 18446744073709551616 + 2 * i := by simp only [IntKind.wrap, IntKind.bits, IntKind.signed]; simp; omega
    have e2 : IntKind.u64.wrap (i / 9223372036854775808) = 18446744073709551615 := by simp only [IntKind.wrap, IntKind.bits, IntKind.signed]; simp; omega
    rw [e1, e2, xor_all _ (by omega) (by omega), zigN, if_neg h]
    omega
theorem zigN_lt (i : Int) (h0 : -(2^63) ≤ i) (h1 : i < 2 ^ 63) : zigN i < 2 ^ 64 := by
  unfold zigN
  split <;> omega
set_option maxHeartbeats 4000000 in
set_option maxRecDepth 100000 in
theorem oint_calls (g : Nat) (v : Value) (l : List Int) (i : Int) (h0 : -(2^63) ≤ i) (h1 : i < 2 ^ 63) (hl : l.length < 10000000000000) (w0 w : World) (hI : IsO w0 w g v l) (hB : Below w0.heap.size w0 w) :
    Calls Try.prog 10 #[.pointer (some ⟨g, 0, none⟩), .int .i64 i] w fun e w' => e = .returned (.tuple #[]) ∧ ∃ v', OutR w0 w w' g v v' (l ++ numB (zigN i)) := by
  have y0 := (blk_cell hI.hg 0).trans rfl
  have HC := Aside0.mk (pack_putVar.calls 10 (fun k => v.ownBlock = some k) v l (zigN i) (l ++ numB (zigN i)) w0 w hB hI.row (putVar_f (zigN i) 10 l (pow10 _ (zigN_lt i h0 h1)) (by omega) (by omega)))
  have HI := Aside0.mk hI
  have hgl := Aside0.mk (blk_lt hI.hg)
  have hne := Aside0.mk hI.ne
  have HZ := Aside0.mk (zig_bits i h0 h1)
  clear hI hB
  go_enter Try.func10, Try.ntmps10
  go_wp2_with (go_at_call 29; rw [HZ.out]; refine HC.out.mono ?_; rintro e w1 ⟨v1, rfl, hr, hb, hk⟩; obtain ⟨A1, c1, e1⟩ := Kd.R_slice hr; subst e1; have HR := Aside0.mk hr; have HB1 := Aside0.mk hb; have HK := Aside0.mk hk; have G1 := Aside0.mk (blk_kept HI.out.hg hk hne.out); clear hr hb hk y0; have z0 := (blk_cell G1.out 0).trans rfl; have f0 := blk_frozen G1.out 0)
  refine Go.Great.bodyPost_end0 (by kernel_rfl) rfl ?_
  exact ⟨rfl, _, ⟨by simpa using blk_set G1.out 0 _, HI.out.ge, R_tight (Kd.R_set HR.out G1.out (by decide) 0 _)⟩, below_set HB1.out HI.out.ge, by simpa using HK.out.1, fun k hk h1 h2 => by rw [Below.heap_setCell _ _ _ _ h1]; exact HK.out.2 k hk h2, fun k hk => HR.out.1 k hk⟩
set_option maxHeartbeats 4000000 in
set_option maxRecDepth 100000 in
theorem ostr_calls (g : Nat) (v : Value) (l : List Int) (w0 w : World) (hI : IsO w0 w g v l) :
    Calls Try.prog 14 #[.pointer (some ⟨g, 0, none⟩)] w fun e w' => e = .returned (.string (strOfNums l)) ∧ w = w' := by
  obtain ⟨A1, c1, e1, hc, hC⟩ := Kd.R_reads hI.row
  subst e1
  have y0 := (blk_cell hI.hg 0).trans rfl
  have hcv := Kd.C_string (P := Try.prog) (src := 24) (dst := 9) (c := c1) Try.underlying24 (by kernel_rfl) Try.underlying9 hC
  clear hI hC
  go_enter Try.func14, Try.ntmps14
  go_wp2
  go_ret
  exact ⟨rfl, rfl⟩
set_option maxHeartbeats 4000000 in
set_option maxRecDepth 100000 in
theorem obyte_calls (g : Nat) (v : Value) (l : List Int) (b : Int) (hl : l.length < 10000000000000) (w0 w : World) (hI : IsO w0 w g v l) (hB : Below w0.heap.size w0 w) :
    Calls Try.prog 30 #[.pointer (some ⟨g, 0, none⟩), .int .u8 b] w fun e w' => e = .returned (.tuple #[]) ∧ ∃ v', OutR w0 w w' g v v' (l ++ [b]) := by
  have y0 := (blk_cell hI.hg 0).trans rfl
  have HI := Aside0.mk hI
  have HR0 := Aside0.mk (show (Kd.int .u8).R 5 w w0.heap.size (fun k => v.ownBlock = some k ∨ w.heap.size ≤ k) v l from Kd.R_mono hI.row (fun k hk => .inl hk))
  have hgl := Aside0.mk (blk_lt hI.hg)
  have hne := Aside0.mk hI.ne
  have HB := Aside0.mk hB
  clear hI hB
  go_enter Try.func30, Try.ntmps30
  go_wp2_with (first | ((with_reducible refine gate_builtin (b := .append) (xs := #[.tmp 10, .tmp 12]) rfl ?_); at_builtin; refine Kd.R_append (Kd.int .u8) (w0 := w0) w0.heap.size rfl (.tmp 10) (.tmp 12) 24 5 (.int .u8 0) 1 rfl Try.underlying24 info5 rfl (by decide) (by omega) v l b [.int .u8 b] (fun k => v.ownBlock = some k ∨ w.heap.size ≤ k) (fun _ => False) rfl rfl ?aP (fun _ hk => hk.elim) ?aF ?aO ?aB ?aS ?aL ?_; (case aP => exact rfl); (case aF => exact fun k hk => .inr hk); (case aO => exact HR0.out); (case aB => exact HB.out); (case aS => exact HB.out.size); (case aL => simp only [Nat.mul_one]; omega); intro v1 w1 hr hb hg hat; obtain ⟨A1, c1, e1⟩ := Kd.R_slice hr; subst e1; have HR := Aside0.mk hr; have HB1 := Aside0.mk hb; have HK := Aside0.mk hg; have G1 := Aside0.mk (blk_grown HI.out.hg hg (fun e => hne.out e.symm)); clear hr hb hg hat y0; have z0 := (blk_cell G1.out 0).trans rfl; have f0 := blk_frozen G1.out 0))
  refine Go.Great.bodyPost_end0 (by kernel_rfl) rfl ?_
  exact ⟨rfl, _, ⟨by simpa using blk_set G1.out 0 _, HI.out.ge, R_tight (Kd.R_set HR.out G1.out (by decide) 0 _)⟩, below_set HB1.out HI.out.ge, by simpa using HK.out.size, fun k hk h1 h2 => by rw [Below.heap_setCell _ _ _ _ h1]; exact HK.out.block k hk (fun e => h2 e.symm), fun k hk => HR.out.1 k hk⟩

section
variable {P : Program} {w : World}
theorem append_str_at (base : Nat) (t u ty e : TypeId) (i : TypeInfo) (ht : P.underlying t = some (.slice e)) (hu : P.underlying u = some .string) (hi : P.info? e = some i) (hz : i.zero = some (.int .u8 0))
    (hsize : i.size = 1) (hby : i.bytes = 1) (v : Value) (n : Nat) (xs : List Value) (hown : w.ownsRow base e 1 v n xs) (s : ByteArray) (h63 : n + s.size ≤ maxLen) (hbytes : n + s.size ≤ 140737488355328) (hbase : base ≤ w.heap.size) :
    ∃ v' w', (Builtin.append_ #[t, u] ty #[v, .string s]).run P w = .ok v' w' ∧ w'.ownsRow base e 1 v' (n + s.size) (xs ++ Lib.strCells s) ∧ w.grownBy w' v.ownBlock ∧ (v'.ownBlock = v.ownBlock ∨ ∃ b, v'.ownBlock = some b ∧ w.heap.size ≤ b) := by
  obtain ⟨v', w', hr, h1, h2, h3⟩ := Lib.run_append_own_string (P := P) w base t u ty e i ht hu hi hz hsize hby v n xs hown s h63 hbytes hbase
  refine ⟨v', w', hr, h1, h2, ?_⟩
  have hxl : xs.length = n := by simpa using hown.1
  rcases hown.2 with ⟨rfl, rfl⟩ | ⟨g, cap, cur, rfl, hbg, hg, hnc, hcm, hcs, htake⟩
  · have hown2 : w.ownsRow w.heap.size e 1 (.slice none 0 0) 0 xs := ⟨hown.1, .inl ⟨rfl, rfl⟩⟩
    obtain ⟨v2, w2, hr2, h12, h22, h32⟩ := Lib.run_append_own_string (P := P) w w.heap.size t u ty e i ht hu hi hz hsize hby _ 0 xs hown2 s h63 hbytes (Nat.le_refl _)
    rw [hr] at hr2
    injection hr2 with ha hb
    subst ha hb
    rcases h12.2 with ⟨rfl, _⟩ | ⟨g, cap, cur, rfl, hbg, _⟩
    · exact .inl rfl
    · exact .inr ⟨g, rfl, hbg⟩
  · by_cases hroom : n + s.size ≤ cap
    · have hcur : n + s.size ≤ cur.size := by
        have : cur.size = cap := by simpa using hcs
        omega
      have hr2 := Lib.run_append_room_string (P := P) w t u ty e i ht hu hi hsize g n cap cur hg s hroom hcur
      rw [hr] at hr2
      injection hr2 with ha hb
      subst ha
      exact .inl rfl
    · have holds : ∀ j u, xs[j]? = some u → w.cell? ((⟨g, 0, none⟩ : Addr).add j) = some u := hown.cells (g := g) rfl
      have hr2 := Lib.run_append_grow_string (P := P) w t u ty e i (.int .u8 0) ht hu hi hz ⟨g, 0, none⟩ n cap xs (by rw [hsize]; simpa using hxl) holds s (by omega) (by simp only [maxLen] at h63; omega) (by rw [hby]; exact growslice_fits (by omega) (by omega))
      rw [hr] at hr2
      injection hr2 with ha hb
      subst ha
      exact .inr ⟨_, rfl, Nat.le_refl _⟩
theorem app_str {ops : Array Oper} {rest : List Oper} {o : Oper} {a : Act} {Q : Exit → Act → World → Prop} {w0 W : World} (base : Nat) (hgd : o.guard = none) (s x : Operand) (t u e : TypeId)
    (ho : o.op = .call { callee := .builtin .append, args := #[s, x], argTypes := #[t, u] })
    (ht : P.underlying t = some (.slice e)) (hu : P.underlying u = some .string) (hinfo : (P.info? e).map (fun i => (i.zero, i.size, i.bytes)) = some (some (.int .u8 0), 1, 1))
    (v : Value) (xs : List Int) (y : ByteArray) (hs : a.eval s = v) (hx : a.eval x = .string y)
    (HO : W.ownsRow base e 1 v xs.length (nums .u8 xs)) (HB : Below base w0 W) (hbase : base ≤ W.heap.size) (hl : xs.length + y.size ≤ 140737488355328)
    (h : ∀ v1 w1, w1.ownsRow base e 1 v1 (xs ++ bytesOf y).length (nums .u8 (xs ++ bytesOf y)) → Below base w0 w1 → W.grownBy w1 v.ownBlock → (v1.ownBlock = v.ownBlock ∨ ∃ b, v1.ownBlock = some b ∧ W.heap.size ≤ b) → wpList P ops Q rest (a.put o.dst v1) w1) :
    wpList P ops Q (o :: rest) a W := by
  obtain ⟨i0, hi, hzz⟩ := Option.map_eq_some_iff.1 hinfo
  simp only [Prod.mk.injEq] at hzz
  obtain ⟨hz0, hz1, hz2⟩ := hzz
  refine wpList_plain hgd fun K hK => ?_
  obtain ⟨v1, w1, hr, hown, hg, hat⟩ := append_str_at (P := P) (w := W) base t u o.type e i0 ht hu hi hz0 hz1 hz2 v xs.length (nums .u8 xs) HO y (by simp only [maxLen]; omega) hl hbase
  have hl2 : (xs ++ bytesOf y).length = xs.length + y.size := by rw [List.length_append, bytesOf_length]
  have hc : nums .u8 (xs ++ bytesOf y) = nums .u8 xs ++ Lib.strCells y := by
    rw [nums_append]
    congr 1
    simp [nums, bytesOf, Lib.strCells]
  unfold Oper.wp execOp
  simp only [ho, resolve, invoke, builtin, Sem.run_bind, Sem.run_pure, Result.andThen_ok, List.map_toArray, List.map_cons, List.map_nil, hs, hx, hr]
  exact hK _ _ (h v1 w1 (by rw [hl2, hc]; exact hown) (HB.grown hg hbase (own_base HO)) hg hat)
end
theorem R_of_nums {w : World} {B : Nat} {P : Nat → Prop} {v : Value} {l : List Int} (h : w.ownsRow B 5 1 v l.length (nums .u8 l)) (hp : ∀ k, v.ownBlock = some k → P k) : (Kd.int .u8).R 5 w B P v l := Kd.R_of_own (enc := Value.int .u8) h hp
theorem nums_of_R {w : World} {B : Nat} {P : Nat → Prop} {v : Value} {l : List Int} (h : (Kd.int .u8).R 5 w B P v l) : w.ownsRow B 5 1 v l.length (nums .u8 l) := Kd.own_of_R (enc := Value.int .u8) h
set_option maxHeartbeats 4000000 in
set_option maxRecDepth 100000 in
theorem otext_calls (g : Nat) (v : Value) (l : List Int) (s : ByteArray) (hs : s.size < 1000000) (hl : l.length < 1000000000000) (w0 w : World) (hI : IsO w0 w g v l) (hB : Below w0.heap.size w0 w) :
    Calls Try.prog 11 #[.pointer (some ⟨g, 0, none⟩), .string s] w fun e w' => e = .returned (.tuple #[]) ∧ ∃ v', OutR w0 w w' g v v' (l ++ (numB s.size ++ bytesOf s)) := by
  have HC := Aside0.mk (onum_calls g v l s.size (by omega) (by omega) w0 w hI hB)
  have HI := Aside0.mk hI
  have HB := Aside0.mk hB
  have hnl := (numB_len s.size 10 (pow10 _ (by omega))).2
  have hlen : (l ++ numB s.size).length + s.size ≤ 140737488355328 := by rw [List.length_append]; omega
  have HL := Aside0.mk hlen
  have wu : IntKind.u64.wrap (s.size : Int) = (s.size : Int) := by simp only [IntKind.wrap, IntKind.bits, IntKind.signed]; simp; omega
  clear hI hB hlen hnl
  go_enter Try.func11, Try.ntmps11
  go_wp2_with (first | (go_at_call 28; refine HC.out.mono ?_; rintro e w1 ⟨rfl, v1, hr⟩; have R1 := Aside0.mk hr; have y0 := (blk_cell hr.is.hg 0).trans rfl; clear hr) | ((with_reducible refine gate_builtin (b := .append) (xs := #[.tmp 15, .tmp 16]) rfl ?_); at_builtin; refine app_str (w0 := w0) w0.heap.size rfl (.tmp 15) (.tmp 16) 24 9 5 rfl Try.underlying24 Try.underlying9 info5 v1 (l ++ numB s.size) s rfl rfl (nums_of_R R1.out.is.row) R1.out.bel R1.out.bel.size HL.out ?_; intro v2 w2 hr hb hg hat; obtain ⟨A1, c1, e1⟩ := Kd.R_slice (R_of_nums (P := fun _ => True) hr (fun _ _ => trivial)); subst e1; have HR := Aside0.mk hr; have HB1 := Aside0.mk hb; have HK := Aside0.mk hg; have HA := Aside0.mk hat; have G1 := Aside0.mk (blk_grown R1.out.is.hg hg (fun e => R1.out.is.ne e.symm)); clear hr hb hg hat y0; have z0 := (blk_cell G1.out 0).trans rfl; have f0 := blk_frozen G1.out 0))
  refine Go.Great.bodyPost_end0 (by kernel_rfl) rfl ?_
  have hat := HA.out
  clear HA
  have R2 := R_of_nums HR.out (fun k hk => hk)
  rw [List.append_assoc] at R2
  refine ⟨rfl, _, ⟨by simpa using blk_set G1.out 0 _, HI.out.ge, Kd.R_set R2 G1.out (by decide) 0 _⟩, below_set HB1.out HI.out.ge, ?_, fun k hk h1 h2 => ?_, fun k hk => ?_⟩
  · have := HK.out.size
    have := R1.out.sz
    simp
    omega
  · have hk1 : k < w1.heap.size := Nat.lt_of_lt_of_le hk R1.out.sz
    rw [Below.heap_setCell _ _ _ _ h1, HK.out.block k hk1 ?_, R1.out.keep k hk h1 h2]
    intro e
    rcases R1.out.at_ k e.symm with h | h
    · exact h2 h
    · omega
  · rw [← List.append_assoc] at hk
    rcases hat with h | ⟨b, h, hb⟩
    · exact R1.out.at_ k (h ▸ (show (Value.slice A1 (l ++ numB s.size ++ bytesOf s).length c1).ownBlock = some k from hk))
    · replace hk := h.symm.trans (show (Value.slice A1 (l ++ numB s.size ++ bytesOf s).length c1).ownBlock = some k from hk)
      injection hk with hk
      have := R1.out.sz
      exact .inr (by omega)
set_option maxHeartbeats 4000000 in
theorem onum_nil (n : Int) (w : World) : Calls Try.prog 28 #[.pointer none, .int .u64 n] w fun e w' => e = .returned (.tuple #[]) ∧ w = w' := by
  go_enter Try.func28, Try.ntmps28
  go_wp2
  exact Go.Great.bodyPost_end0 (by kernel_rfl) rfl ⟨rfl, rfl⟩
set_option maxHeartbeats 4000000 in
theorem oint_nil (n : Int) (w : World) : Calls Try.prog 10 #[.pointer none, .int .i64 n] w fun e w' => e = .returned (.tuple #[]) ∧ w = w' := by
  go_enter Try.func10, Try.ntmps10
  go_wp2
  exact Go.Great.bodyPost_end0 (by kernel_rfl) rfl ⟨rfl, rfl⟩
set_option maxHeartbeats 4000000 in
theorem obyte_nil (n : Int) (w : World) : Calls Try.prog 30 #[.pointer none, .int .u8 n] w fun e w' => e = .returned (.tuple #[]) ∧ w = w' := by
  go_enter Try.func30, Try.ntmps30
  go_wp2
  exact Go.Great.bodyPost_end0 (by kernel_rfl) rfl ⟨rfl, rfl⟩
set_option maxHeartbeats 4000000 in
theorem otext_nil (s : ByteArray) (w : World) : Calls Try.prog 11 #[.pointer none, .string s] w fun e w' => e = .returned (.tuple #[]) ∧ w = w' := by
  go_enter Try.func11, Try.ntmps11
  go_wp2_with (go_at_call 28; refine (onum_nil _ _).mono ?_; rintro e w1 ⟨rfl, rfl⟩)
  exact Go.Great.bodyPost_end0 (by kernel_rfl) rfl ⟨rfl, rfl⟩
set_option maxHeartbeats 4000000 in
theorem ostr_nil (w : World) : Calls Try.prog 14 #[.pointer none] w fun e w' => e = .returned (.string .empty) ∧ w = w' := by
  go_enter Try.func14, Try.ntmps14
  go_wp2
  go_ret
  exact ⟨rfl, rfl⟩
theorem IsO.new {w0 w : World} (hB : Below w0.heap.size w0 w) : IsO w0 (w.alloc (.cells #[.slice none 0 0] 26 (0, 0))) w.heap.size (.slice none 0 0) [] := ⟨blk_new w _, hB.size, Kd.R_nil _ _ _ _ _⟩
theorem IsO.step {w0 w w' : World} {g : Nat} {v : Value} {l : List Int} (h : IsO w0 w g v l) (hb : ∀ k, k < w.heap.size → k = g ∨ v.ownBlock = some k → w'.heap[k]? = w.heap[k]?) : IsO w0 w' g v l :=
  ⟨(hb g (blk_lt h.hg) (.inl rfl)).trans h.hg, h.ge, Kd.R_step h.row fun k ho hk => hb k hk (.inr ho)⟩
theorem IsO.other {w0 w w' : World} {g g2 : Nat} {v v' v2 : Value} {l l0 l2 : List Int} (h : IsO w0 w g2 v2 l2) (h0 : IsO w0 w g v l0) (r : OutR w0 w w' g v v' l) (hn : g2 ≠ g) (hv : ∀ k, v.ownBlock = some k → v2.ownBlock ≠ some k) : IsO w0 w' g2 v2 l2 :=
  h.step fun k hk hkk => by
    rcases hkk with rfl | hkk
    · exact r.keep _ hk hn (fun e => Kd.R_ne h0.row h.hg (by decide) e.symm)
    · exact r.keep _ hk (fun e => Kd.R_ne h.row h0.hg (by decide) (e ▸ hkk.symm)) (fun e => hv k e hkk)
theorem IsO.below {w0 w w' : World} {g : Nat} {v : Value} {l : List Int} (h : IsO w0 w g v l) (hb : Below w.heap.size w w') : IsO w0 w' g v l := h.step fun k hk _ => hb.block k hk
end Go.Proofs.Ytjlcggjghlmiaaa.PPackWrites
