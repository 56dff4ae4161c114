-- printed by hand: the walk of the law meterlaw06.ShardkeyKnown
import Derived.Test.YtncklmcjaicoiaaPShardkeyKnownx1
import Derived.Test.YtncklmcjaicoiaaPureShardkeyKnown
import Derived.Lib.Hide
import Derived.Laws.BytesString
import Derived.Deep.MidRow
import Derived.Outline
namespace Go.Proofs.Ytncklmcjaicoiaa.PShardkeyKnown
open Go.RowKit Go.Proofs.YtncklmcjaicoiaaW.PrintWords Go.Proofs.YtncklmcjaicoiaaW.PrintLast Go.Proofs.YtncklmcjaicoiaaW.PrintMore
open Go.Proofs.Ytncklmcjaicoiaa.Pure (hv hasB hasArr hasArr_get hasArr_set hasArr_zero has_all of_get)
set_option linter.unusedVariables false
set_option linter.unusedSimpArgs false
theorem below_drawn {B : Nat} {w w' w2 : World} (h : Below B w w') (hd : Drawn0 w' w2) : Below B w w2 := by
  obtain ⟨n, rfl⟩ := hd.out
  exact pw_below_drewN h n
theorem conv_one (w : World) (b : Nat) (hb : b < 256) (e : TypeId) (he : e = 5) : (convert 25 9 (.slice (some ⟨w.heap.size, 0, none⟩) 1 1)).run Try.prog (w.alloc (.cells #[.int .u8 (b : Int)] e)) = .ok (.string ⟨#[UInt8.ofNat b]⟩) (w.alloc (.cells #[.int .u8 (b : Int)] e)) := by
  have hl : (loadCells ⟨w.heap.size, 0, none⟩ 1).run Try.prog (w.alloc (.cells #[.int .u8 (b : Int)] e)) = .ok ([(b : Int)].map (Value.int .u8)).toArray (w.alloc (.cells #[.int .u8 (b : Int)] e)) := by
    have := run_loadCells_list (P := Try.prog) (w.alloc (.cells #[.int .u8 (b : Int)] e)) ⟨w.heap.size, 0, none⟩ ([(b : Int)].map (Value.int .u8)) (fun j v hv => by
      rw [Addr.add_mid, Nat.zero_add, blk_cell (blk_new w _) j]
      cases j with
      | zero => exact hv
      | succ j => simp at hv)
    exact this
  rw [run_convert_bytes_string _ 25 9 5 _ _ _ Try.underlying25 Try.underlying5 Try.underlying9, run_bytesToString _ ⟨w.heap.size, 0, none⟩ 1 1 _ hl]
  rfl
set_option maxHeartbeats 4000000 in
set_option maxRecDepth 100000 in
theorem ShardkeyKnown_walk (w : World) : Calls Try.prog 5 #[] w fun e w' => e = .returned (.bool true) ∧ Below w.heap.size w w' := by
  go_enter Try.func5, Try.ntmps5
  go_wp2
  go_loopw [1] (fun v1 wr => ∃ n : Nat, 1 ≤ n ∧ n ≤ 9 ∧ v1 = .int .i64 n ∧ Below w.heap.size w wr) (fun v1 _ => 9 - (intOf v1).toNat)
  case atStart => exact ⟨1, Nat.le_refl _, by omega, rfl, Below.refl _ _⟩
  case round =>
    obtain ⟨n, h1, h9, rfl, hbr⟩ := hrel
    by_cases h8 : n ≤ 8
    · have d8 : decide ((n : Int) ≤ 8) = true := decide_eq_true (by omega)
      go_wp2
      rename World => wo
      go_loopw [3] (fun v3 wq => ∃ b : Nat, b ≤ 256 ∧ v3 = .int .i64 b ∧ wq.heap[wo.heap.size]? = some (.cells (hasArr n b) 28 (0, 0)) ∧ Below w.heap.size w wq) (fun v3 _ => 256 - (intOf v3).toNat)
      case atStart => exact ⟨0, Nat.zero_le _, rfl, by rw [hasArr_zero]; exact blk_new wo _, below_alloc hbr _⟩
      case round =>
        obtain ⟨b, hb, rfl, hg, hbq⟩ := hrel
        have HG := Lib.hid hg
        clear hg
        by_cases hlt : b < 256
        · obtain ⟨hof, hvn⟩ := of_get b n hlt h1 h8
          obtain ⟨v, hv⟩ : ∃ v, v = Pure.hv b n := ⟨_, rfl⟩
          rw [← hv] at hof hvn
          have HOF := Lib.hid hof
          have HV := Lib.hid hv
          clear hof hv
          have hc := fun e => conv_one wr b hlt e
          have hcv := hc 5 rfl
          clear hc
          have c0 := (blk_cell (blk_alloc HG.out (.cells #[.int .u8 (b : Int)] 5)) v).trans (hasArr_get n b v (by omega))
          have f0 := blk_frozen (blk_alloc HG.out (.cells #[.int .u8 (b : Int)] 5)) v
          have hws : w.heap.size ≤ wo.heap.size := hbr.size
          go_wp2_with (first | (go_at_call 10; with_reducible refine (shardkey_Of.calls 3 _ (n : Int) (v : Int) _ HOF.out).mono ?_; rintro e1 w1 ⟨rfl, hd⟩; obtain ⟨m, rfl⟩ := hd.out; clear hd))
          have hnext := blk_set (blk_drewN (blk_alloc HG.out (.cells #[.int .u8 (b : Int)] 5)) m) v (.bool true)
          rw [HV.out, hasArr_set, ← HV.out] at hnext
          have HN := Aside0.mk hnext
          clear hnext
          go_roundw
          case rel => exact ⟨b + 1, by omega, by go_num, HN.out, below_set (pw_below_drewN (below_alloc hbq _) m) hws⟩
          case measure => simp [intOf]; omega
        · have hb256 : b = 256 := by omega
          subst hb256
          go_wp2
          go_loop [5] (fun v5 => ∃ k : Nat, k ≤ n ∧ v5 = .int .i64 k) (fun v5 => n - (intOf v5).toNat)
          case atStart => exact ⟨0, Nat.zero_le _, rfl⟩
          case round =>
            obtain ⟨k, hk, rfl⟩ := hrel
            by_cases hkn : k < n
            · have hall := has_all ⟨n - 1, by omega⟩ ⟨k, by omega⟩ (by show k ≤ n - 1; omega)
              simp only [Nat.sub_add_cancel h1] at hall
              have c0 := (blk_cell HG.out k).trans (hasArr_get n 256 k (by omega))
              rw [hall] at c0
              clear hall
              go_wp2
              go_round
              case rel => exact ⟨k + 1, by omega, by go_num⟩
              case measure => simp [intOf]; omega
            · have hkn' : k = n := by omega
              subst hkn'
              go_wp2
              go_roundw
              case rel => exact ⟨k + 1, by omega, by omega, by go_num, hbq⟩
              case measure => simp [intOf]; omega
    · have hn9 : n = 9 := by omega
      subst hn9
      have P1 := Aside0.mk Pure.aw
      have P2 := Aside0.mk Pure.p_empty
      have P3 := Aside0.mk Pure.o_1
      have P4 := Aside0.mk Pure.o_0
      have P5 := Aside0.mk Pure.o_n
      go_wp2_with (first
        | (go_at_call 8; with_reducible refine (meterlaw06_awake.calls 3 true _ P1.out).mono ?_; rintro e1 w1 ⟨rfl, hd1⟩)
        | (go_at_call 9; with_reducible refine (shardkey_Print.calls 3 _ _ _ P2.out).mono ?_; rintro e2 w2 ⟨rfl, hd2⟩)
        | (go_at_call 10; with_reducible refine (shardkey_Of.calls 3 _ 1 0 _ P3.out).mono ?_; rintro e3 w3 ⟨rfl, hd3⟩)
        | (go_at_call 10; with_reducible refine (shardkey_Of.calls 3 _ 0 0 _ P4.out).mono ?_; rintro e4 w4 ⟨rfl, hd4⟩)
        | (go_at_call 10; with_reducible refine (shardkey_Of.calls 3 _ (-3) 0 _ P5.out).mono ?_; rintro e5 w5 ⟨rfl, hd5⟩))
      go_ret
      exact ⟨rfl, below_drawn (below_drawn (below_drawn (below_drawn (below_drawn hbr hd1) hd2) hd3) hd4) hd5⟩
end Go.Proofs.Ytncklmcjaicoiaa.PShardkeyKnown
