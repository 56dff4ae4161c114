/- The chapter's examples; each shard of at most eight has a key of one byte. -/
import Derived.Test.YtncklmcjaicoiaaPShardkeyKnownx1
namespace Go.Proofs.Ytncklmcjaicoiaa.Pure
open Go.RowKit Go.Proofs.Ytncklmcjaicoiaa.PShardkeyKnown Go.Proofs.YtncklmcjaicoiaaW.PrintWords Go.Proofs.YtncklmcjaicoiaaW.PrintLast

--! hand
def hv (b n : Nat) : Nat := match shardkey_Of.f 3 ⟨#[UInt8.ofNat b]⟩ (n : Int) with
  | some v => v.toNat
  | none => 99
def chk (b n : Nat) : Bool := match shardkey_Of.f 3 ⟨#[UInt8.ofNat b]⟩ (n : Int) with
  | some v => decide (0 ≤ v) && decide (v < (n : Int))
  | none => false
theorem chk_all : ∀ (b : Fin 256) (n : Fin 8), chk b.val (n.val + 1) = true := by decide +kernel
theorem of_get (b n : Nat) (hb : b < 256) (h1 : 1 ≤ n) (h8 : n ≤ 8) : shardkey_Of.f 3 ⟨#[UInt8.ofNat b]⟩ (n : Int) = some ((hv b n : Nat) : Int) ∧ hv b n < n := by
  have h := chk_all ⟨b, hb⟩ ⟨n - 1, by omega⟩
  simp only [Nat.sub_add_cancel h1] at h
  unfold chk at h
  unfold hv
  cases hq : shardkey_Of.f 3 ⟨#[UInt8.ofNat b]⟩ (n : Int) with
  | none => rw [hq] at h; cases h
  | some v =>
    rw [hq] at h
    simp only [Bool.and_eq_true, decide_eq_true_eq] at h ⊢
    refine ⟨?_, by omega⟩
    congr 1
    omega
def hasB (n b j : Nat) : Bool := (List.range b).any fun c => hv c n == j
theorem hasB_succ (n b j : Nat) : hasB n (b + 1) j = (hasB n b j || (hv b n == j)) := by
  unfold hasB
  rw [List.range_succ, List.any_append]
  simp
theorem has_all : ∀ (n : Fin 8) (k : Fin 8), k.val ≤ n.val → hasB (n.val + 1) 256 k.val = true := by decide +kernel
def hasArr (n b : Nat) : Array Value := ((List.range 8).map fun j => Value.bool (hasB n b j)).toArray
theorem hasArr_zero (n : Nat) : hasArr n 0 = #[.bool false, .bool false, .bool false, .bool false, .bool false, .bool false, .bool false, .bool false] := rfl
theorem hasArr_size (n b : Nat) : (hasArr n b).size = 8 := by simp [hasArr]
theorem hasArr_get (n b j : Nat) (h : j < 8) : (hasArr n b)[j]? = some (.bool (hasB n b j)) := by simp [hasArr, h]
theorem hasArr_set (n b : Nat) : (hasArr n b).setIfInBounds (hv b n) (.bool true) = hasArr n (b + 1) := by
  apply Array.ext_getElem?
  intro j
  rw [Array.getElem?_setIfInBounds]
  by_cases hj : j < 8
  · rw [hasArr_get n (b + 1) j hj, hasB_succ]
    by_cases e : hv b n = j
    · rw [if_pos e, if_pos (by rw [hasArr_size, e]; exact hj), show (hv b n == j) = true by simp [e], Bool.or_true]
    · rw [if_neg e, hasArr_get n b j hj, show (hv b n == j) = false by simp [e], Bool.or_false]
  · have h1 : (hasArr n (b + 1))[j]? = none := Array.getElem?_eq_none (by rw [hasArr_size]; omega)
    have h2 : (hasArr n b)[j]? = none := Array.getElem?_eq_none (by rw [hasArr_size]; omega)
    rw [h1, h2]
    split
    · rw [if_neg (by rw [hasArr_size]; omega)]
    · rfl
theorem p_empty : shardkey_Print.f 3 ⟨#[]⟩ = some 14695981039346656037 := by decide +kernel
theorem o_1 : shardkey_Of.f 3 ⟨#[97]⟩ 1 = some 0 := by decide +kernel
theorem o_0 : shardkey_Of.f 3 ⟨#[97]⟩ 0 = some 0 := by decide +kernel
theorem o_n : shardkey_Of.f 3 ⟨#[97]⟩ (-3) = some 0 := by decide +kernel
theorem aw : meterlaw06_awake.f 3 = some true := by decide +kernel

end Go.Proofs.Ytncklmcjaicoiaa.Pure
