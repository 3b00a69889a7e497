/- window.Take: the plain law -/
import Derived.Test.YtmciccnmpoijdaaWin
namespace Go.Proofs.Ytmciccnmpoijdaa
open Go.RowKit
set_option maxRecDepth 20000

/-- the bits of a list of numbers, the n oldest places of 64 -/
def bitsOf (high : Int) (l : List Int) : Nat → Nat
  | 0 => 0
  | n + 1 => 2 * bitsOf high l n + l.count (high - ((63 - n : Nat) : Int))
theorem bitsOf_lt {high : Int} {l : List Int} (hl : l.Nodup) : ∀ n, bitsOf high l n < 2 ^ n
  | 0 => by simp [bitsOf]
  | n + 1 => by
    have := bitsOf_lt (high := high) hl n
    have hc : l.count (high - ((63 - n : Nat) : Int)) ≤ 1 := List.nodup_iff_count.1 hl _
    simp only [bitsOf]
    rw [Nat.pow_succ]; omega
theorem bit_two_zero (x c : Nat) (hc : c ≤ 1) : (2 * x + c).testBit 0 = decide (c = 1) := by
  rw [Nat.testBit_zero]
  apply decide_eq_decide.2; omega
theorem bit_two_succ (x c i : Nat) (hc : c ≤ 1) : (2 * x + c).testBit (i + 1) = x.testBit i := by
  rw [Nat.testBit_succ]; congr 1; omega
theorem bitsOf_bit {high : Int} {l : List Int} (hl : l.Nodup) : ∀ n, n ≤ 64 → ∀ i, i < n → (bitsOf high l n).testBit i = decide ((high - ((64 - n + i : Nat) : Int)) ∈ l)
  | 0, _, i, hi => by omega
  | n + 1, hn, i, hi => by
    have hc : l.count (high - ((63 - n : Nat) : Int)) ≤ 1 := List.nodup_iff_count.1 hl _
    cases i with
    | zero =>
      simp only [bitsOf]
      rw [bit_two_zero _ _ hc, show 64 - (n + 1) + 0 = 63 - n by omega]
      apply decide_eq_decide.2
      constructor
      · intro h; exact List.count_pos_iff.1 (by omega)
      · intro h; have := List.count_pos_iff.2 h; omega
    | succ i =>
      simp only [bitsOf]
      rw [bit_two_succ _ _ _ hc, bitsOf_bit hl n (by omega) i (by omega), show 64 - (n + 1) + (i + 1) = 64 - n + i by omega]
/-- the members differ -/
theorem memb_nodup (high : Int) (b : Nat) : ∀ n, (memb high b n).Nodup
  | 0 => by simp [memb]
  | n + 1 => by
    simp only [memb]
    split
    · rw [List.nodup_cons]
      refine ⟨fun hh => ?_, memb_nodup high b n⟩
      obtain ⟨i, h1, _, h3⟩ := (memb_mem n).1 hh
      omega
    · exact memb_nodup high b n
/-- a number more -/
def takeH (h id : Int) : Int := if h < id then id else h
def takeB (h : Int) (b : Nat) (id : Int) : Nat := if h < id then (b * 2 ^ min (id - h).toNat 64) % 18446744073709551616 ||| 1 else b ||| 2 ^ (h - id).toNat
theorem mod_bit (x i : Nat) : (x % 18446744073709551616).testBit i = (decide (i < 64) && x.testBit i) := by
  rw [show (18446744073709551616 : Nat) = 2 ^ 64 from rfl, Nat.testBit_mod_two_pow]
theorem mul_min (b n : Nat) : b * 2 ^ min n 64 % 18446744073709551616 = b * 2 ^ n % 18446744073709551616 := by
  by_cases h : n ≤ 64
  · rw [Nat.min_eq_left h]
  · obtain ⟨d, rfl⟩ : ∃ d, n = 64 + d := ⟨n - 64, by omega⟩
    rw [Nat.min_eq_right (by omega), Nat.pow_add, ← Nat.mul_assoc, Nat.mul_comm (b * 2 ^ 64), Nat.mul_comm b (2 ^ 64), ← Nat.mul_assoc, Nat.mul_comm _ (2 ^ 64), Nat.mul_assoc]
    rw [show (2 : Nat) ^ 64 = 18446744073709551616 from rfl, Nat.mul_mod_right, Nat.mul_mod_right]
theorem takeB_lt {h : Int} {b : Nat} {id : Int} (hb : b < 18446744073709551616) (h2 : h - id < 64) : takeB h b id < 18446744073709551616 := by
  unfold takeB
  split
  · exact Nat.or_lt_two_pow (n := 64) (Nat.mod_lt _ (by decide)) (by decide)
  · exact Nat.or_lt_two_pow (n := 64) hb (Nat.pow_lt_pow_right (by decide) (by omega))
theorem take_bits {h : Int} {b : Nat} {id : Int} (hb : b < 18446744073709551616) (h2 : h - id < 64) (hno : id ∉ memb h b 64) : bitsOf (takeH h id) (memb h b 64 ++ [id]) 64 = takeB h b id := by
  have hnd : (memb h b 64 ++ [id]).Nodup := by
    rw [List.nodup_append]
    refine ⟨memb_nodup h b 64, by simp, fun x hx y hy => ?_⟩
    simp at hy; subst hy
    exact fun he => hno (he ▸ hx)
  apply Nat.eq_of_testBit_eq
  intro i
  by_cases hi : i < 64
  · rw [bitsOf_bit hnd 64 (by omega) i hi, show 64 - 64 + i = i by omega]
    unfold takeH takeB
    by_cases hlt : h < id
    · rw [if_pos hlt, if_pos hlt, mul_min]
      obtain ⟨d, hd⟩ : ∃ d : Nat, id - h = ((d + 1 : Nat) : Int) := ⟨(id - h).toNat - 1, by omega⟩
      rw [hd, Int.toNat_natCast, Nat.testBit_or, mod_bit, decide_eq_true hi, Bool.true_and, Nat.testBit_mul_two_pow]
      cases i with
      | zero =>
        have : (id - ((0 : Nat) : Int)) ∈ memb h b 64 ++ [id] := by simp
        rw [decide_eq_true this]
        simp
      | succ i =>
        rw [Nat.testBit_succ (x := 1)]
        simp only [show 1 / 2 = 0 from rfl, Nat.zero_testBit, Bool.or_false]
        by_cases hle : d + 1 ≤ i + 1
        · simp only [hle, decide_true, Bool.true_and]
          cases ht : b.testBit (i + 1 - (d + 1))
          · refine decide_eq_false fun hh => ?_
            rcases List.mem_append.1 hh with hh | hh
            · obtain ⟨j, j1, j2, j3⟩ := (memb_mem 64).1 hh
              rw [show j = i + 1 - (d + 1) by omega] at j2
              rw [ht] at j2; cases j2
            · simp at hh; omega
          · refine decide_eq_true (List.mem_append.2 (.inl ((memb_mem 64).2 ⟨i + 1 - (d + 1), by omega, ht, by omega⟩)))
        · simp only [hle, decide_false, Bool.false_and]
          refine decide_eq_false fun hh => ?_
          rcases List.mem_append.1 hh with hh | hh
          · obtain ⟨j, j1, j2, j3⟩ := (memb_mem 64).1 hh
            omega
          · simp at hh; omega
    · rw [if_neg hlt, if_neg hlt, Nat.testBit_or, Nat.testBit_two_pow]
      cases ht : b.testBit i
      · by_cases he : (h - id).toNat = i
        · simp only [he, decide_true, Bool.false_or]
          exact decide_eq_true (List.mem_append.2 (.inr (by simp; omega)))
        · simp only [he, decide_false, Bool.false_or]
          refine decide_eq_false fun hh => ?_
          rcases List.mem_append.1 hh with hh | hh
          · obtain ⟨j, j1, j2, j3⟩ := (memb_mem 64).1 hh
            rw [show j = i by omega] at j2
            rw [ht] at j2; cases j2
          · simp at hh; omega
      · simp only [Bool.true_or]
        exact decide_eq_true (List.mem_append.2 (.inl ((memb_mem 64).2 ⟨i, hi, ht, rfl⟩)))
  · have e1 : (bitsOf (takeH h id) (memb h b 64 ++ [id]) 64).testBit i = false := Nat.testBit_lt_two_pow (Nat.lt_of_lt_of_le (bitsOf_lt hnd 64) (Nat.pow_le_pow_right (by decide) (by omega)))
    have e2 : (takeB h b id).testBit i = false := Nat.testBit_lt_two_pow (Nat.lt_of_lt_of_le (takeB_lt hb h2) (Nat.pow_le_pow_right (n := 2) (i := 64) (by decide) (by omega)))
    rw [e1, e2]
end Go.Proofs.Ytmciccnmpoijdaa
