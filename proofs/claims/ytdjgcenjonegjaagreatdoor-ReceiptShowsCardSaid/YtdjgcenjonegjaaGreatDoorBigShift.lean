/- great numbers: left and right by bits: the plain laws -/
import Derived.Test.YtdjgcenjonegjaaGreatDoorBigAdd
set_option maxRecDepth 20000
set_option maxHeartbeats 8000000
set_option linter.unusedSimpArgs false
set_option linter.unusedVariables false
namespace Go.Proofs.YtdjgcenjonegjaaGreatDoor
open Go.RowKit

/-! left: a word moved up by s bits joins what came up from below -/
theorem or_up (t v s : Nat) (ht : t < 2 ^ s) : t ||| (v * 2 ^ s) = v * 2 ^ s + t := by
  rw [Nat.or_comm, ← Nat.shiftLeft_eq, ← Nat.shiftLeft_add_eq_or_of_lt ht]
/-- one word: what comes up from below is less than 2^s -/
theorem left_word (x t s : Nat) (hs : s < 32) (hx : x < 4294967296) (ht : t < 2 ^ s) :
    (t ||| (x * 2 ^ s % 4294967296)) = x * 2 ^ s % 4294967296 + t ∧ x * 2 ^ s % 4294967296 + t < 4294967296 ∧ x * 2 ^ s / 4294967296 < 2 ^ s ∧ x * 2 ^ s < 18446744073709551616 := by
  have hp : 2 ^ s * 2 ^ (32 - s) = 4294967296 := by rw [← Nat.pow_add, show s + (32 - s) = 32 by omega]
  have hm : x * 2 ^ s % 4294967296 = (x % 2 ^ (32 - s)) * 2 ^ s := by
    rw [← hp, Nat.mul_comm x, Nat.mul_mod_mul_left, Nat.mul_comm]
  have h1 : x % 2 ^ (32 - s) + 1 ≤ 2 ^ (32 - s) := Nat.mod_lt _ (Nat.two_pow_pos _); have h2 := Nat.mul_le_mul_right (2 ^ s) h1; rw [Nat.add_mul, Nat.one_mul, Nat.mul_comm (2 ^ (32 - s)), hp] at h2; have h3 : x * 2 ^ s < 4294967296 * 2 ^ s := Nat.mul_lt_mul_of_pos_right hx (Nat.two_pow_pos _); have h4 : 2 ^ s < 2 ^ 32 := Nat.pow_lt_pow_right (by decide) hs; refine ⟨by rw [hm, or_up _ _ _ ht], by rw [hm]; omega, ?_, ?_⟩
  · exact Nat.div_lt_of_lt_mul h3
  · have : 4294967296 * 2 ^ s ≤ 4294967296 * 2 ^ 32 := Nat.mul_le_mul_left _ (by omega)
    omega
theorem left_step {la rl : List Nat} {k w s t : Nat} (hk : k < la.length) (hr : k + w + 1 < rl.length) (h : val rl = 4294967296 ^ w * (val (la.take k) * 2 ^ s)) (ht : rl.getD (k + w) 0 = t) (h0 : rl.getD (k + w + 1) 0 = 0) :
    val ((rl.set (k + w) (la.getD k 0 * 2 ^ s % 4294967296 + t)).set (k + w + 1) (la.getD k 0 * 2 ^ s / 4294967296)) = 4294967296 ^ w * (val (la.take (k + 1)) * 2 ^ s) := by
  have h1 := val_set (l := rl) (k := k + w) (la.getD k 0 * 2 ^ s % 4294967296 + t) (by omega); have h2 := val_set (l := rl.set (k + w) (la.getD k 0 * 2 ^ s % 4294967296 + t)) (k := k + w + 1) (la.getD k 0 * 2 ^ s / 4294967296) (by rw [List.length_set]; omega); rw [getD_set_ne (by omega), h0, Nat.mul_zero, Nat.add_zero] at h2; rw [ht, Nat.mul_add] at h1; rw [h2, val_take_succ hk, Nat.add_mul, Nat.mul_add, ← h, Nat.pow_succ (n := 4294967296) (m := k + w)]; have h3 := carry_step (P := 4294967296 ^ (k + w)) (s := la.getD k 0 * 2 ^ s)
  have h4 : 4294967296 ^ w * (4294967296 ^ k * la.getD k 0 * 2 ^ s) = 4294967296 ^ (k + w) * (la.getD k 0 * 2 ^ s) := by
    rw [Nat.pow_add, Nat.mul_comm (4294967296 ^ k) (4294967296 ^ w), Nat.mul_assoc (4294967296 ^ k), Nat.mul_assoc]
  rw [h4]; omega

theorem or64t (x y : Nat) (hx : x < 4294967296) (hy : y < 4294967296) : bits .or .u64 (x : Int) ((y : Int) * 4294967296) = ((x + 4294967296 * y : Nat) : Int) := by
  have e : (y : Int) * 4294967296 = ((y * 2 ^ 32 : Nat) : Int) := by rw [Int.natCast_mul]; rfl
  rw [e, u64_or_nat _ _ (by omega) (by omega), Nat.or_comm, ← Nat.shiftLeft_eq, ← Nat.shiftLeft_add_eq_or_of_lt (show x < 2 ^ 32 by omega), Nat.shiftLeft_eq]
  congr 1; omega
theorem wrap_up (y s : Nat) (h : y * 2 ^ s < 18446744073709551616) : IntKind.u64.wrap ((y : Int) * 2 ^ s) = ((y * 2 ^ s : Nat) : Int) := by
  have e : (2 : Int) ^ s = ((2 ^ s : Nat) : Int) := by rw [Int.natCast_pow]; rfl
  rw [e, ← Int.natCast_mul]; generalize y * 2 ^ s = z at *; show (z : Int) % 18446744073709551616 = _; omega
theorem div_up (y s : Nat) : (y : Int) / 2 ^ s = ((y / 2 ^ s : Nat) : Int) := by
  have e : (2 : Int) ^ s = ((2 ^ s : Nat) : Int) := by rw [Int.natCast_pow]; rfl
  rw [e]; rfl
/-! right -/
def rword (l : List Nat) (s i : Nat) : Nat := (l.getD i 0 + 4294967296 * l.getD (i + 1) 0) / 2 ^ s % 4294967296
theorem getD_head (l : List Nat) : l.getD 0 0 % 4294967296 = val l % 4294967296 := by
  cases l with
  | nil => rfl
  | cons d l => simp only [val, List.getD_cons_zero]; omega
theorem right_val (s : Nat) (hs : s < 32) : ∀ l : List Nat, allW l → val ((List.range l.length).map (rword l s)) = val l / 2 ^ s
  | [], _ => by simp [val]
  | d :: l, h => by
    have ih := right_val s hs l (fun x hx => h x (by simp [hx]))
    have hd := h d (by simp)
    rw [List.length_cons, List.range_succ_eq_map, List.map_cons, List.map_map]
    have e : (rword (d :: l) s ∘ Nat.succ) = rword l s := by
      funext i; simp [rword, Function.comp]
    rw [e]; simp only [val]; rw [ih]; have hp : 2 ^ s * 2 ^ (32 - s) = 4294967296 := by rw [← Nat.pow_add, show s + (32 - s) = 32 by omega]
    have hps : 0 < 2 ^ s := Nat.two_pow_pos s
    have e1 : rword (d :: l) s 0 = (d + 4294967296 * val l) / 2 ^ s % 4294967296 := by
      simp only [rword, List.getD_cons_zero, List.getD_cons_succ, Nat.zero_add]; have hh := getD_head l
      -- both are the same below 2^64
      have k1 : ∀ y, (d + 4294967296 * y) / 2 ^ s % 4294967296 = d / 2 ^ s + (y % 2 ^ s) * 2 ^ (32 - s) := by
        intro y; have : d + 4294967296 * y = d + 2 ^ s * (2 ^ (32 - s) * y) := by rw [← Nat.mul_assoc, hp]
        rw [this, Nat.add_mul_div_left _ _ hps]
        have hy : 2 ^ (32 - s) * y = 2 ^ (32 - s) * (y % 2 ^ s) + 4294967296 * (y / 2 ^ s) := by
          have := Nat.mod_add_div y (2 ^ s)
          conv => lhs; rw [← this]
          rw [Nat.mul_add, ← Nat.mul_assoc, Nat.mul_comm (2 ^ (32 - s)) (2 ^ s), hp]
        rw [hy, ← Nat.add_assoc, Nat.add_mul_mod_self_left, Nat.mul_comm (2 ^ (32 - s))]; apply Nat.mod_eq_of_lt
        have h1 : d / 2 ^ s < 2 ^ (32 - s) := by
          apply Nat.div_lt_of_lt_mul; rw [hp]; exact hd
        have h2 : (y % 2 ^ s + 1) * 2 ^ (32 - s) ≤ 2 ^ s * 2 ^ (32 - s) := Nat.mul_le_mul_right _ (Nat.mod_lt _ hps); rw [hp, Nat.add_mul, Nat.one_mul] at h2; omega
      rw [k1, k1]
      congr 2
      have hb : (4294967296 : Nat) = 2 ^ s * 2 ^ (32 - s) := hp.symm; have hm : ∀ z, z % 2 ^ s = z % 4294967296 % 2 ^ s := fun z => by rw [hb, Nat.mod_mul_right_mod]
      rw [hm, hh, ← hm]
    rw [e1]
    have e2 : (d + 4294967296 * val l) / 2 ^ s / 4294967296 = val l / 2 ^ s := by
      rw [Nat.div_div_eq_div_mul, Nat.mul_comm (2 ^ s) 4294967296, ← Nat.div_div_eq_div_mul]
      congr 1
      omega
    rw [← e2]; exact Nat.mod_add_div _ _
theorem val_drop (l : List Nat) (h : allW l) (k : Nat) : val (l.drop k) = val l / 4294967296 ^ k := by
  by_cases hk : k ≤ l.length
  · rw [val_split l k hk, Nat.add_mul_div_left _ _ (Nat.pow_pos (by decide)), Nat.div_eq_of_lt]
    · simp
    · have := val_lt (allW_take h k)
      rwa [List.length_take, Nat.min_eq_left hk] at this
  · rw [List.drop_of_length_le (by omega)]
    rw [Nat.div_eq_of_lt]; rfl; exact Nat.lt_of_lt_of_le (val_lt h) (Nat.pow_le_pow_right (by decide) (by omega))
theorem allW_drop {l : List Nat} (h : allW l) (k : Nat) : allW (l.drop k) := fun d hd => h d (List.mem_of_mem_drop hd)
end Go.Proofs.YtdjgcenjonegjaaGreatDoor
