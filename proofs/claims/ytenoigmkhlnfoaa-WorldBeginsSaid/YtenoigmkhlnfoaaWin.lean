/- windows: the plain laws -/
import Derived.Test.YtenoigmkhlnfoaaIn
import Derived.Lib.ItoaNum
namespace Go.Proofs.Ytenoigmkhlnfoaa
set_option linter.unusedSimpArgs false
set_option linter.unusedVariables false
open Go.RowKit
set_option maxRecDepth 20000

/-- the numbers that the lowest n bits tell, rising -/
def memb (high : Int) (b : Nat) : Nat → List Int
  | 0 => []
  | n + 1 => if b.testBit n then (high - n) :: memb high b n else memb high b n
theorem memb_yes {high : Int} {b n : Nat} (h : b.testBit n = true) : memb high b (n + 1) = (high - n) :: memb high b n := by simp [memb, h]
theorem memb_no {high : Int} {b n : Nat} (h : b.testBit n = false) : memb high b (n + 1) = memb high b n := by simp [memb, h]
theorem memb_congr {high : Int} {b c : Nat} : ∀ n, (∀ i, i < n → b.testBit i = c.testBit i) → memb high b n = memb high c n
  | 0, _ => rfl
  | n + 1, h => by
    simp only [memb]
    rw [h n (by omega), memb_congr n (fun i hi => h i (by omega))]
theorem memb_cut {high : Int} {b m : Nat} (hb : b < 2 ^ m) : ∀ d, memb high b (m + d) = memb high b m
  | 0 => rfl
  | d + 1 => by
    have : b.testBit (m + d) = false := Nat.testBit_lt_two_pow (Nat.lt_of_lt_of_le hb (Nat.pow_le_pow_right (by decide) (by omega)))
    rw [← Nat.add_assoc, memb_no this, memb_cut hb d]
theorem memb_len (high : Int) (b : Nat) : ∀ n, (memb high b n).length ≤ n
  | 0 => by simp [memb]
  | n + 1 => by
    have := memb_len high b n
    simp only [memb]; split <;> simp <;> omega
/-- the length in bits -/
def bl (b : Nat) : Nat := Go.Lib.bitLen b
theorem bl_bd {b : Nat} (h : b < 2 ^ 64) (h0 : b ≠ 0) : 1 ≤ bl b ∧ bl b ≤ 64 ∧ 2 ^ (bl b - 1) ≤ b ∧ b < 2 ^ bl b := by
  unfold bl
  obtain ⟨h1, h2, h3⟩ := Go.Lib.bitLenAux_bounds 64 b h h0
  exact ⟨h1, Go.Lib.bitLen_le b 64 (by omega) h, h2, h3⟩
theorem bit_top {b n : Nat} (h1 : 2 ^ n ≤ b) (h2 : b < 2 ^ (n + 1)) : b.testBit n = true := by
  rw [Nat.testBit_eq_decide_div_mod_eq, decide_eq_true_eq]
  have : b / 2 ^ n = 1 := by
    rw [Nat.div_eq_iff (Nat.two_pow_pos n)]
    rw [Nat.pow_succ] at h2
    omega
  rw [this]
/-- a bit struck -/
def strike (b n : Nat) : Nat := b &&& (18446744073709551615 - 2 ^ n)
theorem strike_bit {b n i : Nat} (hn : n < 64) (hb : b < 2 ^ 64) : (strike b n).testBit i = (b.testBit i && !decide (i = n)) := by
  unfold strike
  have hp : 2 ^ n < 2 ^ 64 := Nat.pow_lt_pow_right (by decide) hn
  rw [Nat.testBit_and, show 18446744073709551615 - 2 ^ n = 2 ^ 64 - (2 ^ n + 1) by omega, Nat.testBit_two_pow_sub_succ hp]
  by_cases hi : i < 64
  · simp only [hi, decide_true, Bool.true_and, Nat.testBit_two_pow]
    congr 1
    simp [eq_comm]
  · have : b.testBit i = false := Nat.testBit_lt_two_pow (Nat.lt_of_lt_of_le hb (Nat.pow_le_pow_right (by decide) (by omega)))
    simp [this]
theorem strike_lt {b n : Nat} (hb : b < 2 ^ 64) : strike b n < 2 ^ 64 := Nat.lt_of_le_of_lt Nat.and_le_left hb
/-- the highest number first -/
theorem memb_top (high : Int) {b : Nat} (hb : b < 2 ^ 64) (h0 : b ≠ 0) : memb high b 64 = (high - ((bl b - 1 : Nat) : Int)) :: memb high (strike b (bl b - 1)) 64 := by
  obtain ⟨h1, h2, h3, h4⟩ := bl_bd hb h0
  generalize bl b = n at *
  obtain ⟨m, rfl⟩ : ∃ m, n = m + 1 := ⟨n - 1, by omega⟩
  rw [Nat.add_sub_cancel] at *
  have e1 : memb high b 64 = memb high b (m + 1) := by
    rw [show (64 : Nat) = m + 1 + (63 - m) by omega]; exact memb_cut h4 _
  have hs : strike b m < 2 ^ m := by
    apply Nat.lt_pow_two_of_testBit
    intro j hj
    rw [strike_bit (by omega) hb]
    by_cases hjm : j = m
    · simp [hjm]
    · have : b.testBit j = false := Nat.testBit_lt_two_pow (Nat.lt_of_lt_of_le h4 (Nat.pow_le_pow_right (by decide) (by omega)))
      rw [this]; rfl
  have e2 : memb high (strike b m) 64 = memb high (strike b m) m := by
    rw [show (64 : Nat) = m + (64 - m) by omega]; exact memb_cut hs _
  rw [e1, e2, memb_yes (bit_top h3 h4)]
  congr 1
  exact memb_congr m (fun i hi => by rw [strike_bit (by omega) hb]; simp; omega)
theorem strike_less {b : Nat} (hb : b < 2 ^ 64) (h0 : b ≠ 0) : strike b (bl b - 1) < b := by
  have h := memb_top 0 hb h0
  refine Nat.lt_of_le_of_ne (by unfold strike; exact Nat.and_le_left) (fun he => ?_)
  rw [he] at h
  have := congrArg List.length h
  simp at this

/-- may a window be? -/
def mayW (high : Int) (b : Nat) : Bool := if high < 1 then high == 0 && b == 0 else decide (high ≤ 1048575) && (b % 2 == 1 && decide ((bl b : Int) ≤ min high 64))
end Go.Proofs.Ytenoigmkhlnfoaa
