/- words.Plus, words.Times: their references, and the plain law -/
import Derived.Test.YtmciccnmpoijdaaDoorWordsUp
namespace Go.Proofs.YtmciccnmpoijdaaDoor
open Go.RowKit
set_option maxRecDepth 20000

theorem digits4 {N w0 w1 w2 c : Nat} (h0 : w0 < 4294967296) (h1 : w1 < 4294967296) (h2 : w2 < 4294967296) (hN : N = w0 + 4294967296 * (w1 + 4294967296 * (w2 + 4294967296 * c))) :
    N % 4294967296 = w0 ∧ N / 4294967296 % 4294967296 = w1 ∧ N / 18446744073709551616 % 4294967296 = w2 ∧ N / 79228162514264337593543950336 = c := by
  have hB : (0 : Nat) < 4294967296 := by decide
  have a1 : N / 4294967296 = w1 + 4294967296 * (w2 + 4294967296 * c) := by rw [hN, Nat.add_mul_div_left _ _ hB, Nat.div_eq_of_lt h0, Nat.zero_add]
  have a2 : N / 18446744073709551616 = w2 + 4294967296 * c := by
    rw [show (18446744073709551616 : Nat) = 4294967296 * 4294967296 from rfl, ← Nat.div_div_eq_div_mul, a1, Nat.add_mul_div_left _ _ hB, Nat.div_eq_of_lt h1, Nat.zero_add]
  have a3 : N / 79228162514264337593543950336 = c := by
    rw [show (79228162514264337593543950336 : Nat) = 18446744073709551616 * 4294967296 from rfl, ← Nat.div_div_eq_div_mul, a2, Nat.add_mul_div_left _ _ hB, Nat.div_eq_of_lt h2, Nat.zero_add]
  refine ⟨?_, ?_, ?_, a3⟩
  · rw [hN, Nat.add_mul_mod_self_left, Nat.mod_eq_of_lt h0]
  · rw [a1, Nat.add_mul_mod_self_left, Nat.mod_eq_of_lt h1]
  · rw [a2, Nat.add_mul_mod_self_left, Nat.mod_eq_of_lt h2]
theorem plus_digits (a b c x : Nat) : val [a, b, c] + x = wordC plusF [a, b, c] x 0 + 4294967296 * (wordC plusF [a, b, c] x 1 + 4294967296 * (wordC plusF [a, b, c] x 2 + 4294967296 * carryC plusF [a, b, c] x 3)) := by
  have e : ∀ s : Nat, s % 4294967296 + 4294967296 * (s / 4294967296) = s := fun s => Nat.mod_add_div s _
  have h0 := e (a + x)
  have h1 := e (b + (a + x) / 4294967296)
  have h2 := e (c + (b + (a + x) / 4294967296) / 4294967296)
  simp only [wordC, carryC, plusF, List.getD_cons_zero, List.getD_cons_succ, val3]
  generalize (a + x) / 4294967296 = c1 at *
  generalize (b + c1) / 4294967296 = c2 at *
  generalize (c + c2) / 4294967296 = c3 at *
  generalize (a + x) % 4294967296 = s0 at *
  generalize (b + c1) % 4294967296 = s1 at *
  generalize (c + c2) % 4294967296 = s2 at *
  omega
theorem times_digits (a b c m : Nat) : val [a, b, c] * m = wordC (timesF m) [a, b, c] 0 0 + 4294967296 * (wordC (timesF m) [a, b, c] 0 1 + 4294967296 * (wordC (timesF m) [a, b, c] 0 2 + 4294967296 * carryC (timesF m) [a, b, c] 0 3)) := by
  have e : ∀ s : Nat, s % 4294967296 + 4294967296 * (s / 4294967296) = s := fun s => Nat.mod_add_div s _
  simp only [wordC, carryC, timesF, List.getD_cons_zero, List.getD_cons_succ, val3, Nat.add_zero]
  rw [Nat.add_mul, Nat.mul_assoc, Nat.add_mul, Nat.mul_assoc]
  generalize a * m = am
  generalize b * m = bm
  generalize c * m = cm
  have h0 := e am
  have h1 := e (bm + am / 4294967296)
  have h2 := e (cm + (bm + am / 4294967296) / 4294967296)
  generalize am / 4294967296 = c1 at *
  generalize (bm + c1) / 4294967296 = c2 at *
  generalize (cm + c2) / 4294967296 = c3 at *
  generalize am % 4294967296 = s0 at *
  generalize (bm + c1) % 4294967296 = s1 at *
  generalize (cm + c2) % 4294967296 = s2 at *
  omega

end Go.Proofs.YtmciccnmpoijdaaDoor
