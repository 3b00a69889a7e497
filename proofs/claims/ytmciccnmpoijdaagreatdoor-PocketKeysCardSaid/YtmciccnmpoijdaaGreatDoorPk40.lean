/- words.Plus, words.Times: their references, and the plain law · bits and fields of wide numbers: the plain laws · bits.Div32 -/
import Derived.Test.YtmciccnmpoijdaaGreatDoorWordsUp
namespace Go.Proofs.YtmciccnmpoijdaaGreatDoor
open Go.RowKit
set_option maxRecDepth 20000

theorem digits4 {N w0 w1 w2 c : Nat} (h0 : w0 < 4294967296) (h1 : w1 < 4294967296) (h2 : w2 < 4294967296) (hN : N = w0 + 4294967296 * (w1 + 4294967296 * (w2 + 4294967296 * c))) :
    N % 4294967296 = w0 ∧ N / 4294967296 % 4294967296 = w1 ∧ N / 18446744073709551616 % 4294967296 = w2 ∧ N / 79228162514264337593543950336 = c := by
  have hB : (0 : Nat) < 4294967296 := by decide
  have a1 : N / 4294967296 = w1 + 4294967296 * (w2 + 4294967296 * c) := by rw [hN, Nat.add_mul_div_left _ _ hB, Nat.div_eq_of_lt h0, Nat.zero_add]
  have a2 : N / 18446744073709551616 = w2 + 4294967296 * c := by
    rw [show (18446744073709551616 : Nat) = 4294967296 * 4294967296 from rfl, ← Nat.div_div_eq_div_mul, a1, Nat.add_mul_div_left _ _ hB, Nat.div_eq_of_lt h1, Nat.zero_add]
  have a3 : N / 79228162514264337593543950336 = c := by
    rw [show (79228162514264337593543950336 : Nat) = 18446744073709551616 * 4294967296 from rfl, ← Nat.div_div_eq_div_mul, a2, Nat.add_mul_div_left _ _ hB, Nat.div_eq_of_lt h2, Nat.zero_add]
  refine ⟨?_, ?_, ?_, a3⟩
  · rw [hN, Nat.add_mul_mod_self_left, Nat.mod_eq_of_lt h0]
  · rw [a1, Nat.add_mul_mod_self_left, Nat.mod_eq_of_lt h1]
  · rw [a2, Nat.add_mul_mod_self_left, Nat.mod_eq_of_lt h2]
theorem plus_digits (a b c x : Nat) : val [a, b, c] + x = wordC plusF [a, b, c] x 0 + 4294967296 * (wordC plusF [a, b, c] x 1 + 4294967296 * (wordC plusF [a, b, c] x 2 + 4294967296 * carryC plusF [a, b, c] x 3)) := by
  have e : ∀ s : Nat, s % 4294967296 + 4294967296 * (s / 4294967296) = s := fun s => Nat.mod_add_div s _
  have h0 := e (a + x)
  have h1 := e (b + (a + x) / 4294967296)
  have h2 := e (c + (b + (a + x) / 4294967296) / 4294967296)
  simp only [wordC, carryC, plusF, List.getD_cons_zero, List.getD_cons_succ, val3]
  generalize (a + x) / 4294967296 = c1 at *
  generalize (b + c1) / 4294967296 = c2 at *
  generalize (c + c2) / 4294967296 = c3 at *
  generalize (a + x) % 4294967296 = s0 at *
  generalize (b + c1) % 4294967296 = s1 at *
  generalize (c + c2) % 4294967296 = s2 at *
  omega
theorem times_digits (a b c m : Nat) : val [a, b, c] * m = wordC (timesF m) [a, b, c] 0 0 + 4294967296 * (wordC (timesF m) [a, b, c] 0 1 + 4294967296 * (wordC (timesF m) [a, b, c] 0 2 + 4294967296 * carryC (timesF m) [a, b, c] 0 3)) := by
  have e : ∀ s : Nat, s % 4294967296 + 4294967296 * (s / 4294967296) = s := fun s => Nat.mod_add_div s _
  simp only [wordC, carryC, timesF, List.getD_cons_zero, List.getD_cons_succ, val3, Nat.add_zero]
  rw [Nat.add_mul, Nat.mul_assoc, Nat.add_mul, Nat.mul_assoc]
  generalize a * m = am
  generalize b * m = bm
  generalize c * m = cm
  have h0 := e am
  have h1 := e (bm + am / 4294967296)
  have h2 := e (cm + (bm + am / 4294967296) / 4294967296)
  generalize am / 4294967296 = c1 at *
  generalize (bm + c1) / 4294967296 = c2 at *
  generalize (cm + c2) / 4294967296 = c3 at *
  generalize am % 4294967296 = s0 at *
  generalize (bm + c1) % 4294967296 = s1 at *
  generalize (cm + c2) % 4294967296 = s2 at *
  omega

end Go.Proofs.YtmciccnmpoijdaaGreatDoor
namespace Go.Proofs.YtmciccnmpoijdaaGreatDoor
open Go.RowKit
set_option maxRecDepth 20000

theorem wide_bit (a b c p : Nat) (ha : a < 4294967296) (hb : b < 4294967296) : ([a, b, c].getD (p / 32) 0).testBit (p % 32) = ((val [a, b, c]).testBit p && decide (p < 96)) ∨ 96 ≤ p := by
  by_cases h3 : 96 ≤ p
  · exact .inr h3
  refine .inl ?_
  rw [decide_eq_true (by omega), Bool.and_true, val3, show (4294967296 : Nat) = 2 ^ 32 from rfl, Nat.add_comm a, Nat.testBit_two_pow_mul_add _ ha]
  by_cases h1 : p < 32
  · rw [if_pos h1, Nat.div_eq_of_lt h1, Nat.mod_eq_of_lt h1]; rfl
  · rw [if_neg h1, Nat.add_comm b, Nat.testBit_two_pow_mul_add _ hb]
    by_cases h2 : p < 64
    · rw [if_pos (by omega), show p / 32 = 1 by omega, show p % 32 = p - 32 by omega]; rfl
    · rw [if_neg (by omega), show p / 32 = 2 by omega, show p % 32 = p - 32 - 32 by omega]; rfl
theorem bit_div {x p : Nat} {y q : Nat} (h : x.testBit p = y.testBit q) : x / 2 ^ p % 2 = y / 2 ^ q % 2 := by
  rw [Nat.testBit_eq_decide_div_mod_eq, Nat.testBit_eq_decide_div_mod_eq, decide_eq_decide] at h
  omega
theorem wide_bit2 (a b c p : Nat) (ha : a < 4294967296) (hb : b < 4294967296) (hp : p < 96) : [a, b, c].getD (p / 32) 0 / 2 ^ (p % 32) % 2 = val [a, b, c] / 2 ^ p % 2 := by
  rcases wide_bit a b c p ha hb with h | h
  · rw [decide_eq_true hp, Bool.and_true] at h
    exact bit_div h
  · omega
/-- n bits from bit lo on -/
def fld (N lo n : Nat) : Nat := N / 2 ^ lo % 2 ^ n
theorem fld_lt (N lo n : Nat) : fld N lo n < 2 ^ n := Nat.mod_lt _ (Nat.two_pow_pos n)
theorem fld_zero (N lo : Nat) : fld N lo 0 = 0 := by simp [fld, Nat.mod_one]
/-- one bit lower -/
theorem fld_down (N p k : Nat) : fld N p (k + 1) = 2 * fld N (p + 1) k + N / 2 ^ p % 2 := by
  unfold fld
  rw [Nat.pow_succ, Nat.mul_comm (2 ^ k) 2, Nat.mod_mul, Nat.div_div_eq_div_mul, ← Nat.pow_succ, Nat.add_comm]
/-- one bit higher -/
theorem fld_up (N lo k : Nat) : fld N lo (k + 1) = fld N lo k + 2 ^ k * (N / 2 ^ (lo + k) % 2) := by
  unfold fld
  rw [Nat.pow_succ, Nat.mod_mul, Nat.div_div_eq_div_mul, ← Nat.pow_add]
/-- the lowest i bits of v laid into the field -/
def putV (N lo v i : Nat) : Nat := N - fld N lo i * 2 ^ lo + fld v 0 i * 2 ^ lo
theorem fld_le (N lo n : Nat) : fld N lo n * 2 ^ lo ≤ N := by
  unfold fld
  exact Nat.le_trans (Nat.mul_le_mul_right _ (Nat.mod_le _ _)) (Nat.div_mul_le_self _ _)
/-- as high part, new field, low part -/
theorem putV_parts (N lo v i : Nat) : putV N lo v i = 2 ^ (lo + i) * (N / 2 ^ (lo + i)) + (2 ^ lo * (v % 2 ^ i) + N % 2 ^ lo) := by
  unfold putV fld
  have h1 := Nat.div_add_mod N (2 ^ lo)
  have h2 := Nat.div_add_mod (N / 2 ^ lo) (2 ^ i)
  rw [Nat.div_div_eq_div_mul, ← Nat.pow_add] at h2
  rw [Nat.pow_add, Nat.pow_zero, Nat.div_one]
  rw [Nat.pow_add] at h2
  generalize N / (2 ^ lo * 2 ^ i) = H at *
  generalize N % 2 ^ lo = L at *
  have h3 : N = 2 ^ lo * 2 ^ i * H + 2 ^ lo * (N / 2 ^ lo % 2 ^ i) + L := by
    conv => lhs; rw [← h1, ← h2, Nat.mul_add, ← Nat.mul_assoc]
  generalize N / 2 ^ lo % 2 ^ i = F at *
  rw [Nat.mul_comm F, Nat.mul_comm (v % 2 ^ i)]
  generalize 2 ^ lo * F = y at *
  generalize 2 ^ lo * 2 ^ i * H = x at *
  generalize 2 ^ lo * (v % 2 ^ i) = z at *
  omega
theorem low_lt (N lo v i : Nat) : 2 ^ lo * (v % 2 ^ i) + N % 2 ^ lo < 2 ^ (lo + i) := by
  have h1 := Nat.mod_lt N (Nat.two_pow_pos lo)
  have h2 := Nat.mod_lt v (Nat.two_pow_pos i)
  rw [Nat.pow_add]
  have h3 : 2 ^ lo * (v % 2 ^ i + 1) ≤ 2 ^ lo * 2 ^ i := Nat.mul_le_mul_left _ h2
  rw [Nat.mul_add, Nat.mul_one] at h3
  omega
theorem putV_bit (N lo v i : Nat) : putV N lo v i / 2 ^ (lo + i) % 2 = N / 2 ^ (lo + i) % 2 := by
  rw [putV_parts, Nat.mul_add_div (Nat.two_pow_pos _), Nat.div_eq_of_lt (low_lt N lo v i), Nat.add_zero]
/-- the next bit of the field -/
theorem putV_succ (N lo v i : Nat) : putV N lo v (i + 1) + (N / 2 ^ (lo + i) % 2) * 2 ^ (lo + i) = putV N lo v i + (v / 2 ^ i % 2) * 2 ^ (lo + i) := by
  have h1 := fld_le N lo i
  have h2 := fld_le N lo (i + 1)
  unfold putV
  rw [fld_up N lo i] at h2 ⊢
  rw [fld_up v 0 i, Nat.zero_add, Nat.pow_add]
  generalize fld N lo i = F at *
  generalize fld v 0 i = G at *
  rw [← Nat.pow_add 2 lo i]
  generalize N / 2 ^ (lo + i) % 2 = x at *
  rw [Nat.pow_add]
  generalize v / 2 ^ i % 2 = y
  rw [Nat.add_mul] at h2 ⊢
  rw [Nat.add_mul]
  have e1 : ∀ z, 2 ^ i * z * 2 ^ lo = z * (2 ^ lo * 2 ^ i) := fun z => by rw [Nat.mul_comm (2 ^ i), Nat.mul_assoc, Nat.mul_comm (2 ^ i)]
  rw [e1] at h2 ⊢
  rw [e1]
  generalize F * 2 ^ lo = f at *
  generalize x * (2 ^ lo * 2 ^ i) = p at *
  generalize y * (2 ^ lo * 2 ^ i) = q at *
  generalize G * 2 ^ lo = g at *
  omega
theorem putV_zero (N lo v : Nat) : putV N lo v 0 = N := by simp [putV, fld_zero]
theorem putV_full (N lo v n : Nat) (h : v < 2 ^ n) : putV N lo v n = N - fld N lo n * 2 ^ lo + v * 2 ^ lo := by
  unfold putV fld; rw [Nat.pow_zero, Nat.div_one, Nat.mod_eq_of_lt h]
theorem putV_lt {N lo v n m : Nat} (hN : N < 2 ^ m) (h : lo + n ≤ m) : putV N lo v n < 2 ^ m := by
  rw [putV_parts]
  obtain ⟨d, rfl⟩ : ∃ d, m = lo + n + d := ⟨m - (lo + n), by omega⟩
  have h1 := low_lt N lo v n
  rw [Nat.pow_add 2 (lo + n)] at hN ⊢
  have h2 : N / 2 ^ (lo + n) < 2 ^ d := Nat.div_lt_of_lt_mul hN
  have h3 : 2 ^ (lo + n) * (N / 2 ^ (lo + n) + 1) ≤ 2 ^ (lo + n) * 2 ^ d := Nat.mul_le_mul_left _ h2
  rw [Nat.mul_add, Nat.mul_one] at h3
  omega
/-- a word with bit s made y -/
def setB (x s y : Nat) : Nat := x - (x / 2 ^ s % 2) * 2 ^ s + y * 2 ^ s
theorem bit_le (x s : Nat) : (x / 2 ^ s % 2) * 2 ^ s ≤ x := Nat.le_trans (Nat.mul_le_mul_right _ (Nat.mod_le _ _)) (Nat.div_mul_le_self _ _)
theorem setB_add (x s y : Nat) : setB x s y + (x / 2 ^ s % 2) * 2 ^ s = x + y * 2 ^ s := by
  have := bit_le x s
  unfold setB; omega
theorem val_put (a b c p y : Nat) (hp : p < 96) : val ([a, b, c].set (p / 32) (setB ([a, b, c].getD (p / 32) 0) (p % 32) y)) + ([a, b, c].getD (p / 32) 0 / 2 ^ (p % 32) % 2) * 2 ^ p = val [a, b, c] + y * 2 ^ p := by
  have h := setB_add ([a, b, c].getD (p / 32) 0) (p % 32) y
  have e : 2 ^ p = 2 ^ (32 * (p / 32)) * 2 ^ (p % 32) := by rw [← Nat.pow_add]; congr 1; omega
  rw [e]
  generalize p % 32 = s at *
  generalize [a, b, c].getD (p / 32) 0 / 2 ^ s % 2 = z at *
  rcases (show p / 32 = 0 ∨ p / 32 = 1 ∨ p / 32 = 2 by omega) with hj | hj | hj <;> rw [hj] at h ⊢ <;> simp only [List.set_cons_zero, List.set_cons_succ, List.getD_cons_zero, List.getD_cons_succ, val3] at h ⊢
  · rw [Nat.mul_zero, Nat.pow_zero, Nat.one_mul]; omega
  · rw [show (2 : Nat) ^ (32 * 1) = 4294967296 from rfl, Nat.mul_left_comm z, Nat.mul_left_comm y]
    generalize z * 2 ^ s = zz at *
    generalize y * 2 ^ s = yy at *
    omega
  · rw [show (2 : Nat) ^ (32 * 2) = 18446744073709551616 from rfl, Nat.mul_left_comm z, Nat.mul_left_comm y]
    generalize z * 2 ^ s = zz at *
    generalize y * 2 ^ s = yy at *
    omega
/-- the word in three parts -/
theorem word_parts (x s : Nat) : x = 2 ^ s * (2 * (x / 2 ^ (s + 1)) + x / 2 ^ s % 2) + x % 2 ^ s := by
  rw [Nat.pow_succ, ← Nat.div_div_eq_div_mul]
  have h1 := Nat.div_add_mod x (2 ^ s)
  have h2 := Nat.div_add_mod (x / 2 ^ s) 2
  rw [h2, h1]
theorem clear_or (x s : Nat) : (x - (x / 2 ^ s % 2) * 2 ^ s) ||| 2 ^ s = setB x s 1 := by
  have h := word_parts x s
  have hl := Nat.mod_lt x (Nat.two_pow_pos s)
  have e : x - (x / 2 ^ s % 2) * 2 ^ s = 2 ^ s * (2 * (x / 2 ^ (s + 1))) + x % 2 ^ s := by
    rw [Nat.mul_add, Nat.mul_comm (2 ^ s) (x / 2 ^ s % 2)] at h
    omega
  unfold setB
  rw [e, Nat.two_pow_add_eq_or_of_lt hl, Nat.or_assoc, Nat.or_comm (x % 2 ^ s), ← Nat.or_assoc, ← Nat.two_pow_add_eq_or_of_lt hl]
  have e2 : 2 ^ s * (2 * (x / 2 ^ (s + 1))) ||| 2 ^ s = 2 ^ s * (2 * (x / 2 ^ (s + 1)) + 1) := by
    have h3 : 2 * (x / 2 ^ (s + 1)) + 1 = 2 * (x / 2 ^ (s + 1)) ||| 1 := by
      have := Nat.two_pow_add_eq_or_of_lt (i := 1) (b := 1) (by decide) (x / 2 ^ (s + 1))
      simpa using this
    rw [h3, Nat.mul_comm (2 ^ s), Nat.mul_comm (2 ^ s), ← Nat.shiftLeft_eq, ← Nat.shiftLeft_eq, Nat.shiftLeft_or_distrib, Nat.shiftLeft_eq 1, Nat.one_mul]
  rw [e2, ← Nat.two_pow_add_eq_or_of_lt hl, Nat.mul_add, Nat.mul_one, Nat.one_mul]
  omega
end Go.Proofs.YtmciccnmpoijdaaGreatDoor
namespace Go.Proofs.YtmciccnmpoijdaaGreatDoor
open Go.RowKit
set_option maxRecDepth 20000

set_option maxHeartbeats 1000000 in
theorem Div32_any (r x d : Nat) (w : World) (hr : r < d) (hx : x < 4294967296) (hd : d < 4294967296) :
    Calls Tryz.prog 63 #[U32 r, U32 x, U32 d] w (Grew (T2 (U32 ((4294967296 * r + x) / d : Nat)) (U32 ((4294967296 * r + x) % d : Nat))) w) := by
  have hor := Lib.hid (or64s r x (by omega) hx)
  have hz : (4294967296 * r + x) < 18446744073709551616 := by omega
  have hq : (4294967296 * r + x) / d < 4294967296 := by
    refine Nat.div_lt_of_lt_mul ?_
    omega
  have hm : (4294967296 * r + x) % d < 4294967296 := Nat.lt_trans (Nat.mod_lt _ (by omega)) hd
  generalize 4294967296 * r + x = z at *
  have d0 : ¬ (d : Int) = 0 := by omega
  have d1 : ¬ (d : Int) ≤ (r : Int) := by omega
  have hq2 := Lib.hid hq
  have hm2 := Lib.hid hm
  have hz2 := Lib.hid hz
  have hr2 := Lib.hid hr
  clear hz hq hm hr
  go_enter Tryz.func63, Tryz.ntmps63
  go_wp2
  have e1 : ((z : Nat) : Int).tmod (d : Int) = ((z % d : Nat) : Int) := rfl
  have e2 : ((z : Nat) : Int).tdiv (d : Int) = ((z / d : Nat) : Int) := rfl
  have e3 : IntKind.u64.wrap (((z / d : Nat) : Int)) % 4294967296 = ((z / d : Nat) : Int) := by
    have := hq2.out
    generalize z / d = q at *
    show (q : Int) % 18446744073709551616 % 4294967296 = _
    omega
  have e4 : (((z % d : Nat) : Int)) % 4294967296 = ((z % d : Nat) : Int) := by have := hm2.out; omega
  have E := Lib.hid (And.intro e1 (And.intro e2 (And.intro e3 e4)))
  clear e1 e2 e3 e4
  go_quiet (fail)
  go_wp2
  rw [hor.out, E.out.1, E.out.2.1, E.out.2.2.1, E.out.2.2.2]
  go_ret2
  exact ⟨rfl, (by repeat first | exact Below.refl _ _ | assumption | refine drewN_below ?_ _ | refine Below.alloc ?_ (by first | exact Nat.le_refl _ | exact Below.size (by assumption) | (simp; done) | (simp; omega) | omega) _ | refine Below.setCell ?_ (by first | exact Nat.le_refl _ | (simp; done) | (simp; omega) | omega) _)⟩
end Go.Proofs.YtmciccnmpoijdaaGreatDoor
