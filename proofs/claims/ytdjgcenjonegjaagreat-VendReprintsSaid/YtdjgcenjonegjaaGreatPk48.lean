/- words.Plus, words.Times: their references, and the plain law · bits and fields of wide numbers: the plain laws · bits.Div32 · words.Over · ref.Divided, and the plain law · words.Bits, ref.Field -/
import Derived.Test.YtdjgcenjonegjaaGreatPk47
import Derived.Test.YtdjgcenjonegjaaGreatPk01
set_option maxRecDepth 20000
set_option maxHeartbeats 8000000
set_option linter.unusedSimpArgs false
set_option linter.unusedVariables false
namespace Go.Proofs.YtdjgcenjonegjaaGreat
section
open Go.RowKit

theorem digits4 {N w0 w1 w2 c : Nat} (h0 : w0 < 4294967296) (h1 : w1 < 4294967296) (h2 : w2 < 4294967296) (hN : N = w0 + 4294967296 * (w1 + 4294967296 * (w2 + 4294967296 * c))) :
    N % 4294967296 = w0 ∧ N / 4294967296 % 4294967296 = w1 ∧ N / 18446744073709551616 % 4294967296 = w2 ∧ N / 79228162514264337593543950336 = c := by
  have hB : (0 : Nat) < 4294967296 := by decide
  have a1 : N / 4294967296 = w1 + 4294967296 * (w2 + 4294967296 * c) := by rw [hN, Nat.add_mul_div_left _ _ hB, Nat.div_eq_of_lt h0, Nat.zero_add]
  have a2 : N / 18446744073709551616 = w2 + 4294967296 * c := by
    rw [show (18446744073709551616 : Nat) = 4294967296 * 4294967296 from rfl, ← Nat.div_div_eq_div_mul, a1, Nat.add_mul_div_left _ _ hB, Nat.div_eq_of_lt h1, Nat.zero_add]
  have a3 : N / 79228162514264337593543950336 = c := by
    rw [show (79228162514264337593543950336 : Nat) = 18446744073709551616 * 4294967296 from rfl, ← Nat.div_div_eq_div_mul, a2, Nat.add_mul_div_left _ _ hB, Nat.div_eq_of_lt h2, Nat.zero_add]
  refine ⟨?_, ?_, ?_, a3⟩
  · rw [hN, Nat.add_mul_mod_self_left, Nat.mod_eq_of_lt h0]
  · rw [a1, Nat.add_mul_mod_self_left, Nat.mod_eq_of_lt h1]
  · rw [a2, Nat.add_mul_mod_self_left, Nat.mod_eq_of_lt h2]
theorem times_digits (a b c m : Nat) : val [a, b, c] * m = wordC (timesF m) [a, b, c] 0 0 + 4294967296 * (wordC (timesF m) [a, b, c] 0 1 + 4294967296 * (wordC (timesF m) [a, b, c] 0 2 + 4294967296 * carryC (timesF m) [a, b, c] 0 3)) := by
  have e : ∀ s : Nat, s % 4294967296 + 4294967296 * (s / 4294967296) = s := fun s => Nat.mod_add_div s _; simp only [wordC, carryC, timesF, List.getD_cons_zero, List.getD_cons_succ, val3, Nat.add_zero]; rw [Nat.add_mul, Nat.mul_assoc, Nat.add_mul, Nat.mul_assoc]; generalize a * m = am; generalize b * m = bm; generalize c * m = cm; have h0 := e am; have h1 := e (bm + am / 4294967296); have h2 := e (cm + (bm + am / 4294967296) / 4294967296); generalize am / 4294967296 = c1 at *; generalize (bm + c1) / 4294967296 = c2 at *; generalize (cm + c2) / 4294967296 = c3 at *; generalize am % 4294967296 = s0 at *; generalize (bm + c1) % 4294967296 = s1 at *; generalize (cm + c2) % 4294967296 = s2 at *; omega

end
section
open Go.RowKit

theorem wide_bit (a b c p : Nat) (ha : a < 4294967296) (hb : b < 4294967296) : ([a, b, c].getD (p / 32) 0).testBit (p % 32) = ((val [a, b, c]).testBit p && decide (p < 96)) ∨ 96 ≤ p := by
  by_cases h3 : 96 ≤ p
  · exact .inr h3
  refine .inl ?_; rw [decide_eq_true (by omega), Bool.and_true, val3, show (4294967296 : Nat) = 2 ^ 32 from rfl, Nat.add_comm a, Nat.testBit_two_pow_mul_add _ ha]
  by_cases h1 : p < 32
  · rw [if_pos h1, Nat.div_eq_of_lt h1, Nat.mod_eq_of_lt h1]; rfl
  · rw [if_neg h1, Nat.add_comm b, Nat.testBit_two_pow_mul_add _ hb]
    by_cases h2 : p < 64
    · rw [if_pos (by omega), show p / 32 = 1 by omega, show p % 32 = p - 32 by omega]; rfl
    · rw [if_neg (by omega), show p / 32 = 2 by omega, show p % 32 = p - 32 - 32 by omega]; rfl
theorem bit_div {x p : Nat} {y q : Nat} (h : x.testBit p = y.testBit q) : x / 2 ^ p % 2 = y / 2 ^ q % 2 := by
  rw [Nat.testBit_eq_decide_div_mod_eq, Nat.testBit_eq_decide_div_mod_eq, decide_eq_decide] at h; omega
theorem wide_bit2 (a b c p : Nat) (ha : a < 4294967296) (hb : b < 4294967296) (hp : p < 96) : [a, b, c].getD (p / 32) 0 / 2 ^ (p % 32) % 2 = val [a, b, c] / 2 ^ p % 2 := by
  rcases wide_bit a b c p ha hb with h | h
  · rw [decide_eq_true hp, Bool.and_true] at h
    exact bit_div h
  · omega
/-- n bits from bit lo on -/
def fld (N lo n : Nat) : Nat := N / 2 ^ lo % 2 ^ n
theorem fld_zero (N lo : Nat) : fld N lo 0 = 0 := by simp [fld, Nat.mod_one]
/-- one bit higher -/
theorem fld_up (N lo k : Nat) : fld N lo (k + 1) = fld N lo k + 2 ^ k * (N / 2 ^ (lo + k) % 2) := by
  unfold fld; rw [Nat.pow_succ, Nat.mod_mul, Nat.div_div_eq_div_mul, ← Nat.pow_add]
/-- the lowest i bits of v laid into the field -/
def putV (N lo v i : Nat) : Nat := N - fld N lo i * 2 ^ lo + fld v 0 i * 2 ^ lo
theorem fld_le (N lo n : Nat) : fld N lo n * 2 ^ lo ≤ N := by
  unfold fld; exact Nat.le_trans (Nat.mul_le_mul_right _ (Nat.mod_le _ _)) (Nat.div_mul_le_self _ _)
/-- as high part, new field, low part -/
theorem putV_parts (N lo v i : Nat) : putV N lo v i = 2 ^ (lo + i) * (N / 2 ^ (lo + i)) + (2 ^ lo * (v % 2 ^ i) + N % 2 ^ lo) := by
  unfold putV fld; have h1 := Nat.div_add_mod N (2 ^ lo); have h2 := Nat.div_add_mod (N / 2 ^ lo) (2 ^ i); rw [Nat.div_div_eq_div_mul, ← Nat.pow_add] at h2; rw [Nat.pow_add, Nat.pow_zero, Nat.div_one]; rw [Nat.pow_add] at h2; generalize N / (2 ^ lo * 2 ^ i) = H at *; generalize N % 2 ^ lo = L at *
  have h3 : N = 2 ^ lo * 2 ^ i * H + 2 ^ lo * (N / 2 ^ lo % 2 ^ i) + L := by
    conv => lhs; rw [← h1, ← h2, Nat.mul_add, ← Nat.mul_assoc]
  generalize N / 2 ^ lo % 2 ^ i = F at *; rw [Nat.mul_comm F, Nat.mul_comm (v % 2 ^ i)]; generalize 2 ^ lo * F = y at *; generalize 2 ^ lo * 2 ^ i * H = x at *; generalize 2 ^ lo * (v % 2 ^ i) = z at *; omega
theorem low_lt (N lo v i : Nat) : 2 ^ lo * (v % 2 ^ i) + N % 2 ^ lo < 2 ^ (lo + i) := by
  have h1 := Nat.mod_lt N (Nat.two_pow_pos lo); have h2 := Nat.mod_lt v (Nat.two_pow_pos i); rw [Nat.pow_add]; have h3 : 2 ^ lo * (v % 2 ^ i + 1) ≤ 2 ^ lo * 2 ^ i := Nat.mul_le_mul_left _ h2; rw [Nat.mul_add, Nat.mul_one] at h3; omega
theorem putV_bit (N lo v i : Nat) : putV N lo v i / 2 ^ (lo + i) % 2 = N / 2 ^ (lo + i) % 2 := by
  rw [putV_parts, Nat.mul_add_div (Nat.two_pow_pos _), Nat.div_eq_of_lt (low_lt N lo v i), Nat.add_zero]
/-- the next bit of the field -/
theorem putV_succ (N lo v i : Nat) : putV N lo v (i + 1) + (N / 2 ^ (lo + i) % 2) * 2 ^ (lo + i) = putV N lo v i + (v / 2 ^ i % 2) * 2 ^ (lo + i) := by
  have h1 := fld_le N lo i; have h2 := fld_le N lo (i + 1); unfold putV; rw [fld_up N lo i] at h2 ⊢; rw [fld_up v 0 i, Nat.zero_add, Nat.pow_add]; generalize fld N lo i = F at *; generalize fld v 0 i = G at *; rw [← Nat.pow_add 2 lo i]; generalize N / 2 ^ (lo + i) % 2 = x at *; rw [Nat.pow_add]; generalize v / 2 ^ i % 2 = y; rw [Nat.add_mul] at h2 ⊢; rw [Nat.add_mul]; have e1 : ∀ z, 2 ^ i * z * 2 ^ lo = z * (2 ^ lo * 2 ^ i) := fun z => by rw [Nat.mul_comm (2 ^ i), Nat.mul_assoc, Nat.mul_comm (2 ^ i)]
  rw [e1] at h2 ⊢; rw [e1]; generalize F * 2 ^ lo = f at *; generalize x * (2 ^ lo * 2 ^ i) = p at *; generalize y * (2 ^ lo * 2 ^ i) = q at *; generalize G * 2 ^ lo = g at *; omega
theorem putV_zero (N lo v : Nat) : putV N lo v 0 = N := by simp [putV, fld_zero]
theorem putV_full (N lo v n : Nat) (h : v < 2 ^ n) : putV N lo v n = N - fld N lo n * 2 ^ lo + v * 2 ^ lo := by
  unfold putV fld; rw [Nat.pow_zero, Nat.div_one, Nat.mod_eq_of_lt h]
/-- a word with bit s made y -/
def setB (x s y : Nat) : Nat := x - (x / 2 ^ s % 2) * 2 ^ s + y * 2 ^ s
theorem bit_le (x s : Nat) : (x / 2 ^ s % 2) * 2 ^ s ≤ x := Nat.le_trans (Nat.mul_le_mul_right _ (Nat.mod_le _ _)) (Nat.div_mul_le_self _ _)
theorem setB_add (x s y : Nat) : setB x s y + (x / 2 ^ s % 2) * 2 ^ s = x + y * 2 ^ s := by
  have := bit_le x s; unfold setB; omega
theorem val_put (a b c p y : Nat) (hp : p < 96) : val ([a, b, c].set (p / 32) (setB ([a, b, c].getD (p / 32) 0) (p % 32) y)) + ([a, b, c].getD (p / 32) 0 / 2 ^ (p % 32) % 2) * 2 ^ p = val [a, b, c] + y * 2 ^ p := by
  have h := setB_add ([a, b, c].getD (p / 32) 0) (p % 32) y; have e : 2 ^ p = 2 ^ (32 * (p / 32)) * 2 ^ (p % 32) := by rw [← Nat.pow_add]; congr 1; omega
  rw [e]; generalize p % 32 = s at *; generalize [a, b, c].getD (p / 32) 0 / 2 ^ s % 2 = z at *; rcases (show p / 32 = 0 ∨ p / 32 = 1 ∨ p / 32 = 2 by omega) with hj | hj | hj <;> rw [hj] at h ⊢ <;> simp only [List.set_cons_zero, List.set_cons_succ, List.getD_cons_zero, List.getD_cons_succ, val3] at h ⊢
  · rw [Nat.mul_zero, Nat.pow_zero, Nat.one_mul]; omega
  · rw [show (2 : Nat) ^ (32 * 1) = 4294967296 from rfl, Nat.mul_left_comm z, Nat.mul_left_comm y]
    generalize z * 2 ^ s = zz at *; generalize y * 2 ^ s = yy at *; omega
  · rw [show (2 : Nat) ^ (32 * 2) = 18446744073709551616 from rfl, Nat.mul_left_comm z, Nat.mul_left_comm y]
    generalize z * 2 ^ s = zz at *; generalize y * 2 ^ s = yy at *; omega
/-- the word in three parts -/
theorem word_parts (x s : Nat) : x = 2 ^ s * (2 * (x / 2 ^ (s + 1)) + x / 2 ^ s % 2) + x % 2 ^ s := by
  rw [Nat.pow_succ, ← Nat.div_div_eq_div_mul]; have h1 := Nat.div_add_mod x (2 ^ s); have h2 := Nat.div_add_mod (x / 2 ^ s) 2; rw [h2, h1]
theorem clear_or (x s : Nat) : (x - (x / 2 ^ s % 2) * 2 ^ s) ||| 2 ^ s = setB x s 1 := by
  have h := word_parts x s; have hl := Nat.mod_lt x (Nat.two_pow_pos s)
  have e : x - (x / 2 ^ s % 2) * 2 ^ s = 2 ^ s * (2 * (x / 2 ^ (s + 1))) + x % 2 ^ s := by
    rw [Nat.mul_add, Nat.mul_comm (2 ^ s) (x / 2 ^ s % 2)] at h; omega
  unfold setB; rw [e, Nat.two_pow_add_eq_or_of_lt hl, Nat.or_assoc, Nat.or_comm (x % 2 ^ s), ← Nat.or_assoc, ← Nat.two_pow_add_eq_or_of_lt hl]
  have e2 : 2 ^ s * (2 * (x / 2 ^ (s + 1))) ||| 2 ^ s = 2 ^ s * (2 * (x / 2 ^ (s + 1)) + 1) := by
    have h3 : 2 * (x / 2 ^ (s + 1)) + 1 = 2 * (x / 2 ^ (s + 1)) ||| 1 := by
      have := Nat.two_pow_add_eq_or_of_lt (i := 1) (b := 1) (by decide) (x / 2 ^ (s + 1)); simpa using this
    rw [h3, Nat.mul_comm (2 ^ s), Nat.mul_comm (2 ^ s), ← Nat.shiftLeft_eq, ← Nat.shiftLeft_eq, Nat.shiftLeft_or_distrib, Nat.shiftLeft_eq 1, Nat.one_mul]
  rw [e2, ← Nat.two_pow_add_eq_or_of_lt hl, Nat.mul_add, Nat.mul_one, Nat.one_mul]; omega
end
section
open Go.RowKit

theorem Div32_any (r x d : Nat) (w : World) (hr : r < d) (hx : x < 4294967296) (hd : d < 4294967296) :
    Calls Tryz.prog 133 #[U32 r, U32 x, U32 d] w (Grew (T2 (U32 ((4294967296 * r + x) / d : Nat)) (U32 ((4294967296 * r + x) % d : Nat))) w) := by
  have hor := Lib.hid (or64s r x (by omega) hx); have hz : (4294967296 * r + x) < 18446744073709551616 := by omega
  have hq : (4294967296 * r + x) / d < 4294967296 := by
    refine Nat.div_lt_of_lt_mul ?_; omega
  have hm : (4294967296 * r + x) % d < 4294967296 := Nat.lt_trans (Nat.mod_lt _ (by omega)) hd; generalize 4294967296 * r + x = z at *; have d0 : ¬ (d : Int) = 0 := by omega
  have d1 : ¬ (d : Int) ≤ (r : Int) := by omega
  have hq2 := Lib.hid hq; have hm2 := Lib.hid hm; have hz2 := Lib.hid hz; have hr2 := Lib.hid hr; clear hz hq hm hr; go_enter Tryz.func133, Tryz.ntmps133; go_wp2; have e1 : ((z : Nat) : Int).tmod (d : Int) = ((z % d : Nat) : Int) := rfl; have e2 : ((z : Nat) : Int).tdiv (d : Int) = ((z / d : Nat) : Int) := rfl
  have e3 : IntKind.u64.wrap (((z / d : Nat) : Int)) % 4294967296 = ((z / d : Nat) : Int) := by
    have := hq2.out; generalize z / d = q at *; show (q : Int) % 18446744073709551616 % 4294967296 = _; omega
  have e4 : (((z % d : Nat) : Int)) % 4294967296 = ((z % d : Nat) : Int) := by have := hm2.out; omega
  have E := Lib.hid (And.intro e1 (And.intro e2 (And.intro e3 e4))); clear e1 e2 e3 e4
  go_quiet (fail)
  go_wp2; rw [hor.out, E.out.1, E.out.2.1, E.out.2.2.1, E.out.2.2.2]; go_ret2; exact ⟨rfl, below_auto⟩
end
section
open Go.RowKit

/-- from the top down: what is left behind k words, and the word of the quotient then -/
def remO (d : Nat) (l : List Nat) : Nat → Nat
  | 0 => 0
  | k + 1 => (4294967296 * remO d l k + l.getD (2 - k) 0) % d
def quoO (d : Nat) (l : List Nat) (k : Nat) : Nat := (4294967296 * remO d l k + l.getD (2 - k) 0) / d
def mixO (d : Nat) (l : List Nat) (k i : Nat) : Nat := if 2 < i + k then quoO d l (2 - i) else l.getD i 0
theorem remO_lt {d : Nat} {l : List Nat} (hd : 0 < d) : ∀ k, remO d l k < d
  | 0 => hd
  | _ + 1 => Nat.mod_lt _ hd
theorem quoO_lt {d : Nat} {l : List Nat} (hl : allW l) (hd : 0 < d) (k : Nat) : quoO d l k < 4294967296 := by
  have h1 := remO_lt (l := l) hd k; have h2 := allW_at hl (2 - k); unfold quoO; refine Nat.div_lt_of_lt_mul ?_; omega
def OverRel (W : World) (d : Nat) (l : List Nat) (k : Nat) (wr : World) : Prop :=
  Own wr W.heap.size [U32 (mixO d l k 0), U32 (mixO d l k 1), U32 (mixO d l k 2)] ∧ Own wr (W.heap.size + 1) [U32 0, U32 0, U32 0] ∧ Below W.heap.size W wr
theorem OverRel.set {W : World} {d k j : Nat} {l : List Nat} {wr : World} (hj : j + k = 2) (h : OverRel W d l k wr) : Hid (OverRel W d l (k + 1) (wr.setCell ⟨W.heap.size, j, none⟩ (U32 (quoO d l k : Nat)))) := by
  refine ⟨?_, h.2.1.other (a := ⟨W.heap.size, j, none⟩) (by show W.heap.size ≠ W.heap.size + 1; omega) _, h.2.2.setCell (p := ⟨W.heap.size, j, none⟩) (Nat.le_refl _) _⟩; have h1 := h.1.set j (U32 (quoO d l k : Nat))
  have e : ([U32 (mixO d l k 0), U32 (mixO d l k 1), U32 (mixO d l k 2)] : List Value).set j (U32 (quoO d l k : Nat)) = [U32 (mixO d l (k + 1) 0), U32 (mixO d l (k + 1) 1), U32 (mixO d l (k + 1) 2)] := by
    rcases (show j = 0 ∧ k = 2 ∨ j = 1 ∧ k = 1 ∨ j = 2 ∧ k = 0 by omega) with ⟨rfl, rfl⟩ | ⟨rfl, rfl⟩ | ⟨rfl, rfl⟩ <;> simp [mixO]
  rw [e] at h1; exact h1
theorem OverRel.at {W : World} {d k j : Nat} {l : List Nat} {wr : World} (hj : j + k = 2) (h : OverRel W d l k wr) : wr.cell? ⟨W.heap.size, j, none⟩ = some (U32 (l.getD j 0 : Nat)) ∧ wr.frozen? ⟨W.heap.size, j, none⟩ = false := by
  refine ⟨?_, h.1.frozen j⟩; have := h.1.cell j (by simp; omega); rw [Nat.zero_add] at this; rw [this]; rcases (show j = 0 ∧ k = 2 ∨ j = 1 ∧ k = 1 ∨ j = 2 ∧ k = 0 by omega) with ⟨rfl, rfl⟩ | ⟨rfl, rfl⟩ | ⟨rfl, rfl⟩ <;> simp [mixO]
theorem OverRel.below {W : World} {d k : Nat} {l : List Nat} {wr w' : World} (h : OverRel W d l k wr) (k1 : Below wr.heap.size wr w') : OverRel W d l k w' :=
  ⟨h.1.below k1, h.2.1.below k1, h.2.2.trans (k1.mono h.2.2.size)⟩
theorem OverRel.start {W : World} {d a b c : Nat} : OverRel W d [a, b, c] 0 ((W.alloc (.cells #[U32 a, U32 b, U32 c] 113)).alloc (.cells #[U32 0, U32 0, U32 0] 113)) :=
  ⟨(Own.new (w := W) rfl [U32 a, U32 b, U32 c] 113).alloc _, Own.new (by simp) [U32 0, U32 0, U32 0] 113, (boxed_below W _).alloc (boxed_below W _).size _⟩
def GrewW3 (a b c d : Nat) (er : Int) (w : World) (e : Ending) (w' : World) : Prop := e = .returned (.tuple #[wideV a b c, U32 d, .int .i64 er]) ∧ Below w.heap.size w w'
theorem Over_any (a b c d : Nat) (w : World) (ha : a < 4294967296) (hb : b < 4294967296) (hc : c < 4294967296) (hd : d < 4294967296) (hd0 : 0 < d) :
    Calls Tryz.prog 86 #[wideV a b c, U32 d] w (GrewW3 (quoO d [a, b, c] 2) (quoO d [a, b, c] 1) (quoO d [a, b, c] 0) (remO d [a, b, c] 3) 0 w) := by
  have hR := Lib.hid (OverRel.start (W := w) (d := d) (a := a) (b := b) (c := c)); have hl : allW [a, b, c] := by intro d hd; simp at hd; omega
  have HC := Lib.hid (fun k => remO_lt (l := [a, b, c]) hd0 k); have HL := Lib.hid (allW_at hl); have dz : ¬ (d : Int) = 0 := by omega
  clear hl; go_enter Tryz.func86, Tryz.ntmps86; go_wp2; have h0 : ((d : Int) == 0) = false := by simp; omega
  rw [h0]; clear h0
  go_loopw [7, 8, 9, 13] (fun cv _ _ i wr => ∃ k : Nat, k ≤ 3 ∧ i = I k ∧ cv = U32 (remO d [a, b, c] k : Nat) ∧ Hid (OverRel w d [a, b, c] k wr)) (fun _ _ _ i _ => (3 - intOf i).toNat)
  case atStart => exact ⟨0, by decide, rfl, rfl, hR⟩
  case round =>
    clear hR; obtain ⟨k, hk, rfl, rfl, hR⟩ := hrel
    by_cases hlt : k < 3
    · obtain ⟨j, hj⟩ : ∃ j, j + k = 2 := ⟨2 - k, by omega⟩
      have ej : (2 : Int) - (k : Int) = (j : Int) := by omega
      have hi0 : (0 : Int) ≤ (j : Int) := by omega
      have hi1 : (j : Int) < 3 := by omega
      have hk3 : (k : Int) < 3 := by omega
      obtain ⟨e0, -⟩ := OverRel.at hj hR.out; have HS := Lib.hid (fun w' (h : Below wr.heap.size wr w') => And.intro (OverRel.at hj (hR.out.below h)) (OverRel.set hj (hR.out.below h))); have hc1 := HC.out k; have hw1 := HL.out j; have hcs := Lib.hid (show remO d [a, b, c] (k + 1) = (4294967296 * remO d [a, b, c] k + [a, b, c].getD j 0) % d by rw [show j = 2 - k by omega]; rfl); have hws := Lib.hid (show quoO d [a, b, c] k = (4294967296 * remO d [a, b, c] k + [a, b, c].getD j 0) / d by rw [show j = 2 - k by omega]; rfl); generalize remO d [a, b, c] k = cc at *; generalize [a, b, c].getD j 0 = x at *; have C := Lib.hid (fun W => Div32_any cc x d W hc1 hw1 hd); generalize (4294967296 * cc + x) % d = c2 at *; generalize (4294967296 * cc + x) / d = d2 at *; rw [hws.out] at HS; clear hR hws
      go_wp2_with fail
      refine (C.out _).mono ?_; rintro e w' ⟨rfl, k1⟩; obtain ⟨⟨g0, f0⟩, hnew⟩ := HS.out _ k1; clear HS k1; go_wp2; exact ⟨⟨k + 1, by omega, by go_num, by rw [hcs.out], hnew⟩, by simp [intOf]; try omega⟩
    · have hk3 : k = 3 := by omega
      subst hk3; obtain ⟨o1, o2, hbw⟩ := hR.out; have e0 : mixO d [a, b, c] 3 0 = quoO d [a, b, c] 2 := rfl; have e1 : mixO d [a, b, c] 3 1 = quoO d [a, b, c] 1 := rfl; have e2 : mixO d [a, b, c] 3 2 = quoO d [a, b, c] 0 := rfl; rw [e0, e1, e2] at o1; have cO := o1; have cfA := cO.f; have c0 := cO.c0; have c1 := cO.c1; have c2 := cO.c2; clear cO; have zO := o2; have zA := zO.s3; clear zO; clear o1 o2 hR e0 e1 e2; have r1 := set_same; have r2 := set_off; have r3 := set_blk; go_wp2; refine bodyPost_ret (v := .tuple #[wideV (quoO d [a, b, c] 2) (quoO d [a, b, c] 1) (quoO d [a, b, c] 0), U32 (remO d [a, b, c] 3 : Nat), .int .i64 0]) (by simp [results, Tryz.results86, go_sem, *]) rfl ⟨rfl, below_autor⟩
end
section
open Go.RowKit

theorem over_digits (a b c d : Nat) : val [a, b, c] = d * (quoO d [a, b, c] 2 + 4294967296 * (quoO d [a, b, c] 1 + 4294967296 * quoO d [a, b, c] 0)) + remO d [a, b, c] 3 := by
  have e : ∀ s : Nat, s = d * (s / d) + s % d := fun s => (Nat.div_add_mod s d).symm; have h0 := e c; have h1 := e (4294967296 * (c % d) + b); have h2 := e (4294967296 * ((4294967296 * (c % d) + b) % d) + a); simp only [quoO, remO, List.getD_cons_zero, List.getD_cons_succ, val3, Nat.mul_zero, Nat.zero_add, Nat.sub_self, Nat.sub_zero, show 2 - 1 = 1 from rfl]; generalize (4294967296 * ((4294967296 * (c % d) + b) % d) + a) / d = q0 at *; generalize (4294967296 * ((4294967296 * (c % d) + b) % d) + a) % d = r0 at *; generalize (4294967296 * (c % d) + b) / d = q1 at *; generalize (4294967296 * (c % d) + b) % d = r1 at *; generalize c / d = q2 at *; generalize c % d = r2 at *; rw [Nat.mul_add d, Nat.mul_left_comm d, Nat.mul_add d, Nat.mul_left_comm d]; generalize d * q0 = x at *; generalize d * q1 = y at *; generalize d * q2 = z at *; omega
end
section
open Go.RowKit

def fieldB (lo n : Int) : Bool := decide (0 ≤ lo ∧ 1 ≤ n ∧ n ≤ 64 ∧ lo + n ≤ 96)
theorem field_any (lo n : Int) (w : World) (hlo : I64 lo) (hn : I64 n) : Calls Tryz.prog 127 #[I lo, I n] w (Pure (.bool (fieldB lo n)) w) := by
  obtain ⟨l0, l1⟩ := hlo; obtain ⟨n0, n1⟩ := hn; go_enter Tryz.func127, Tryz.ntmps127; go_wp2
  all_goals
    go_ret; refine Pure.intro (eB ?_); unfold fieldB; simp [*]
    try omega
end
end Go.Proofs.YtdjgcenjonegjaaGreat
