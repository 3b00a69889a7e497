/- days and months: the plain law of both texts -/
import Derived.Test.YtjkdngbaidjdmaaIn
import Derived.Test.YtjkdngbaidjdmaaApi
namespace Go.Proofs.Ytjkdngbaidjdmaa
open Go.RowKit
set_option maxRecDepth 20000

/-- is it a leap year? -/
def leapB (y : Int) : Bool := decide (y % 4 = 0 ∧ (¬ y % 100 = 0 ∨ y % 400 = 0))
/-- how many days a month has -/
def mlen (y m : Int) : Int := if m = 2 then (if leapB y then 29 else 28) else if m = 4 ∨ m = 6 ∨ m = 9 ∨ m = 11 then 30 else 31
theorem mlen_bd (y m : Int) : 28 ≤ mlen y m ∧ mlen y m ≤ 31 := by unfold mlen; repeat' split <;> omega

theorem leap_any (y : Int) (h0 : 0 ≤ y) (h1 : y ≤ 3000) (w : World) : Calls Try.prog 48 #[I y] w (Pure (.bool (leapB y)) w) := by
  by_cases a4 : y % 4 = 0
  · by_cases a100 : y % 100 = 0
    · have k1 : (y % 4 == 0) = true := by simp [a4]
      have k2 : (y % 100 != 0) = false := by simp [a100]
      have hl : leapB y = decide (y % 400 = 0) := by simp [leapB, a4, a100]
      rw [hl]
      clear hl a4 a100
      go_enter Try.func48, Try.ntmps48
      go_wp2
      all_goals
        go_ret
        refine Pure.intro (eB ?_)
        rfl
    · have k1 : (y % 4 == 0) = true := by simp [a4]
      have k2 : (y % 100 != 0) = true := by simp [a100]
      have hl : leapB y = true := by simp [leapB, a4, a100]
      rw [hl]
      clear hl a4 a100
      go_enter Try.func48, Try.ntmps48
      go_wp2
      go_ret
      exact Pure.intro rfl
  · have k1 : (y % 4 == 0) = false := by simp [a4]
    have hl : leapB y = false := by simp [leapB, a4]
    rw [hl]
    clear hl a4
    go_enter Try.func48, Try.ntmps48
    go_wp2
    go_ret
    exact Pure.intro rfl

theorem long_any (y m : Int) (h0 : 0 ≤ y) (h1 : y ≤ 3000) (hm : 1 ≤ m) (hm' : m ≤ 12) (w : World) : Calls Try.prog 44 #[I y, I m] w (Pure (I (mlen y m)) w) := by
  by_cases h2 : m = 2
  · subst h2
    cases hl : leapB y with
    | true =>
      go_enter Try.func44, Try.ntmps44
      go_wp2_with (go_at_call 48; refine (leap_any _ h0 h1 _).mono ?_; rintro e w' ⟨rfl, rfl⟩)
      go_ret
      exact Pure.intro (eI (by simp [mlen, hl]))
    | false =>
      go_enter Try.func44, Try.ntmps44
      go_wp2_with (go_at_call 48; refine (leap_any _ h0 h1 _).mono ?_; rintro e w' ⟨rfl, rfl⟩)
      go_ret
      exact Pure.intro (eI (by simp [mlen, hl]))
  · by_cases h3 : m = 4 ∨ m = 6 ∨ m = 9 ∨ m = 11
    · rcases h3 with rfl | rfl | rfl | rfl
      all_goals
        go_enter Try.func44, Try.ntmps44
        go_wp2
        go_ret
        exact Pure.intro (eI (by simp [mlen]))
    · simp only [not_or] at h3
      obtain ⟨a, b, c, d⟩ := h3
      have k : mlen y m = 31 := by simp [mlen, a, b, c, d, h2]
      rw [k]
      have b1 : (m == 4) = false := by simp [a]
      have b2 : (m == 6) = false := by simp [b]
      have b3 : (m == 9) = false := by simp [c]
      have b4 : (m == 11) = false := by simp [d]
      have b5 : (m == 2) = false := by simp [h2]
      clear a b c d h2 k
      go_enter Try.func44, Try.ntmps44
      go_wp2
      go_ret
      exact Pure.intro rfl

theorem monthLong_any (y m : Int) (h0 : 0 ≤ y) (h1 : y ≤ 3000) (w : World) : Calls Try.prog 47 #[I y, I m] w (Pure (I (mlen y m)) w) := by
  by_cases h2 : m = 2
  · subst h2
    by_cases a4 : y % 4 = 0
    · have k1 : (y % 4 == 0) = true := by simp [a4]
      by_cases a100 : y % 100 = 0
      · have k2 : (y % 100 != 0) = false := by simp [a100]
        by_cases a400 : y % 400 = 0
        · have k3 : (y % 400 == 0) = true := by simp [a400]
          have hl : mlen y 2 = 29 := by simp [mlen, leapB, a4, a100, a400]
          rw [hl]
          clear hl a4 a100 a400
          go_enter Try.func47, Try.ntmps47
          go_wp2
          go_ret
          exact Pure.intro rfl
        · have k3 : (y % 400 == 0) = false := by simp [a400]
          have hl : mlen y 2 = 28 := by simp [mlen, leapB, a4, a100, a400]
          rw [hl]
          clear hl a4 a100 a400
          go_enter Try.func47, Try.ntmps47
          go_wp2
          go_ret
          exact Pure.intro rfl
      · have k2 : (y % 100 != 0) = true := by simp [a100]
        have k3 : (y % 400 == 0) = false := by simp; omega
        have hl : mlen y 2 = 29 := by simp [mlen, leapB, a4, a100]
        rw [hl]
        clear hl a4 a100
        go_enter Try.func47, Try.ntmps47
        go_wp2
        go_ret
        exact Pure.intro rfl
    · have k1 : (y % 4 == 0) = false := by simp [a4]
      have k3 : (y % 400 == 0) = false := by simp; omega
      have hl : mlen y 2 = 28 := by simp [mlen, leapB, a4]
      rw [hl]
      clear hl a4
      go_enter Try.func47, Try.ntmps47
      go_wp2
      go_ret
      exact Pure.intro rfl
  · have b5 : (m == 2) = false := by simp [h2]
    by_cases h3 : m = 4 ∨ m = 6 ∨ m = 9 ∨ m = 11
    · have k : mlen y m = 30 := by simp [mlen, h2, h3]
      rw [k]
      rcases h3 with rfl | rfl | rfl | rfl
      all_goals
        clear k h2
        go_enter Try.func47, Try.ntmps47
        go_wp2
        go_ret
        exact Pure.intro rfl
    · simp only [not_or] at h3
      obtain ⟨a, b, c, d⟩ := h3
      have k : mlen y m = 31 := by simp [mlen, a, b, c, d, h2]
      rw [k]
      have b1 : (m == 4) = false := by simp [a]
      have b2 : (m == 6) = false := by simp [b]
      have b3 : (m == 9) = false := by simp [c]
      have b4 : (m == 11) = false := by simp [d]
      clear a b c d h2 k
      go_enter Try.func47, Try.ntmps47
      go_wp2
      go_ret
      exact Pure.intro rfl

/-- days ahead of a year -/
def aheadI (y : Int) : Int := (y - 1) * 365 + (y - 1) / 4 - (y - 1) / 100 + (y - 1) / 400
theorem ahead_any (y : Int) (h0 : 1 ≤ y) (h1 : y ≤ 3000) (w : World) : Calls Try.prog 45 #[I y] w (Pure (I (aheadI y)) w) := by
  go_enter Try.func45, Try.ntmps45
  go_wp2
  go_ret
  exact Pure.intro rfl

theorem known_any (y : Int) (w : World) : Calls Try.prog 43 #[I y] w (Pure (.bool (inB y 2000 2199)) w) := by
  go_enter Try.func43, Try.ntmps43
  go_wp2
  all_goals
    go_ret
    refine Pure.intro ?_
    simp only [inB]
    simp [*]
    try omega

/-! the plain law -/
/-- the length of the month k -/
def mk (k : Nat) : Int := mlen (2000 + (k : Int) / 12) ((k : Int) % 12 + 1)
/-- the days of the first k months -/
def cum : Nat → Int
  | 0 => 0
  | k + 1 => cum k + mk k
theorem mk_bd (k : Nat) : 28 ≤ mk k ∧ mk k ≤ 31 := mlen_bd _ _
theorem cum_bd (k : Nat) : 28 * (k : Int) ≤ cum k ∧ cum k ≤ 31 * (k : Int) := by
  induction k with
  | zero => simp [cum]
  | succ k ih => have := mk_bd k; simp only [cum]; omega
theorem cum_mono {a b : Nat} (h : a ≤ b) : cum a ≤ cum b := by
  induction h with
  | refl => omega
  | step _ ih => have := mk_bd (by assumption); simp only [cum]; omega
def ylen (y : Int) : Int := if leapB y then 366 else 365
theorem mk_at (j i : Nat) (hi : i < 12) : mk (12 * j + i) = mlen (2000 + j) ((i : Int) + 1) := by
  unfold mk
  congr 1 <;> omega
theorem cum_year (j : Nat) : cum (12 * j + 12) = cum (12 * j) + ylen (2000 + j) := by
  have e : ∀ i, i < 12 → cum (12 * j + (i + 1)) = cum (12 * j + i) + mlen (2000 + j) ((i : Int) + 1) := fun i hi => by
    rw [← mk_at j i hi]; rfl
  have e0 := e 0 (by omega); have e1 := e 1 (by omega); have e2 := e 2 (by omega); have e3 := e 3 (by omega)
  have e4 := e 4 (by omega); have e5 := e 5 (by omega); have e6 := e 6 (by omega); have e7 := e 7 (by omega)
  have e8 := e 8 (by omega); have e9 := e 9 (by omega); have e10 := e 10 (by omega); have e11 := e 11 (by omega)
  simp only [Nat.reduceAdd, Nat.add_zero] at e0 e1 e2 e3 e4 e5 e6 e7 e8 e9 e10 e11
  rw [e11, e10, e9, e8, e7, e6, e5, e4, e3, e2, e1, e0]
  unfold mlen ylen
  simp
  split <;> omega
theorem ahead_succ (y : Int) : aheadI (y + 1) = aheadI y + ylen y := by
  unfold aheadI ylen leapB
  by_cases h4 : y % 4 = 0
  · by_cases h100 : y % 100 = 0
    · by_cases h400 : y % 400 = 0
      · simp [h4, h100, h400]; omega
      · simp [h4, h100, h400]; omega
    · simp [h4, h100]; omega
  · simp [h4]; omega
theorem cum_ahead (j : Nat) : cum (12 * j) = aheadI (2000 + j) - aheadI 2000 := by
  induction j with
  | zero => simp [cum]
  | succ j ih =>
    rw [show 12 * (j + 1) = 12 * j + 12 by omega, cum_year, ih]
    have := ahead_succ (2000 + j)
    rw [show (2000 : Int) + ((j + 1 : Nat) : Int) = 2000 + (j : Int) + 1 by omega, this]
    omega
theorem cum_in (j i : Nat) (hi : i < 12) : cum (12 * j + i + 1) = cum (12 * j + i) + mlen (2000 + j) ((i : Int) + 1) := by
  rw [← mk_at j i hi]; rfl
theorem ahead_bd (y : Int) (h0 : 1 ≤ y) (h1 : y ≤ 3000) : 0 ≤ aheadI y ∧ aheadI y ≤ 1200000 := by unfold aheadI; omega
end Go.Proofs.Ytjkdngbaidjdmaa
