/- window.may, window.Judge and their references -/
import Derived.Test.YtenoigmkhlnfoaaWin
import Derived.Test.YtenoigmkhlnfoaaSlice
import Derived.Test.YtenoigmkhlnfoaaShelf
import Derived.Laws.BitsAllLaws
namespace Go.Proofs.Ytenoigmkhlnfoaa
set_option linter.unusedSimpArgs false
set_option linter.unusedVariables false
open Go.RowKit
set_option maxRecDepth 20000

/-- a window as a value -/
abbrev WinV (h : Int) (b : Nat) : Value := .agg #[I h, .int .u64 b]
theorem and1 (b : Nat) (hb : b < 18446744073709551616) : bits .and .u64 (b : Int) 1 = ((b % 2 : Nat) : Int) := by
  have := u64_and_nat b 1 hb (by decide)
  rw [Nat.and_one_is_mod] at this
  exact this

theorem Len64_any (b : Nat) (w : World) (hb : b < 18446744073709551616) : Calls Try.prog 124 #[.int .u64 b] w (Pure (I (bl b)) w) := by
  refine (Try.bits_Len64 (b : Int) w (by omega) (by omega)).mono ?_
  rintro e w' ⟨rfl, rfl⟩
  exact Pure.intro rfl

set_option maxHeartbeats 1000000 in
theorem wmay_any (h : Int) (b : Nat) (w : World) (hb : b < 18446744073709551616) : Calls Try.prog 123 #[WinV h b] w (Grew (.bool (mayW h b)) w) := by
  have ha := and1 b hb
  by_cases h1 : h < 1
  · have e1 : mayW h b = (h == 0 && b == 0) := by simp [mayW, h1]
    rw [e1]
    clear e1
    go_enter Try.func123, Try.ntmps123
    go_wp2
    all_goals
      go_ret
      exact Grew.intro (eB (by simp [*])) below_auto
  · have h1' : (h < 1) = False := by simp [h1]
    by_cases h2 : h ≤ 1048575
    · cases h3 : (b % 2 == 1)
      · have e1 : mayW h b = false := by simp [mayW, h1, h3]
        rw [e1]
        have h3' : (((b % 2 : Nat) : Int) == 1) = false := by simp at h3; simp; omega
        clear e1 h3
        generalize b % 2 = r at *
        by_cases h6 : h ≤ 64
        · go_enter Try.func123, Try.ntmps123
          go_wp2
          go_ret
          exact Grew.intro rfl below_auto
        · go_enter Try.func123, Try.ntmps123
          go_wp2
          go_ret
          exact Grew.intro rfl below_auto
      · have h3' : (((b % 2 : Nat) : Int) == 1) = true := by simp at h3; simp; omega
        have L := Lib.hid (fun W => Len64_any b W hb)
        by_cases h6 : h ≤ 64
        · have e1 : mayW h b = decide ((bl b : Int) ≤ h) := by
            unfold mayW; rw [if_neg h1, show min h 64 = h by omega]; simp [h2, h3]
          rw [e1]
          clear e1 h3
          generalize bl b = n at *
          generalize b % 2 = r at *
          go_enter Try.func123, Try.ntmps123
          go_wp2_with (go_at_call 124; refine (L.out _).mono ?_; rintro e w' ⟨rfl, rfl⟩)
          go_ret
          exact Grew.intro (eB (decide_eq_decide.2 (by omega))) below_auto
        · have e1 : mayW h b = decide ((bl b : Int) ≤ 64) := by
            unfold mayW; rw [if_neg h1, show min h 64 = 64 by omega]; simp [h2, h3]
          rw [e1]
          clear e1 h3
          generalize bl b = n at *
          generalize b % 2 = r at *
          go_enter Try.func123, Try.ntmps123
          go_wp2_with (go_at_call 124; refine (L.out _).mono ?_; rintro e w' ⟨rfl, rfl⟩)
          go_ret
          exact Grew.intro (eB (decide_eq_decide.2 (by omega))) below_auto
    · have e1 : mayW h b = false := by simp [mayW, h1, h2]
      rw [e1]
      have h6 : ¬ h ≤ 64 := by omega
      clear e1
      go_enter Try.func123, Try.ntmps123
      go_wp2
      go_ret
      exact Grew.intro rfl below_auto

/-- what is answered for a number -/
def judgeE (h : Int) (b : Nat) (id : Int) : Int :=
  if mayW h b = false then 5 else if inB id 1 1048575 = false then 2 else if 64 ≤ h - id then 13 else if 0 ≤ h - id ∧ b.testBit (h - id).toNat = true then 14 else 0
theorem mayW_bd {h : Int} {b : Nat} (hm : mayW h b = true) : 0 ≤ h ∧ h ≤ 1048575 ∧ (h = 0 → b = 0) := by
  unfold mayW at hm
  split at hm
  · simp at hm; omega
  · simp at hm; omega
end Go.Proofs.Ytenoigmkhlnfoaa
