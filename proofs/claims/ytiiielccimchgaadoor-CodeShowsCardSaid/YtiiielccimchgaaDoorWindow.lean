/- window.may, window.Judge and their references -/
import Derived.Test.YtiiielccimchgaaDoorWin
import Derived.Test.YtiiielccimchgaaDoorSlice
import Derived.Test.YtiiielccimchgaaDoorShelf
import Derived.Laws.BitsAllLaws
namespace Go.Proofs.YtiiielccimchgaaDoor
open Go.RowKit
set_option maxRecDepth 20000

/-- a window as a value -/
abbrev WinV (h : Int) (b : Nat) : Value := .agg #[I h, .int .u64 b]
theorem and1 (b : Nat) (hb : b < 18446744073709551616) : bits .and .u64 (b : Int) 1 = ((b % 2 : Nat) : Int) := by
  have := u64_and_nat b 1 hb (by decide)
  rw [Nat.and_one_is_mod] at this
  exact this

theorem Len64_any (b : Nat) (w : World) (hb : b < 18446744073709551616) : Calls Tryd.prog 56 #[.int .u64 b] w (Pure (I (bl b)) w) := by
  refine (Tryd.bits_Len64 (b : Int) w (by omega) (by omega)).mono ?_
  rintro e w' ⟨rfl, rfl⟩
  exact Pure.intro rfl

set_option maxHeartbeats 1000000 in
theorem may_any (h : Int) (b : Nat) (w : World) (hb : b < 18446744073709551616) : Calls Tryd.prog 55 #[WinV h b] w (Grew (.bool (mayW h b)) w) := by
  have ha := and1 b hb
  by_cases h1 : h < 1
  · have e1 : mayW h b = (h == 0 && b == 0) := by simp [mayW, h1]
    rw [e1]
    clear e1
    go_enter Tryd.func55, Tryd.ntmps55
    go_wp2
    all_goals
      go_ret
      exact Grew.intro (eB (by simp [*])) (by repeat first | exact Below.refl _ _ | assumption | refine drewN_below ?_ _ | refine Below.alloc ?_ (by first | exact Nat.le_refl _ | exact Below.size (by assumption) | (simp; done) | (simp; omega) | omega) _ | refine Below.setCell ?_ (by first | exact Nat.le_refl _ | (simp; done) | (simp; omega) | omega) _)
  · have h1' : (h < 1) = False := by simp [h1]
    by_cases h2 : h ≤ 1048575
    · cases h3 : (b % 2 == 1)
      · have e1 : mayW h b = false := by simp [mayW, h1, h3]
        rw [e1]
        have h3' : (((b % 2 : Nat) : Int) == 1) = false := by simp at h3; simp; omega
        clear e1 h3
        generalize b % 2 = r at *
        by_cases h6 : h ≤ 64
        · go_enter Tryd.func55, Tryd.ntmps55
          go_wp2
          go_ret
          exact Grew.intro rfl (by repeat first | exact Below.refl _ _ | assumption | refine drewN_below ?_ _ | refine Below.alloc ?_ (by first | exact Nat.le_refl _ | exact Below.size (by assumption) | (simp; done) | (simp; omega) | omega) _ | refine Below.setCell ?_ (by first | exact Nat.le_refl _ | (simp; done) | (simp; omega) | omega) _)
        · go_enter Tryd.func55, Tryd.ntmps55
          go_wp2
          go_ret
          exact Grew.intro rfl (by repeat first | exact Below.refl _ _ | assumption | refine drewN_below ?_ _ | refine Below.alloc ?_ (by first | exact Nat.le_refl _ | exact Below.size (by assumption) | (simp; done) | (simp; omega) | omega) _ | refine Below.setCell ?_ (by first | exact Nat.le_refl _ | (simp; done) | (simp; omega) | omega) _)
      · have h3' : (((b % 2 : Nat) : Int) == 1) = true := by simp at h3; simp; omega
        have L := Lib.hid (fun W => Len64_any b W hb)
        by_cases h6 : h ≤ 64
        · have e1 : mayW h b = decide ((bl b : Int) ≤ h) := by
            unfold mayW; rw [if_neg h1, show min h 64 = h by omega]; simp [h2, h3]
          rw [e1]
          clear e1 h3
          generalize bl b = n at *
          generalize b % 2 = r at *
          go_enter Tryd.func55, Tryd.ntmps55
          go_wp2_with (go_at_call 56; refine (L.out _).mono ?_; rintro e w' ⟨rfl, rfl⟩)
          go_ret
          exact Grew.intro (eB (decide_eq_decide.2 (by omega))) (by repeat first | exact Below.refl _ _ | assumption | refine drewN_below ?_ _ | refine Below.alloc ?_ (by first | exact Nat.le_refl _ | exact Below.size (by assumption) | (simp; done) | (simp; omega) | omega) _ | refine Below.setCell ?_ (by first | exact Nat.le_refl _ | (simp; done) | (simp; omega) | omega) _)
        · have e1 : mayW h b = decide ((bl b : Int) ≤ 64) := by
            unfold mayW; rw [if_neg h1, show min h 64 = 64 by omega]; simp [h2, h3]
          rw [e1]
          clear e1 h3
          generalize bl b = n at *
          generalize b % 2 = r at *
          go_enter Tryd.func55, Tryd.ntmps55
          go_wp2_with (go_at_call 56; refine (L.out _).mono ?_; rintro e w' ⟨rfl, rfl⟩)
          go_ret
          exact Grew.intro (eB (decide_eq_decide.2 (by omega))) (by repeat first | exact Below.refl _ _ | assumption | refine drewN_below ?_ _ | refine Below.alloc ?_ (by first | exact Nat.le_refl _ | exact Below.size (by assumption) | (simp; done) | (simp; omega) | omega) _ | refine Below.setCell ?_ (by first | exact Nat.le_refl _ | (simp; done) | (simp; omega) | omega) _)
    · have e1 : mayW h b = false := by simp [mayW, h1, h2]
      rw [e1]
      have h6 : ¬ h ≤ 64 := by omega
      clear e1
      go_enter Tryd.func55, Tryd.ntmps55
      go_wp2
      go_ret
      exact Grew.intro rfl (by repeat first | exact Below.refl _ _ | assumption | refine drewN_below ?_ _ | refine Below.alloc ?_ (by first | exact Nat.le_refl _ | exact Below.size (by assumption) | (simp; done) | (simp; omega) | omega) _ | refine Below.setCell ?_ (by first | exact Nat.le_refl _ | (simp; done) | (simp; omega) | omega) _)

/-- what is answered for a number -/
def judgeE (h : Int) (b : Nat) (id : Int) : Int :=
  if mayW h b = false then 5 else if inB id 1 1048575 = false then 2 else if 64 ≤ h - id then 13 else if 0 ≤ h - id ∧ b.testBit (h - id).toNat = true then 14 else 0
theorem mayW_bd {h : Int} {b : Nat} (hm : mayW h b = true) : 0 ≤ h ∧ h ≤ 1048575 ∧ (h = 0 → b = 0) := by
  unfold mayW at hm
  split at hm
  · simp at hm; omega
  · simp at hm; omega
theorem shr_bit (b k : Nat) : b / 2 ^ k % 2 = if b.testBit k then 1 else 0 := by
  rw [Nat.testBit_eq_decide_div_mod_eq]
  by_cases h : b / 2 ^ k % 2 = 1
  · simp [h]
  · simp [h]; omega

theorem shr_and {b : Nat} (n : Nat) (hb : b < 18446744073709551616) : bits .and .u64 ((b : Int) / 2 ^ n) 1 = if b.testBit n then 1 else 0 := by
  have e : (b : Int) / 2 ^ n = ((b / 2 ^ n : Nat) : Int) := by
    rw [Int.natCast_ediv, Int.natCast_pow]; rfl
  rw [e, and1 _ (Nat.lt_of_le_of_lt (Nat.div_le_self _ _) hb), shr_bit]
  split <;> rfl

set_option maxHeartbeats 1000000 in
theorem bitAt_any (b k : Nat) (w : World) (hb : b < 18446744073709551616) (hk : k ≤ 1000) : Calls Tryd.prog 63 #[.int .u64 b, I k] w (Pure (.bool (b.testBit k)) w) := by
  go_enter Tryd.func63, Tryd.ntmps63
  go_wp2
  go_loop [0, 5] (fun x i => ∃ j : Nat, j ≤ k ∧ i = I j ∧ x = .int .u64 ((b / 2 ^ j : Nat) : Int)) (fun _ i => k - (intOf i).toNat)
  case atStart => exact ⟨0, Nat.zero_le _, rfl, by simp⟩
  case round =>
    obtain ⟨j, hj, rfl, rfl⟩ := hrel
    have hs := Lib.hid (show b / 2 ^ (j + 1) = b / 2 ^ j / 2 by rw [Nat.pow_succ, Nat.div_div_eq_div_mul])
    have hlt64 : b / 2 ^ j < 18446744073709551616 := Nat.lt_of_le_of_lt (Nat.div_le_self _ _) hb
    have ht := Lib.hid (shr_bit b j)
    generalize b / 2 ^ j = x at *
    by_cases hlt : j < k
    · go_wp2
      exact ⟨⟨j + 1, by omega, by go_num, by rw [hs.out]; go_num⟩, by simp [intOf]; omega⟩
    · have hjk : j = k := by omega
      subst hjk
      go_wp2
      go_ret
      refine Pure.intro (eB ?_)
      have := ht.out
      cases hb2 : b.testBit j
      · rw [hb2] at this; simp at this; simp; omega
      · rw [hb2] at this; simp at this; simp; omega
end Go.Proofs.YtiiielccimchgaaDoor
