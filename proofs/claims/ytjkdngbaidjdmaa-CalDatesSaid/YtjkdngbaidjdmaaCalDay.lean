/- calendar.Day and its reference -/
import Derived.Test.YtjkdngbaidjdmaaCal
namespace Go.Proofs.Ytjkdngbaidjdmaa
open Go.RowKit
set_option maxRecDepth 20000

def dayOk (y m d : Int) : Bool := inB y 2000 2199 && inB m 1 12 && inB d 1 (mlen y m)
/-- the number of a date's month -/
def monthNo (y m : Int) : Nat := ((y - 2000) * 12 + m - 1).toNat
def dayI (y m d : Int) : Int := if dayOk y m d then cum (monthNo y m) + d - 1 else 0
def dayE (y m d : Int) : Int := if dayOk y m d then 0 else 2

theorem Day_any (y m d : Int) (w : World) : Calls Try.prog 15 #[.agg #[I y, I m, I d]] w (Grew (T2 (I (dayI y m d)) (I (dayE y m d))) w) := by
  by_cases hy : inB y 2000 2199 = true
  · obtain ⟨y0, y1⟩ := inB_true.1 hy
    by_cases m0 : m < 1
    · have hok : dayOk y m d = false := by have : inB m 1 12 = false := inB_false.2 (by omega); simp [dayOk, this]
      simp only [dayI, dayE, hok]
      clear hok
      go_enter Try.func15, Try.ntmps15
      go_wp2
      go_quiet ((first | (go_at_call 43; exact Calls.quiet_of_same (Pure.quiet (known_any _ _))) | (go_at_call 44; exact Calls.quiet_of_same (Pure.quiet (long_any _ _ (by omega) (by omega) (by omega) (by omega) _)))))
      go_wp2
      go_ret2
      exact Grew.intro rfl (drewN_below (boxed_below _ _) _)
    · by_cases m1 : 12 < m
      · have hok : dayOk y m d = false := by have : inB m 1 12 = false := inB_false.2 (by omega); simp [dayOk, this]
        simp only [dayI, dayE, hok]
        have hd : decide (m < 1) = false := by simp; omega
        clear hok
        go_enter Try.func15, Try.ntmps15
        go_wp2
        go_quiet ((first | (go_at_call 43; exact Calls.quiet_of_same (Pure.quiet (known_any _ _))) | (go_at_call 44; exact Calls.quiet_of_same (Pure.quiet (long_any _ _ (by omega) (by omega) (by omega) (by omega) _)))))
        go_wp2
        go_ret2
        exact Grew.intro rfl (drewN_below (boxed_below _ _) _)
      · have hm : inB m 1 12 = true := inB_true.2 (by omega)
        have hd : decide (m < 1) = false := by simp; omega
        have hd1 : decide (12 < m) = false := by simp; omega
        by_cases d0 : d < 1
        · have hok : dayOk y m d = false := by have : inB d 1 (mlen y m) = false := inB_false.2 (by omega); simp [dayOk, this]
          simp only [dayI, dayE, hok]
          clear hok
          go_enter Try.func15, Try.ntmps15
          go_wp2
          go_quiet ((first | (go_at_call 43; exact Calls.quiet_of_same (Pure.quiet (known_any _ _))) | (go_at_call 44; exact Calls.quiet_of_same (Pure.quiet (long_any _ _ (by omega) (by omega) (by omega) (by omega) _)))))
          go_wp2
          go_ret2
          exact Grew.intro rfl (drewN_below (boxed_below _ _) _)
        · have hd2 : decide (d < 1) = false := by simp; omega
          have hml := mlen_bd y m
          by_cases d1 : mlen y m < d
          · have hok : dayOk y m d = false := by have : inB d 1 (mlen y m) = false := inB_false.2 (by omega); simp [dayOk, this]
            simp only [dayI, dayE, hok]
            clear hok
            go_enter Try.func15, Try.ntmps15
            go_wp2
            go_quiet ((first | (go_at_call 43; exact Calls.quiet_of_same (Pure.quiet (known_any _ _))) | (go_at_call 44; exact Calls.quiet_of_same (Pure.quiet (long_any _ _ (by omega) (by omega) (by omega) (by omega) _)))))
            go_wp2
            go_ret2
            exact Grew.intro rfl (drewN_below (boxed_below _ _) _)
          · have hdd : inB d 1 (mlen y m) = true := inB_true.2 (by omega)
            have hok : dayOk y m d = true := by simp [dayOk, hy, hm, hdd]
            simp only [dayI, dayE, hok, if_true]
            have hd3 : decide (mlen y m < d) = false := by simp; omega
            clear hok hdd hm
            obtain ⟨j, hj⟩ : ∃ j : Nat, y = 2000 + (j : Int) := ⟨(y - 2000).toNat, by omega⟩
            subst hj
            obtain ⟨i, hi⟩ : ∃ i : Nat, m = (i : Int) + 1 := ⟨(m - 1).toNat, by omega⟩
            subst hi
            have hno : monthNo (2000 + (j : Int)) ((i : Int) + 1) = 12 * j + i := by unfold monthNo; omega
            rw [hno]
            clear hno
            have hca := Lib.hid (cum_ahead j)
            have h12 := cum_bd (12 * j)
            have ha := ahead_bd (2000 + (j : Int)) (by omega) (by omega)
            have ha2 := ahead_bd 2000 (by omega) (by omega)
            go_enter Try.func15, Try.ntmps15
            go_wp2
            go_quiet ((first | (go_at_call 43; exact Calls.quiet_of_same (Pure.quiet (known_any _ _))) | (go_at_call 44; exact Calls.quiet_of_same (Pure.quiet (long_any _ _ (by omega) (by omega) (by omega) (by omega) _)))))
            go_wp2
            go_quiet ((first | (go_at_call 45; exact Pure.quiet2 (ahead_any _ (by omega) (by omega) _))))
            go_wp2
            clear hy hd hd1 hd2 hd3
            rw [World.drewN_drewN]
            go_loop [4, 5] (fun n k => ∃ a : Nat, a ≤ i ∧ k = I ((a : Int) + 1) ∧ n = I (cum (12 * j + a) + d - 1)) (fun _ k => ((i : Int) + 1 - intOf k).toNat)
            case atStart => exact ⟨0, Nat.zero_le _, rfl, eI (by rw [Nat.add_zero, hca.out])⟩
            case round =>
              obtain ⟨a, hai, rfl, rfl⟩ := hrel
              have hb := cum_bd (12 * j + a)
              have hmb := mlen_bd (2000 + (j : Int)) ((a : Int) + 1)
              have hs := Lib.hid (cum_in j a (by omega))
              by_cases hlt : a < i
              · have hlt' : (a : Int) < (i : Int) := by omega
                go_wp2_with (go_at_call 44; refine (long_any _ _ (by omega) (by omega) (by omega) (by omega) _).mono ?_; rintro e w' ⟨rfl, rfl⟩)
                go_round
                case rel => exact ⟨a + 1, by omega, eI (by omega), eI (by rw [show 12 * j + (a + 1) = 12 * j + a + 1 by omega, hs.out]; omega)⟩
                case measure => simp [intOf]; omega
              · have hai' : a = i := by omega
                have Hai := Lib.hid hai'
                clear hai'
                go_wp2
                go_ret2
                exact Grew.intro (eI2 (by rw [Hai.out]) rfl) (drewN_below (boxed_below _ _) _)
  · simp only [Bool.not_eq_true] at hy
    have hok : dayOk y m d = false := by simp [dayOk, hy]
    simp only [dayI, dayE, hok]
    clear hok
    go_enter Try.func15, Try.ntmps15
    go_wp2
    go_quiet ((first | (go_at_call 43; exact Calls.quiet_of_same (Pure.quiet (known_any _ _))) | (go_at_call 44; exact Calls.quiet_of_same (Pure.quiet (long_any _ _ (by omega) (by omega) (by omega) (by omega) _)))))
    go_wp2
    go_ret2
    exact Grew.intro rfl (drewN_below (boxed_below _ _) _)


theorem DayOf_any (y m d : Int) (w : World) : Calls Try.prog 16 #[.agg #[I y, I m, I d]] w (Grew (T2 (I (dayI y m d)) (I (dayE y m d))) w) := by
  by_cases hy : inB y 2000 2199 = true
  · obtain ⟨y0, y1⟩ := inB_true.1 hy
    by_cases hm : inB m 1 12 = true
    · obtain ⟨m0, m1⟩ := inB_true.1 hm
      have hml := mlen_bd y m
      by_cases hd : inB d 1 (mlen y m) = true
      · obtain ⟨d0, d1⟩ := inB_true.1 hd
        have hok : dayOk y m d = true := by simp [dayOk, hy, hm, hd]
        simp only [dayI, dayE, hok, if_true]
        clear hok
        obtain ⟨j, hj⟩ : ∃ j : Nat, y = 2000 + (j : Int) := ⟨(y - 2000).toNat, by omega⟩
        subst hj
        obtain ⟨i, hi⟩ : ∃ i : Nat, m = (i : Int) + 1 := ⟨(m - 1).toNat, by omega⟩
        subst hi
        have hno : monthNo (2000 + (j : Int)) ((i : Int) + 1) = 12 * j + i := by unfold monthNo; omega
        rw [hno]
        clear hno
        go_enter Try.func16, Try.ntmps16
        go_wp2
        go_quiet ((first | (go_at_call 46; exact Calls.quiet_of_same (Pure.quiet (In_any _ _ _ _))) | (go_at_call 47; exact Calls.quiet_of_same (Pure.quiet (monthLong_any _ _ (by omega) (by omega) _)))))
        go_wp2
        clear hy hm hd
        go_loop [4, 5] (fun n k => ∃ a : Nat, a ≤ 12 * j + i ∧ k = I a ∧ n = I (cum a)) (fun _ k => (((12 * j + i : Nat) : Int) - intOf k).toNat)
        case atStart => exact ⟨0, Nat.zero_le _, rfl, rfl⟩
        case round =>
          obtain ⟨a, hai, rfl, rfl⟩ := hrel
          have hb := cum_bd a
          have hmb := mk_bd a
          have hmk : Hid (mlen (2000 + (a : Int) / 12) ((a : Int) % 12 + 1) = mk a) := rfl
          have hbb := mlen_bd (2000 + (a : Int) / 12) ((a : Int) % 12 + 1)
          by_cases hlt : a < 12 * j + i
          · have hlt' : (a : Int) < (2000 + (j : Int) - 2000) * 12 + ((i : Int) + 1) - 1 := by omega
            go_wp2_with (go_at_call 47; refine (monthLong_any _ _ (by omega) (by omega) _).mono ?_; rintro e w' ⟨rfl, rfl⟩)
            go_round
            case rel => exact ⟨a + 1, by omega, by go_num, eI (by simp only [cum]; rw [← hmk.out])⟩
            case measure => simp [intOf]; omega
          · have Hai := Lib.hid (show a = 12 * j + i by omega)
            go_wp2
            go_ret2
            exact Grew.intro (eI2 (by rw [Hai.out]) rfl) (drewN_below (boxed_below _ _) _)
      · simp only [Bool.not_eq_true] at hd
        have hok : dayOk y m d = false := by simp [dayOk, hd]
        simp only [dayI, dayE, hok]
        clear hok
        go_enter Try.func16, Try.ntmps16
        go_wp2
        go_quiet ((first | (go_at_call 46; exact Calls.quiet_of_same (Pure.quiet (In_any _ _ _ _))) | (go_at_call 47; exact Calls.quiet_of_same (Pure.quiet (monthLong_any _ _ (by omega) (by omega) _)))))
        go_wp2
        go_ret2
        exact Grew.intro rfl (drewN_below (boxed_below _ _) _)
    · simp only [Bool.not_eq_true] at hm
      have hok : dayOk y m d = false := by simp [dayOk, hm]
      simp only [dayI, dayE, hok]
      clear hok
      go_enter Try.func16, Try.ntmps16
      go_wp2
      go_quiet ((first | (go_at_call 46; exact Calls.quiet_of_same (Pure.quiet (In_any _ _ _ _)))))
      go_wp2
      go_ret2
      exact Grew.intro rfl (drewN_below (boxed_below _ _) _)
  · simp only [Bool.not_eq_true] at hy
    have hok : dayOk y m d = false := by simp [dayOk, hy]
    simp only [dayI, dayE, hok]
    clear hok
    go_enter Try.func16, Try.ntmps16
    go_wp2
    go_quiet ((first | (go_at_call 46; exact Calls.quiet_of_same (Pure.quiet (In_any _ _ _ _)))))
    go_wp2
    go_ret2
    exact Grew.intro rfl (drewN_below (boxed_below _ _) _)
end Go.Proofs.Ytjkdngbaidjdmaa
