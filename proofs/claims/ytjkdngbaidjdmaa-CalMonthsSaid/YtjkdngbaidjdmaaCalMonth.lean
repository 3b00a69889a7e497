/- calendar.Month, Days and their references -/
import Derived.Test.YtjkdngbaidjdmaaCalDate
namespace Go.Proofs.Ytjkdngbaidjdmaa
open Go.RowKit
set_option maxRecDepth 20000

def monthI (day : Int) : Int := if dateOk day then (kOf day : Int) else 0
theorem Month_any (day : Int) (w : World) : Calls Try.prog 21 #[I day] w (Grew (T2 (I (monthI day)) (I (dateE day))) w) := by
  by_cases h : inB day 0 73048 = true
  · obtain ⟨h0, h1⟩ := inB_true.1 h
    have hV : dateV day = ⟨2000 + (kOf day : Int) / 12, (kOf day : Int) % 12 + 1, day - cum (kOf day) + 1⟩ := by simp [dateV, dateOk, h]
    have hE : dateE day = 0 := by simp [dateE, dateOk, h]
    have hM : monthI day = (kOf day : Int) := by simp [monthI, dateOk, h]
    obtain ⟨k1, k2, k3⟩ := kOf_bd day h0 h1
    rw [hM, hE]
    have HV := Lib.hid hV
    have HE := Lib.hid hE
    clear hV hE hM
    go_enter Try.func21, Try.ntmps21
    go_wp2_with fail
    refine (DateOf_any _ _).mono ?_
    rintro e w1 ⟨rfl, k1⟩
    rw [dateT, HV.out, HE.out]
    go_wp2
    go_ret2
    exact Grew.intro (eI2 (by omega) rfl) (by repeat first | exact Below.refl _ _ | assumption | refine drewN_below ?_ _ | refine Below.alloc ?_ (by first | exact Nat.le_refl _ | exact Below.size (by assumption) | (simp; done) | (simp; omega) | omega) _ | refine Below.setCell ?_ (by first | exact Nat.le_refl _ | (simp; done) | (simp; omega) | omega) _)
  · simp only [Bool.not_eq_true] at h
    have hE : dateE day = 2 := by simp [dateE, dateOk, h]
    have hM : monthI day = 0 := by simp [monthI, dateOk, h]
    rw [hM, hE]
    have HE := Lib.hid hE
    clear hE hM
    go_enter Try.func21, Try.ntmps21
    go_wp2_with fail
    refine (DateOf_any _ _).mono ?_
    rintro e w1 ⟨rfl, k1⟩
    rw [dateT, HE.out]
    go_wp2
    go_ret2
    exact Grew.intro rfl (by repeat first | exact Below.refl _ _ | assumption | refine drewN_below ?_ _ | refine Below.alloc ?_ (by first | exact Nat.le_refl _ | exact Below.size (by assumption) | (simp; done) | (simp; omega) | omega) _ | refine Below.setCell ?_ (by first | exact Nat.le_refl _ | (simp; done) | (simp; omega) | omega) _)

theorem MonthOf_any (day : Int) (w : World) : Calls Try.prog 22 #[I day] w (Pure (T2 (I (monthI day)) (I (dateE day))) w) := by
  by_cases h : inB day 0 73048 = true
  · obtain ⟨h0, h1⟩ := inB_true.1 h
    have hE : dateE day = 0 := by simp [dateE, dateOk, h]
    have hM : monthI day = (kOf day : Int) := by simp [monthI, dateOk, h]
    rw [hM, hE]
    clear hE hM
    go_enter Try.func22, Try.ntmps22
    go_wp2_with (first | (go_at_call 46; refine (In_any _ _ _ _).mono ?_; rintro e w' ⟨rfl, rfl⟩) | (go_at_call 49; refine (monthFrom_any _ h0 h1 _).mono ?_; rintro e w' ⟨rfl, rfl⟩))
    go_ret2
    exact Pure.intro rfl
  · simp only [Bool.not_eq_true] at h
    have hE : dateE day = 2 := by simp [dateE, dateOk, h]
    have hM : monthI day = 0 := by simp [monthI, dateOk, h]
    rw [hM, hE]
    clear hE hM
    go_enter Try.func22, Try.ntmps22
    go_wp2_with (go_at_call 46; refine (In_any _ _ _ _).mono ?_; rintro e w' ⟨rfl, rfl⟩)
    go_ret2
    exact Pure.intro rfl

def spanOk (m : Int) : Bool := inB m 0 2399
def spanA (m : Int) : Int := if spanOk m then dayI (2000 + m / 12) (m % 12 + 1) 1 else 0
def spanB (m : Int) : Int := if spanOk m then dayI (2000 + m / 12) (m % 12 + 1) 1 + mlen (2000 + m / 12) (m % 12 + 1) - 1 else 0
def spanE (m : Int) : Int := if spanOk m then 0 else 2
theorem dayI_bd (y m d : Int) : -1 ≤ dayI y m d ∧ dayI y m d ≤ 100000 := by
  unfold dayI
  split
  · rename_i h
    simp only [dayOk, Bool.and_eq_true, inB_true] at h
    have := cum_bd (monthNo y m)
    have := mlen_bd y m
    have : monthNo y m ≤ 2400 := by unfold monthNo; omega
    omega
  · omega

theorem Days_any (m : Int) (w : World) : Calls Try.prog 17 #[I m] w (Grew (T3 (I (spanA m)) (I (spanB m)) (I (spanE m))) w) := by
  by_cases h : inB m 0 2399 = true
  · obtain ⟨h0, h1⟩ := inB_true.1 h
    have hA : spanA m = dayI (2000 + m / 12) (m % 12 + 1) 1 := by simp [spanA, spanOk, h]
    have hB : spanB m = dayI (2000 + m / 12) (m % 12 + 1) 1 + mlen (2000 + m / 12) (m % 12 + 1) - 1 := by simp [spanB, spanOk, h]
    have hE : spanE m = 0 := by simp [spanE, spanOk, h]
    rw [hA, hB, hE]
    clear hA hB hE
    have hd := dayI_bd (2000 + m / 12) (m % 12 + 1) 1
    have hm := mlen_bd (2000 + m / 12) (m % 12 + 1)
    go_enter Try.func17, Try.ntmps17
    go_wp2_with fail
    refine (Day_any _ _ _ _).mono ?_
    rintro e w1 ⟨rfl, k1⟩
    go_wp2_with (go_at_call 44; refine (long_any _ _ (by omega) (by omega) (by omega) (by omega) _).mono ?_; rintro e w' ⟨rfl, rfl⟩)
    go_ret3
    exact Grew.intro rfl (by repeat first | exact Below.refl _ _ | assumption | refine drewN_below ?_ _ | refine Below.alloc ?_ (by first | exact Nat.le_refl _ | exact Below.size (by assumption) | (simp; done) | (simp; omega) | omega) _ | refine Below.setCell ?_ (by first | exact Nat.le_refl _ | (simp; done) | (simp; omega) | omega) _)
  · simp only [Bool.not_eq_true] at h
    have hA : spanA m = 0 := by simp [spanA, spanOk, h]
    have hB : spanB m = 0 := by simp [spanB, spanOk, h]
    have hE : spanE m = 2 := by simp [spanE, spanOk, h]
    rw [hA, hB, hE]
    clear hA hB hE
    have h' := inB_false.1 h
    by_cases hn : m < 0
    · clear h h'
      go_enter Try.func17, Try.ntmps17
      go_wp2
      go_ret3
      exact Grew.intro rfl (by repeat first | exact Below.refl _ _ | assumption | refine drewN_below ?_ _ | refine Below.alloc ?_ (by first | exact Nat.le_refl _ | exact Below.size (by assumption) | (simp; done) | (simp; omega) | omega) _ | refine Below.setCell ?_ (by first | exact Nat.le_refl _ | (simp; done) | (simp; omega) | omega) _)
    · have hn2 : 2399 < m := by omega
      clear h h'
      go_enter Try.func17, Try.ntmps17
      go_wp2
      go_ret3
      exact Grew.intro rfl (by repeat first | exact Below.refl _ _ | assumption | refine drewN_below ?_ _ | refine Below.alloc ?_ (by first | exact Nat.le_refl _ | exact Below.size (by assumption) | (simp; done) | (simp; omega) | omega) _ | refine Below.setCell ?_ (by first | exact Nat.le_refl _ | (simp; done) | (simp; omega) | omega) _)

theorem DaysOf_any (m : Int) (w : World) : Calls Try.prog 18 #[I m] w (Grew (T3 (I (spanA m)) (I (spanB m)) (I (spanE m))) w) := by
  by_cases h : inB m 0 2399 = true
  · obtain ⟨h0, h1⟩ := inB_true.1 h
    have hA : spanA m = dayI (2000 + m / 12) (m % 12 + 1) 1 := by simp [spanA, spanOk, h]
    have hB : spanB m = dayI (2000 + m / 12) (m % 12 + 1) 1 + mlen (2000 + m / 12) (m % 12 + 1) - 1 := by simp [spanB, spanOk, h]
    have hE : spanE m = 0 := by simp [spanE, spanOk, h]
    rw [hA, hB, hE]
    clear hA hB hE
    have hd := dayI_bd (2000 + m / 12) (m % 12 + 1) 1
    have hm := mlen_bd (2000 + m / 12) (m % 12 + 1)
    go_enter Try.func18, Try.ntmps18
    go_wp2_with (go_at_call 46; refine (In_any _ _ _ _).mono ?_; rintro e w' ⟨rfl, rfl⟩)
    refine (DayOf_any _ _ _ _).mono ?_
    rintro e w1 ⟨rfl, k1⟩
    obtain ⟨hc1, _⟩ := bcell k1
    go_wp2_with (go_at_call 47; refine (monthLong_any _ _ (by omega) (by omega) _).mono ?_; rintro e w' ⟨rfl, rfl⟩)
    go_ret3
    exact Grew.intro rfl (below_box k1)
  · simp only [Bool.not_eq_true] at h
    have hA : spanA m = 0 := by simp [spanA, spanOk, h]
    have hB : spanB m = 0 := by simp [spanB, spanOk, h]
    have hE : spanE m = 2 := by simp [spanE, spanOk, h]
    rw [hA, hB, hE]
    clear hA hB hE
    go_enter Try.func18, Try.ntmps18
    go_wp2_with (go_at_call 46; refine (In_any _ _ _ _).mono ?_; rintro e w' ⟨rfl, rfl⟩)
    go_ret3
    exact Grew.intro rfl (by repeat first | exact Below.refl _ _ | assumption | refine drewN_below ?_ _ | refine Below.alloc ?_ (by first | exact Nat.le_refl _ | exact Below.size (by assumption) | (simp; done) | (simp; omega) | omega) _ | refine Below.setCell ?_ (by first | exact Nat.le_refl _ | (simp; done) | (simp; omega) | omega) _)
end Go.Proofs.Ytjkdngbaidjdmaa
