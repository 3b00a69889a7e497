/- what is wrong with what is asked of a tariff: the program, the reference -/
import Derived.Test.YtcpljkjibhindaaTariffCheck
namespace Go.Proofs.Ytcpljkjibhindaa
open Go.RowKit
set_option maxRecDepth 20000

def unitsE (xs : List AStep) (a u : Int) : Int := if tariffE xs = 0 then (if 0 ≤ a ∧ a ≤ 10000000 ∧ 0 ≤ u ∧ u ≤ 2097151 ∧ a + u ≤ 10000000 then 0 else 2) else tariffE xs
theorem unitsE_two {xs : List AStep} {a u : Int} (hT : tariffE xs = 0) (h : ¬ (0 ≤ a ∧ a ≤ 10000000 ∧ 0 ≤ u ∧ u ≤ 2097151 ∧ a + u ≤ 10000000)) : unitsE xs a u = 2 := by rw [unitsE, if_pos hT, if_neg h]
theorem unitsE_zero {xs : List AStep} {a u : Int} (hT : tariffE xs = 0) (h : 0 ≤ a ∧ a ≤ 10000000 ∧ 0 ≤ u ∧ u ≤ 2097151 ∧ a + u ≤ 10000000) : unitsE xs a u = 0 := by rw [unitsE, if_pos hT, if_pos h]
theorem unitsE_bad {xs : List AStep} {a u : Int} (hT : tariffE xs ≠ 0) : unitsE xs a u = tariffE xs := by rw [unitsE, if_neg hT]
theorem unitsE_ok {xs : List AStep} {a u : Int} (h : unitsE xs a u = 0) : tariffE xs = 0 ∧ 0 ≤ a ∧ a ≤ 10000000 ∧ 0 ≤ u ∧ u ≤ 2097151 ∧ a + u ≤ 10000000 := by
  unfold unitsE at h
  split at h
  · split at h
    · exact ⟨by assumption, by assumption⟩
    · omega
  · contradiction
set_option maxHeartbeats 2000000 in
theorem asked_any (v : Value) (xs : List AStep) (a u : Int) (w : World) (h : Sl w v 2 xs.length (xs.flatMap AStep.cells)) :
    Calls Try.prog 50 #[v, I a, I u] w (Grew (I (unitsE xs a u)) w) := by
  have T := Lib.hid (fun W hW => CheckT_any v xs W hW)
  by_cases hT : tariffE xs = 0
  · rw [hT] at T
    by_cases q1 : a < 0
    · rw [unitsE_two hT (by omega)]
      clear hT
      go_enter Try.func50, Try.ntmps50
      go_wp2_with fail
      refine (T.out _ h).mono ?_
      rintro e w1 ⟨rfl, k1⟩
      go_wp2
      go_ret
      exact Grew.intro rfl (by repeat first | exact Below.refl _ _ | assumption | refine drewN_below ?_ _ | refine Below.alloc ?_ (by first | exact Nat.le_refl _ | exact Below.size (by assumption) | (simp; done) | (simp; omega) | omega) _ | refine Below.setCell ?_ (by first | exact Nat.le_refl _ | (simp; done) | (simp; omega) | omega) _)
    by_cases q2 : 10000000 < a
    · rw [unitsE_two hT (by omega)]
      clear hT
      go_enter Try.func50, Try.ntmps50
      go_wp2_with fail
      refine (T.out _ h).mono ?_
      rintro e w1 ⟨rfl, k1⟩
      go_wp2
      go_ret
      exact Grew.intro rfl (by repeat first | exact Below.refl _ _ | assumption | refine drewN_below ?_ _ | refine Below.alloc ?_ (by first | exact Nat.le_refl _ | exact Below.size (by assumption) | (simp; done) | (simp; omega) | omega) _ | refine Below.setCell ?_ (by first | exact Nat.le_refl _ | (simp; done) | (simp; omega) | omega) _)
    by_cases q3 : u < 0
    · rw [unitsE_two hT (by omega)]
      clear hT
      go_enter Try.func50, Try.ntmps50
      go_wp2_with fail
      refine (T.out _ h).mono ?_
      rintro e w1 ⟨rfl, k1⟩
      go_wp2
      go_ret
      exact Grew.intro rfl (by repeat first | exact Below.refl _ _ | assumption | refine drewN_below ?_ _ | refine Below.alloc ?_ (by first | exact Nat.le_refl _ | exact Below.size (by assumption) | (simp; done) | (simp; omega) | omega) _ | refine Below.setCell ?_ (by first | exact Nat.le_refl _ | (simp; done) | (simp; omega) | omega) _)
    by_cases q4 : 2097151 < u
    · rw [unitsE_two hT (by omega)]
      clear hT
      go_enter Try.func50, Try.ntmps50
      go_wp2_with fail
      refine (T.out _ h).mono ?_
      rintro e w1 ⟨rfl, k1⟩
      go_wp2
      go_ret
      exact Grew.intro rfl (by repeat first | exact Below.refl _ _ | assumption | refine drewN_below ?_ _ | refine Below.alloc ?_ (by first | exact Nat.le_refl _ | exact Below.size (by assumption) | (simp; done) | (simp; omega) | omega) _ | refine Below.setCell ?_ (by first | exact Nat.le_refl _ | (simp; done) | (simp; omega) | omega) _)
    have hw : IntKind.i64.wrap (a + u) = a + u := wrap_small _ (by omega) (by omega)
    by_cases q5 : 10000000 < a + u
    · rw [unitsE_two hT (by omega)]
      clear hT
      go_enter Try.func50, Try.ntmps50
      go_wp2_with fail
      refine (T.out _ h).mono ?_
      rintro e w1 ⟨rfl, k1⟩
      go_wp2
      go_ret
      exact Grew.intro rfl (by repeat first | exact Below.refl _ _ | assumption | refine drewN_below ?_ _ | refine Below.alloc ?_ (by first | exact Nat.le_refl _ | exact Below.size (by assumption) | (simp; done) | (simp; omega) | omega) _ | refine Below.setCell ?_ (by first | exact Nat.le_refl _ | (simp; done) | (simp; omega) | omega) _)
    · rw [unitsE_zero hT (by omega)]
      clear hT
      go_enter Try.func50, Try.ntmps50
      go_wp2_with fail
      refine (T.out _ h).mono ?_
      rintro e w1 ⟨rfl, k1⟩
      go_wp2
      go_ret
      exact Grew.intro rfl (by repeat first | exact Below.refl _ _ | assumption | refine drewN_below ?_ _ | refine Below.alloc ?_ (by first | exact Nat.le_refl _ | exact Below.size (by assumption) | (simp; done) | (simp; omega) | omega) _ | refine Below.setCell ?_ (by first | exact Nat.le_refl _ | (simp; done) | (simp; omega) | omega) _)
  · rw [unitsE_bad hT]
    generalize tariffE xs = r at *
    have q1 := hT
    clear hT
    go_enter Try.func50, Try.ntmps50
    go_wp2_with fail
    refine (T.out _ h).mono ?_
    rintro e w1 ⟨rfl, k1⟩
    go_wp2
    go_ret
    exact Grew.intro rfl (by repeat first | exact Below.refl _ _ | assumption | refine drewN_below ?_ _ | refine Below.alloc ?_ (by first | exact Nat.le_refl _ | exact Below.size (by assumption) | (simp; done) | (simp; omega) | omega) _ | refine Below.setCell ?_ (by first | exact Nat.le_refl _ | (simp; done) | (simp; omega) | omega) _)
set_option maxHeartbeats 2000000 in
theorem UnitsMay_any (v : Value) (xs : List AStep) (a u : Int) (w : World) (h : Sl w v 2 xs.length (xs.flatMap AStep.cells)) :
    Calls Try.prog 52 #[v, I a, I u] w (Grew (I (unitsE xs a u)) w) := by
  have T := Lib.hid (fun W hW => TariffFault_any v xs W hW)
  by_cases hT : tariffE xs = 0
  · rw [hT] at T
    cases p1 : inB a 0 10000000
    · rw [unitsE_two hT (by have := inB_false.1 p1; omega)]
      clear hT
      go_enter Try.func52, Try.ntmps52
      go_wp2_with fail
      refine (T.out _ h).mono ?_
      rintro e w1 ⟨rfl, k1⟩
      go_wp2_with (go_at_call 49; refine (In_any _ _ _ _).mono ?_; rintro e w' ⟨rfl, rfl⟩)
      go_ret
      exact Grew.intro rfl (by repeat first | exact Below.refl _ _ | assumption | refine drewN_below ?_ _ | refine Below.alloc ?_ (by first | exact Nat.le_refl _ | exact Below.size (by assumption) | (simp; done) | (simp; omega) | omega) _ | refine Below.setCell ?_ (by first | exact Nat.le_refl _ | (simp; done) | (simp; omega) | omega) _)
    cases p2 : inB u 0 2097151
    · rw [unitsE_two hT (by have := inB_false.1 p2; omega)]
      clear hT
      go_enter Try.func52, Try.ntmps52
      go_wp2_with fail
      refine (T.out _ h).mono ?_
      rintro e w1 ⟨rfl, k1⟩
      go_wp2_with (go_at_call 49; refine (In_any _ _ _ _).mono ?_; rintro e w' ⟨rfl, rfl⟩)
      go_ret
      exact Grew.intro rfl (by repeat first | exact Below.refl _ _ | assumption | refine drewN_below ?_ _ | refine Below.alloc ?_ (by first | exact Nat.le_refl _ | exact Below.size (by assumption) | (simp; done) | (simp; omega) | omega) _ | refine Below.setCell ?_ (by first | exact Nat.le_refl _ | (simp; done) | (simp; omega) | omega) _)
    obtain ⟨a0, a1⟩ := inB_true.1 p1
    obtain ⟨u0, u1⟩ := inB_true.1 p2
    have hw : IntKind.i64.wrap (a + u) = a + u := wrap_small _ (by omega) (by omega)
    by_cases q5 : 10000000 < a + u
    · rw [unitsE_two hT (by omega)]
      clear a0 a1 u0 u1
      clear hT
      go_enter Try.func52, Try.ntmps52
      go_wp2_with fail
      refine (T.out _ h).mono ?_
      rintro e w1 ⟨rfl, k1⟩
      go_wp2_with (go_at_call 49; refine (In_any _ _ _ _).mono ?_; rintro e w' ⟨rfl, rfl⟩)
      go_ret
      exact Grew.intro rfl (by repeat first | exact Below.refl _ _ | assumption | refine drewN_below ?_ _ | refine Below.alloc ?_ (by first | exact Nat.le_refl _ | exact Below.size (by assumption) | (simp; done) | (simp; omega) | omega) _ | refine Below.setCell ?_ (by first | exact Nat.le_refl _ | (simp; done) | (simp; omega) | omega) _)
    · rw [unitsE_zero hT (by omega)]
      clear a0 a1 u0 u1
      clear hT
      go_enter Try.func52, Try.ntmps52
      go_wp2_with fail
      refine (T.out _ h).mono ?_
      rintro e w1 ⟨rfl, k1⟩
      go_wp2_with (go_at_call 49; refine (In_any _ _ _ _).mono ?_; rintro e w' ⟨rfl, rfl⟩)
      go_ret
      exact Grew.intro rfl (by repeat first | exact Below.refl _ _ | assumption | refine drewN_below ?_ _ | refine Below.alloc ?_ (by first | exact Nat.le_refl _ | exact Below.size (by assumption) | (simp; done) | (simp; omega) | omega) _ | refine Below.setCell ?_ (by first | exact Nat.le_refl _ | (simp; done) | (simp; omega) | omega) _)
  · rw [unitsE_bad hT]
    generalize tariffE xs = r at *
    have q1 := hT
    clear hT
    go_enter Try.func52, Try.ntmps52
    go_wp2_with fail
    refine (T.out _ h).mono ?_
    rintro e w1 ⟨rfl, k1⟩
    go_wp2_with (go_at_call 49; refine (In_any _ _ _ _).mono ?_; rintro e w' ⟨rfl, rfl⟩)
    go_ret
    exact Grew.intro rfl (by repeat first | exact Below.refl _ _ | assumption | refine drewN_below ?_ _ | refine Below.alloc ?_ (by first | exact Nat.le_refl _ | exact Below.size (by assumption) | (simp; done) | (simp; omega) | omega) _ | refine Below.setCell ?_ (by first | exact Nat.le_refl _ | (simp; done) | (simp; omega) | omega) _)
end Go.Proofs.Ytcpljkjibhindaa
