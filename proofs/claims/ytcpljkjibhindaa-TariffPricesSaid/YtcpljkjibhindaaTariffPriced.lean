/- ref.Priced -/
import Derived.Test.YtcpljkjibhindaaTariffAsk
import Derived.Test.YtcpljkjibhindaaTariffCost
namespace Go.Proofs.Ytcpljkjibhindaa
open Go.RowKit
set_option maxRecDepth 20000
/-- what units cost, or 0 -/
def priceA (xs : List AStep) (a u : Int) : Int := if unitsE xs a u = 0 then costA xs a (a + u) else 0
theorem priceA_ok {xs : List AStep} {a u : Int} (h : unitsE xs a u = 0) : priceA xs a u = costA xs a (a + u) := by rw [priceA, if_pos h]
theorem priceA_err {xs : List AStep} {a u : Int} (h : unitsE xs a u ≠ 0) : priceA xs a u = 0 := by rw [priceA, if_neg h]
set_option maxHeartbeats 2000000 in
theorem Priced_any (v : Value) (xs : List AStep) (a u : Int) (w : World) (h : Sl w v 2 xs.length (xs.flatMap AStep.cells)) :
    Calls Try.prog 25 #[v, I a, I u] w (Grew (T2 (I (priceA xs a u)) (I (unitsE xs a u))) w) := by
  have T := Lib.hid (fun W hW => UnitsMay_any v xs a u W hW)
  by_cases hE : unitsE xs a u = 0
  · obtain ⟨hT, a0, a1, u0, u1, s⟩ := unitsE_ok hE
    rw [priceA_ok hE]
    rw [hE] at T ⊢
    have C := Lib.hid (fun W hW => cost_any v xs a (a + u) W hW hT a0 a1 (by omega) s)
    generalize costA xs a (a + u) = r at *
    have hw : IntKind.i64.wrap (a + u) = a + u := wrap_small _ (by omega) (by omega)
    clear hE hT a0 a1 u0 u1 s
    go_enter Try.func25, Try.ntmps25
    go_wp2_with fail
    refine (T.out _ h).mono ?_
    rintro e w1 ⟨rfl, k1⟩
    go_wp2_with fail
    refine (C.out _ (h.below k1)).mono ?_
    rintro e w2 ⟨rfl, k2⟩
    have k := k1.trans (k2.mono k1.size)
    clear k1 k2
    go_wp2
    go_ret2
    exact Grew.intro rfl (by repeat first | exact Below.refl _ _ | assumption | refine drewN_below ?_ _ | refine Below.alloc ?_ (by first | exact Nat.le_refl _ | exact Below.size (by assumption) | (simp; done) | (simp; omega) | omega) _ | refine Below.setCell ?_ (by first | exact Nat.le_refl _ | (simp; done) | (simp; omega) | omega) _)
  · rw [priceA_err hE]
    generalize unitsE xs a u = r at *
    have q1 := hE
    clear hE
    go_enter Try.func25, Try.ntmps25
    go_wp2_with fail
    refine (T.out _ h).mono ?_
    rintro e w1 ⟨rfl, k1⟩
    go_wp2
    go_ret2
    exact Grew.intro rfl (by repeat first | exact Below.refl _ _ | assumption | refine drewN_below ?_ _ | refine Below.alloc ?_ (by first | exact Nat.le_refl _ | exact Below.size (by assumption) | (simp; done) | (simp; omega) | omega) _ | refine Below.setCell ?_ (by first | exact Nat.le_refl _ | (simp; done) | (simp; omega) | omega) _)
end Go.Proofs.Ytcpljkjibhindaa
