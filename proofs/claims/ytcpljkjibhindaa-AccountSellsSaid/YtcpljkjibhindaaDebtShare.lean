/- the share of a sale that goes to debts -/
import Derived.Test.YtcpljkjibhindaaDebt
import Derived.Test.YtcpljkjibhindaaPart
namespace Go.Proofs.Ytcpljkjibhindaa
open Go.RowKit
set_option maxRecDepth 20000

def shareOk (t bp : Int) : Bool := inB t 0 100000000 && inB bp 0 10000
def shareA (t bp : Int) : Int := if shareOk t bp then partA t bp else 0
def shareE (t bp : Int) : Int := if shareOk t bp then 0 else 2
theorem shareOf_any (t bp : Int) (w : World) : Calls Try.prog 85 #[I t, I bp] w (Pure (T2 (I (shareA t bp)) (I (shareE t bp))) w) := by
  by_cases ht : inB t 0 100000000 = true
  · obtain ⟨t0, t1⟩ := inB_true.1 ht
    have h1 : inB t 0 1000000000000 = true := inB_true.2 ⟨by omega, by omega⟩
    have hA : shareA t bp = partA t bp := by
      simp only [shareA, shareOk, ht, Bool.true_and]
      cases hb : inB bp 0 10000
      · simp [partA, partOk, hb]
      · rfl
    have hE : shareE t bp = partE t bp := by
      simp only [shareE, shareOk, ht, Bool.true_and, partE, partOk, h1]
    rw [hA, hE]
    clear hA hE h1
    go_enter Try.func85, Try.ntmps85
    go_wp2_with (first | (go_at_call 49; refine (In_any _ _ _ _).mono ?_; rintro e w' ⟨rfl, rfl⟩) | (go_at_call 66; refine (parted_any _ _ _).mono ?_; rintro e w' ⟨rfl, rfl⟩))
    go_ret2
    exact Pure.intro rfl
  · simp only [Bool.not_eq_true] at ht
    have hA : shareA t bp = 0 := by simp [shareA, shareOk, ht]
    have hE : shareE t bp = 2 := by simp [shareE, shareOk, ht]
    rw [hA, hE]
    clear hA hE
    go_enter Try.func85, Try.ntmps85
    go_wp2_with (go_at_call 49; refine (In_any _ _ _ _).mono ?_; rintro e w' ⟨rfl, rfl⟩)
    go_ret2
    exact Pure.intro rfl

theorem debtSum_bd {xs : List ADebt} (h8 : xs.length ≤ 8) (hok : xs.all okDebt = true) : 0 ≤ debtSum xs ∧ debtSum xs ≤ 8000000000 := by
  have := sumTo_bd hok xs.length (Nat.le_refl _)
  rw [sumTo_all] at this
  omega

end Go.Proofs.Ytcpljkjibhindaa
