/- cents.Part and its reference: the contracts -/
import Derived.Test.YtdjgcenjonegjaaIn
namespace Go.Proofs.Ytdjgcenjonegjaa
open Go.RowKit
set_option maxRecDepth 20000

theorem within_any (n low high : Int) (w : World) : Calls Try.prog 8 #[I n, I low, I high] w (Pure (.bool (inB n low high)) w) := by
  go_enter Try.func8, Try.ntmps8
  go_wp2
  all_goals
    go_ret
    refine Pure.intro ?_
    simp only [inB]
    simp [*]
    try omega

def partOk (a b : Int) : Bool := inB a 0 1000000000000 && inB b 0 10000
def partA (a b : Int) : Int := if partOk a b then a * b / 10000 else 0
def partE (a b : Int) : Int := if partOk a b then 0 else 2

theorem mul_le (a b : Int) (h0 : 0 ≤ a) (h1 : a ≤ 1000000000000) (g0 : 0 ≤ b) (g1 : b ≤ 10000) : 0 ≤ a * b ∧ a * b ≤ 10000000000000000 := by
  refine ⟨Int.mul_nonneg h0 g0, ?_⟩
  calc a * b ≤ a * 10000 := Int.mul_le_mul_of_nonneg_left g1 h0
    _ ≤ 1000000000000 * 10000 := by omega

theorem mul_eq (a b : Int) : a / 10000 * b + a % 10000 * b / 10000 = a * b / 10000 := by
  have h : a * b = 10000 * (a / 10000 * b) + a % 10000 * b := by
    conv => lhs; rw [← Int.mul_ediv_add_emod a 10000]
    rw [Int.add_mul, Int.mul_assoc]
  rw [h, Int.add_comm (10000 * _), Int.add_mul_ediv_left _ _ (by decide), Int.add_comm]

theorem partA_bd (a b : Int) : 0 ≤ partA a b ∧ partA a b ≤ 1000000000000 := by
  unfold partA
  split
  · rename_i h
    simp only [partOk, Bool.and_eq_true, inB_true] at h
    have := mul_le a b h.1.1 h.1.2 h.2.1 h.2.2
    omega
  · omega
theorem partA_le (a b : Int) (h0 : 0 ≤ a) : partA a b ≤ a := by
  unfold partA
  split
  · rename_i h
    simp only [partOk, Bool.and_eq_true, inB_true] at h
    have : a * b ≤ a * 10000 := Int.mul_le_mul_of_nonneg_left h.2.2 h0
    omega
  · omega
end Go.Proofs.Ytdjgcenjonegjaa
