/- cents.Sum and its reference -/
import Derived.Test.YtdjgcenjonegjaaPart
import Derived.Test.YtdjgcenjonegjaaApi
namespace Go.Proofs.Ytdjgcenjonegjaa
open Go.RowKit
set_option maxRecDepth 20000

def inM (n : Int) : Bool := inB n (-1000000000000) 1000000000000
def sumOf (xs : List Int) (k : Nat) : Int := (xs.take k).sum
def sumOk (xs : List Int) : Bool := xs.all inM && inM xs.sum
def sumE (xs : List Int) : Int := if 50 < xs.length then 1 else if sumOk xs then 0 else 2
def sumA (xs : List Int) : Int := if 50 < xs.length then 0 else if sumOk xs then xs.sum else 0
theorem inM_true {n : Int} : inM n = true ↔ -1000000000000 ≤ n ∧ n ≤ 1000000000000 := inB_true

theorem allI_succ {p : Int → Bool} {xs : List Int} {k : Nat} (hk : k < xs.length) (h : (xs.take k).all p = true) (hp : p (xs.getD k 0) = true) : (xs.take (k + 1)).all p = true := by
  rw [List.take_add_one, List.all_append, h, List.getElem?_eq_getElem hk]
  simpa [List.getD_eq_getElem?_getD, List.getElem?_eq_getElem hk] using hp
theorem allI_false {p : Int → Bool} {xs : List Int} {k : Nat} (hk : k < xs.length) (hp : p (xs.getD k 0) = false) : xs.all p = false := by
  rw [List.all_eq_false]
  refine ⟨xs[k], List.getElem_mem hk, ?_⟩
  simpa [List.getD_eq_getElem?_getD, List.getElem?_eq_getElem hk] using hp
theorem sumOf_succ {xs : List Int} {k : Nat} (hk : k < xs.length) : sumOf xs (k + 1) = sumOf xs k + xs.getD k 0 := by
  unfold sumOf
  rw [List.take_add_one, List.sum_append, List.getElem?_eq_getElem hk, List.getD_eq_getElem?_getD, List.getElem?_eq_getElem hk]
  simp
theorem sumOf_bd {xs : List Int} : ∀ (k : Nat), k ≤ xs.length → (xs.take k).all inM = true → -1000000000000 * (k : Int) ≤ sumOf xs k ∧ sumOf xs k ≤ 1000000000000 * (k : Int)
  | 0, _, _ => by simp [sumOf]
  | k + 1, hk, h => by
    have hk' : k < xs.length := by omega
    have h' := h
    rw [List.take_add_one, List.all_append, List.getElem?_eq_getElem hk', Bool.and_eq_true] at h'
    have ih := sumOf_bd k (by omega) h'.1
    have hx : inM (xs.getD k 0) = true := by
      rw [List.getD_eq_getElem?_getD, List.getElem?_eq_getElem hk']; simpa using h'.2
    have := inM_true.1 hx
    rw [sumOf_succ hk']
    omega

/-- what 'total' answers -/
def totA (xs : List Int) : Int := if xs.all inM then xs.sum else 0
def totB (xs : List Int) : Bool := sumOk xs

end Go.Proofs.Ytdjgcenjonegjaa
