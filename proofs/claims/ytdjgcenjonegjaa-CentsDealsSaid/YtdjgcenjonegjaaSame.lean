/- are two lists the same? -/
import Derived.Test.YtdjgcenjonegjaaSlice
namespace Go.Proofs.Ytdjgcenjonegjaa
open Go.RowKit
set_option maxRecDepth 20000

theorem getD_map {f : Int → Value} (xs : List Int) (k : Nat) (h : k < xs.length) : (xs.map f).getD k undef = f (xs.getD k 0) := by
  simp [List.getD_eq_getElem?_getD, h]

theorem take_succ_eq {xs ys : List Int} {k : Nat} (hx : k < xs.length) (hy : k < ys.length) (h : xs.take k = ys.take k) (he : xs.getD k 0 = ys.getD k 0) : xs.take (k + 1) = ys.take (k + 1) := by
  rw [List.take_add_one, List.take_add_one, h]
  simp only [List.getD_eq_getElem?_getD, List.getElem?_eq_getElem hx, List.getElem?_eq_getElem hy, Option.getD_some] at he ⊢
  rw [he]

theorem ne_of_getD {xs ys : List Int} {k : Nat} (h : xs.getD k 0 ≠ ys.getD k 0) : xs ≠ ys := fun e => h (by rw [e])

end Go.Proofs.Ytdjgcenjonegjaa
