/- debts: faults and totals -/
import Derived.Test.YtenoigmkhlnfoaaIn
import Derived.Test.YtenoigmkhlnfoaaElems
namespace Go.Proofs.Ytenoigmkhlnfoaa
set_option linter.unusedSimpArgs false
set_option linter.unusedVariables false
open Go.RowKit
set_option maxRecDepth 20000

def okDebt (d : ADebt) : Bool := inB d.owed 0 1000000000 && inB d.bp 0 10000
def debtE (xs : List ADebt) : Int := if 8 < xs.length then 1 else if xs.all okDebt then 0 else 2
theorem all_take_succ {α : Type} [Inhabited α] {p : α → Bool} {xs : List α} {k : Nat} (hk : k < xs.length) (h : (xs.take k).all p = true) (hp : p (xs.getD k default) = true) : (xs.take (k + 1)).all p = true := by
  rw [List.take_add_one, List.all_append, h, List.getElem?_eq_getElem hk]
  simpa [List.getD_eq_getElem?_getD, List.getElem?_eq_getElem hk] using hp
theorem all_false_at {α : Type} [Inhabited α] {p : α → Bool} {xs : List α} {k : Nat} (hk : k < xs.length) (hp : p (xs.getD k default) = false) : xs.all p = false := by
  rw [List.all_eq_false]
  refine ⟨xs[k], List.getElem_mem hk, ?_⟩
  simpa [List.getD_eq_getElem?_getD, List.getElem?_eq_getElem hk] using hp
def sumTo (xs : List ADebt) (k : Nat) : Int := ((xs.take k).map (·.owed)).sum
def debtSum (xs : List ADebt) : Int := (xs.map (·.owed)).sum
def totalA (xs : List ADebt) : Int := if debtE xs = 0 then debtSum xs else 0
end Go.Proofs.Ytenoigmkhlnfoaa
