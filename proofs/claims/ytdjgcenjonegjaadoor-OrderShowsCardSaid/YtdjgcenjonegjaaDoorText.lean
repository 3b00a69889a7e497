/- bytes of a text -/
import Derived.Test.YtdjgcenjonegjaaDoorIn
import Derived.Laws.RangeAny
namespace Go.Proofs.YtdjgcenjonegjaaDoor
set_option linter.unusedSimpArgs false
set_option linter.unusedVariables false
open Go.RowKit
set_option maxRecDepth 20000

/-- the byte at k -/
def bat (s : ByteArray) (k : Nat) : Nat := if h : k < s.size then (s[k]'h).toNat else 0
theorem bat_eq {s : ByteArray} {k : Nat} (h : k < s.size) : (s[k]'h).toNat = bat s k := by simp [bat, h]
/-- is the byte at k a digit? -/
def digAt (s : ByteArray) (k : Nat) : Bool := inB (bat s k) 48 57
/-- the digit at k -/
def dgt (s : ByteArray) (k : Nat) : Int := (bat s k : Int) - 48
def allDig (s : ByteArray) (k : Nat) : Bool := (List.range k).all (digAt s)
/-- what is wrong with a text of digits -/
def digsE (s : ByteArray) : Int := if s.size < 1 then 1 else if 200 < s.size then 1 else if allDig s s.size then 0 else 7
end Go.Proofs.YtdjgcenjonegjaaDoor
