/- slot.Fresh and its reference -/
import Derived.Test.YtenoigmkhlnfoaaInfoU
import Derived.Test.YtenoigmkhlnfoaaIn
namespace Go.Proofs.Ytenoigmkhlnfoaa
set_option linter.unusedSimpArgs false
set_option linter.unusedVariables false
open Go.RowKit
set_option maxRecDepth 20000

def freshN (n : Int) : Nat := if inB n 1 64 then 2 * n.toNat + 2 else 0
def freshE (n : Int) : Int := if inB n 1 64 then 0 else 1
def freshL (n : Int) : List Int := if inB n 1 64 then 1 :: List.replicate (2 * n.toNat + 1) 0 else []

end Go.Proofs.Ytenoigmkhlnfoaa
