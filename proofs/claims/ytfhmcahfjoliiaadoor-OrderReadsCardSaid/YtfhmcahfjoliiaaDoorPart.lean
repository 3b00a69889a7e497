/- cents.Part and its reference: the contracts -/
import Derived.Test.YtfhmcahfjoliiaaDoorIn
namespace Go.Proofs.YtfhmcahfjoliiaaDoor
set_option linter.unusedSimpArgs false
set_option linter.unusedVariables false
open Go.RowKit
set_option maxRecDepth 20000

def partOk (a b : Int) : Bool := inB a 0 1000000000000 && inB b 0 10000
def partA (a b : Int) : Int := if partOk a b then a * b / 10000 else 0
def partE (a b : Int) : Int := if partOk a b then 0 else 2

end Go.Proofs.YtfhmcahfjoliiaaDoor
