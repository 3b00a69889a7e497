/- 'In' and its twins: is a number from low to high? -/
import Derived.Test.YtfhmcahfjoliiaaDoorBase
namespace Go.Proofs.YtfhmcahfjoliiaaDoor
set_option linter.unusedSimpArgs false
set_option linter.unusedVariables false
open Go.RowKit
set_option maxRecDepth 20000
def inB (n lo hi : Int) : Bool := decide (lo ≤ n) && decide (n ≤ hi)
theorem inB_true {n lo hi : Int} : inB n lo hi = true ↔ lo ≤ n ∧ n ≤ hi := by simp [inB]
theorem In_any (n low high : Int) (w : World) :
    Calls Tryd.prog 25 #[.int .i64 n, .int .i64 low, .int .i64 high] w (Pure (.bool (inB n low high)) w) := by
  go_enter Tryd.func25, Tryd.ntmps25
  go_wp2
  all_goals
    go_ret
    refine Pure.intro ?_
    simp only [inB]
    simp [*]
    try omega
end Go.Proofs.YtfhmcahfjoliiaaDoor
