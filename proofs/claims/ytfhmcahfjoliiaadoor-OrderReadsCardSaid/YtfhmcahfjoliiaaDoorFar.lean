/- values that lie nowhere below a bound -/
import Derived.Test.YtfhmcahfjoliiaaDoorChg
namespace Go.Proofs.YtfhmcahfjoliiaaDoor
set_option linter.unusedSimpArgs false
set_option linter.unusedVariables false
open Go.RowKit
set_option maxRecDepth 20000
/-- v lies nowhere below block B -/
def FarB (B : Nat) (v : Value) : Prop := ∀ a n c, v = .slice (some a) n c → B ≤ a.block
theorem FarB.of_owns {w : World} {base e sz n : Nat} {v : Value} {cs : List Value} (h : w.ownsRow base e sz v n cs) : FarB base v := by
  rintro a m c rfl
  exact (h.lt a.block rfl).1
end Go.Proofs.YtfhmcahfjoliiaaDoor
