/- a text that is ranged over, while memory grows behind the iterator -/
import Derived.Test.YtfhmcahfjoliiaaDoorText
import Derived.Test.YtfhmcahfjoliiaaDoorChg
namespace Go.Proofs.YtfhmcahfjoliiaaDoor
set_option linter.unusedSimpArgs false
set_option linter.unusedVariables false
open Go.RowKit
set_option maxRecDepth 20000

/-- the iterator in block g moved to p -/
def iterTo (w : World) (g : Nat) (s : ByteArray) (p : Nat) : World := { w with heap := w.heap.setIfInBounds g (.stringIter s p) }
/-- the number that the first k digits spell -/
def decV (s : ByteArray) : Nat → Nat
  | 0 => 0
  | k + 1 => decV s k * 10 + (bat s k - 48)
theorem decV_lt {s : ByteArray} : ∀ k, allDig s k = true → decV s k < 10 ^ k
  | 0, _ => by simp [decV]
  | k + 1, h => by
    have h1 : allDig s k = true := by
      unfold allDig at h ⊢
      rw [List.range_succ, List.all_append, Bool.and_eq_true] at h
      exact h.1
    have h2 := digAt_true.1 (allDig_at h (show k < k + 1 by omega))
    have h3 := decV_lt k h1
    rw [decV, Nat.pow_succ]
    omega
end Go.Proofs.YtfhmcahfjoliiaaDoor
