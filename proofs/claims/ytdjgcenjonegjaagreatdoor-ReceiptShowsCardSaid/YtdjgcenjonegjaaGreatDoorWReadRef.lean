/- ref.WideRead -/
import Derived.Test.YtdjgcenjonegjaaGreatDoorWRead
set_option maxRecDepth 20000
set_option maxHeartbeats 8000000
set_option linter.unusedSimpArgs false
set_option linter.unusedVariables false
namespace Go.Proofs.YtdjgcenjonegjaaGreatDoor
open Go.RowKit

def RefRel (W : World) (s : ByteArray) (k : Nat) (wr : World) : Prop :=
  BN wr (W.heap.size + 1) (decV s k) ∧ Own wr W.heap.size [U32 0, U32 0, U32 0] ∧ Below W.heap.size W wr
end Go.Proofs.YtdjgcenjonegjaaGreatDoor
