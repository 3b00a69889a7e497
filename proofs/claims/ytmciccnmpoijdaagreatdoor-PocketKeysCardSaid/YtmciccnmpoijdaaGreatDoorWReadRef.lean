/- ref.WideRead -/
import Derived.Test.YtmciccnmpoijdaaGreatDoorWRead
namespace Go.Proofs.YtmciccnmpoijdaaGreatDoor
open Go.RowKit
set_option maxRecDepth 20000

def RefRel (W : World) (s : ByteArray) (k : Nat) (wr : World) : Prop :=
  BN wr (W.heap.size + 1) (decV s k) ∧ Own wr W.heap.size [U32 0, U32 0, U32 0] ∧ Below W.heap.size W wr
theorem RefRel.start {W : World} {s : ByteArray} : RefRel W s 0 ((W.alloc (.cells #[U32 0, U32 0, U32 0] 60)).alloc (.cells #[.bool false, .slice none 0 0] 82)) := by
  refine ⟨?_, (Own.new (w := W) rfl [U32 0, U32 0, U32 0] 60).alloc _, (boxed_below W _).alloc (boxed_below W _).size _⟩
  have := zeroBN (W.alloc (.cells #[U32 0, U32 0, U32 0] 60))
  rwa [World.size_alloc] at this
theorem RefRel.drewN {W : World} {s : ByteArray} {k : Nat} {wr : World} (h : RefRel W s k wr) (q : Nat) : RefRel W s k (wr.drewN q) := ⟨h.1, h.2.1, drewN_below h.2.2 q⟩
end Go.Proofs.YtmciccnmpoijdaaGreatDoor
