/- a wide number that came in -/
import Derived.Test.YtgldppmkiieoaaaDecode
namespace Go.Proofs.Ytgldppmkiieoaaa
open Go.ChangeShapes Go.WideShapes Go.ChangeAt Go.RowKit
set_option maxRecDepth 20000
theorem decodeWide {w : World} (cs : List Value) (h : Plains w [.int .u32, .int .u32, .int .u32] cs) : ∃ a b c : Int, cs = [U32 a, U32 b, U32 c] ∧ W32 a ∧ W32 b ∧ W32 c := by
  simp only [Plains] at h
  obtain ⟨v0, r0, rfl, h0, v1, r1, rfl, h1, v2, r2, rfl, h2, rfl⟩ := h
  obtain ⟨n0, rfl, w0⟩ := plain_u32 h0
  obtain ⟨n1, rfl, w1⟩ := plain_u32 h1
  obtain ⟨n2, rfl, w2⟩ := plain_u32 h2
  exact ⟨n0, n1, n2, rfl, w0, w1, w2⟩
end Go.Proofs.Ytgldppmkiieoaaa
