/- cell.fits -/
import Derived.Test.YtebcdabdnmeeaaaIn
import Derived.Test.YtebcdabdnmeeaaaSlice
namespace Go.Proofs.Ytebcdabdnmeeaaa
open Go.RowKit
set_option maxRecDepth 20000
theorem fits_any (v : Value) (n : Nat) (sz : Nat) (cs : List Value) (w : World) (h : Sl w v sz n cs) : Calls Try.prog 59 #[v] w (Pure (.bool (inB n 1 2048)) w) := by
  obtain ⟨a, cap, rfl, hn, hl, h0, h⟩ := h
  clear h h0 hl
  go_enter Try.func59, Try.ntmps59
  go_wp2
  all_goals
    go_ret
    refine Pure.intro ?_
    simp only [inB]
    simp [*]
    try omega

end Go.Proofs.Ytebcdabdnmeeaaa
