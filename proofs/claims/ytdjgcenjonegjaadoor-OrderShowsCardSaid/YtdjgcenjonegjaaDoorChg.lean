/- one block of the call's own may turn, the rest stays -/
import Derived.Test.YtdjgcenjonegjaaDoorOwn
namespace Go.Proofs.YtdjgcenjonegjaaDoor
set_option linter.unusedSimpArgs false
set_option linter.unusedVariables false
open Go.RowKit
set_option maxRecDepth 20000

/-- of what was there only block z may have turned -/
structure Chg (z : Nat) (w w' : World) : Prop where
  os : w'.os = w.os
  tape : w'.tape = w.tape
  output : w'.output = w.output
  size : w.heap.size ≤ w'.heap.size
  block : ∀ b, b < w.heap.size → b ≠ z → w'.heap[b]? = w.heap[b]?
/-- v does not lie in block z -/
def Far (z : Nat) (v : Value) : Prop := ∀ a n c, v = .slice (some a) n c → a.block ≠ z
theorem Own.grown {w w' : World} {g : Nat} {cs : List Value} {row : Option Nat} (h : Own w g cs) (hg : w.grownBy w' row) (hne : some g ≠ row) : Own w' g cs := by
  have hl := h.lt
  obtain ⟨cur, e, h, hc⟩ := h
  exact ⟨cur, e, (hg.block g hl hne).trans h, hc⟩
end Go.Proofs.YtdjgcenjonegjaaDoor
