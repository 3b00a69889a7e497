/- values that lie nowhere below a bound -/
import Derived.Test.YtenoigmkhlnfoaaChg
namespace Go.Proofs.Ytenoigmkhlnfoaa
set_option linter.unusedSimpArgs false
set_option linter.unusedVariables false
open Go.RowKit
set_option maxRecDepth 20000
/-- v lies nowhere below block B -/
def FarB (B : Nat) (v : Value) : Prop := ∀ a n c, v = .slice (some a) n c → B ≤ a.block
theorem FarB.nil (B n c : Nat) : FarB B (.slice none n c) := by intro a n c h; cases h
theorem FarB.lit {B g o n c : Nat} (h : B ≤ g) : FarB B (.slice (some ⟨g, o, none⟩) n c) := by intro a n c e; cases e; exact h
theorem FarB.far {B z : Nat} {v : Value} (h : FarB B v) (hz : z < B) : Far z v := by
  intro a n c e
  have := h a n c e
  omega
end Go.Proofs.Ytenoigmkhlnfoaa
