/- one block of the call's own may turn, the rest stays -/
import Derived.Test.YtfhmcahfjoliiaaDoorOwn
namespace Go.Proofs.YtfhmcahfjoliiaaDoor
set_option linter.unusedSimpArgs false
set_option linter.unusedVariables false
open Go.RowKit
set_option maxRecDepth 20000

/-- of what was there only block z may have turned -/
structure Chg (z : Nat) (w w' : World) : Prop where
  os : w'.os = w.os
  tape : w'.tape = w.tape
  output : w'.output = w.output
  size : w.heap.size ≤ w'.heap.size
  block : ∀ b, b < w.heap.size → b ≠ z → w'.heap[b]? = w.heap[b]?
theorem Chg.refl (z : Nat) (w : World) : Chg z w w := ⟨rfl, rfl, rfl, Nat.le_refl _, fun _ _ _ => rfl⟩
theorem Chg.trans {z : Nat} {a b c : World} (h : Chg z a b) (k : Chg z b c) : Chg z a c :=
  ⟨k.os.trans h.os, k.tape.trans h.tape, k.output.trans h.output, Nat.le_trans h.size k.size, fun i hi hz => (k.block i (Nat.lt_of_lt_of_le hi h.size) hz).trans (h.block i hi hz)⟩
theorem Chg.of_below {z : Nat} {w w' : World} (h : Below w.heap.size w w') : Chg z w w' := ⟨h.os, h.tape, h.output, h.size, fun b hb _ => h.block b hb⟩
theorem Chg.below {z B : Nat} {a w w' : World} (h : Below B a w) (hz : B ≤ z) (k : Chg z w w') (hB : B ≤ w.heap.size) : Below B a w' :=
  h.trans ⟨k.os, k.tape, k.output, k.size, fun b hb => k.block b (by omega) (by omega)⟩
theorem Chg.set {z : Nat} {w w' : World} (h : Chg z w w') (j : Nat) (x : Value) : Chg z w (w'.setCell ⟨z, j, none⟩ x) :=
  ⟨h.os, h.tape, h.output, by simp [World.setCell]; exact h.size, fun b hb hz => by
    rw [← h.block b hb hz]; simp [World.setCell, Array.getElem?_modify, show ¬ z = b by omega]⟩
theorem Chg.drewN {z : Nat} {w w' : World} (h : Chg z w w') (q : Nat) : Chg z w (w'.drewN q) := ⟨h.os, h.tape, h.output, h.size, h.block⟩
/-- v does not lie in block z -/
def Far (z : Nat) (v : Value) : Prop := ∀ a n c, v = .slice (some a) n c → a.block ≠ z
theorem Own.grown {w w' : World} {g : Nat} {cs : List Value} {row : Option Nat} (h : Own w g cs) (hg : w.grownBy w' row) (hne : some g ≠ row) : Own w' g cs := by
  have hl := h.lt
  obtain ⟨cur, e, h, hc⟩ := h
  exact ⟨cur, e, (hg.block g hl hne).trans h, hc⟩
theorem Own.chg {z : Nat} {w w' : World} {g : Nat} {cs : List Value} (h : Own w g cs) (k : Chg z w w') (hg : g ≠ z) : Own w' g cs := by
  have hl := h.lt
  obtain ⟨cur, e, h, hc⟩ := h
  exact ⟨cur, e, (k.block g hl hg).trans h, hc⟩
end Go.Proofs.YtfhmcahfjoliiaaDoor
