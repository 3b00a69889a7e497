/- one block of the call's own may turn, the rest stays -/
import Derived.Test.YtenoigmkhlnfoaaOwn
namespace Go.Proofs.Ytenoigmkhlnfoaa
set_option linter.unusedSimpArgs false
set_option linter.unusedVariables false
open Go.RowKit
set_option maxRecDepth 20000

/-- of what was there only block z may have turned -/
structure Chg (z : Nat) (w w' : World) : Prop where
  os : w'.os = w.os
  tape : w'.tape = w.tape
  output : w'.output = w.output
  size : w.heap.size ≤ w'.heap.size
  block : ∀ b, b < w.heap.size → b ≠ z → w'.heap[b]? = w.heap[b]?
theorem Chg.refl (z : Nat) (w : World) : Chg z w w := ⟨rfl, rfl, rfl, Nat.le_refl _, fun _ _ _ => rfl⟩
theorem Chg.set {z : Nat} {w w' : World} (h : Chg z w w') (j : Nat) (x : Value) : Chg z w (w'.setCell ⟨z, j, none⟩ x) :=
  ⟨h.os, h.tape, h.output, by simp [World.setCell]; exact h.size, fun b hb hz => by
    rw [← h.block b hb hz]; simp [World.setCell, Array.getElem?_modify, show ¬ z = b by omega]⟩
/-- v does not lie in block z -/
def Far (z : Nat) (v : Value) : Prop := ∀ a n c, v = .slice (some a) n c → a.block ≠ z
theorem Sl.chg {z : Nat} {w w' : World} {v : Value} {sz n : Nat} {cs : List Value} (h : Sl w v sz n cs) (hf : 0 < n → Far z v) (k : Chg z w w') : Sl w' v sz n cs := by
  obtain ⟨a, cap, rfl, hn, hl, h0, h⟩ := h
  refine ⟨a, cap, rfl, hn, hl, h0, ?_⟩
  by_cases hn0 : n = 0
  · exact .inl hn0
  · obtain ⟨b, off, rfl, hb, hc⟩ := h.resolve_left hn0
    have hbz := hf (by omega) _ _ _ rfl
    refine .inr ⟨b, off, rfl, Nat.lt_of_lt_of_le hb k.size, fun j hj => ?_⟩
    rw [← hc j hj]
    exact World.cell?_of_block (w := w) (k.block b hb hbz)
theorem Sl.set {z j : Nat} {w : World} {v : Value} {sz n : Nat} {cs : List Value} (h : Sl w v sz n cs) (hf : Far z v) (x : Value) : Sl (w.setCell ⟨z, j, none⟩ x) v sz n cs :=
  h.chg (fun _ => hf) ((Chg.refl z w).set j x)
theorem Far.lit {z g o n c : Nat} (h : g ≠ z) : Far z (.slice (some ⟨g, o, none⟩) n c) := by intro a n c e; cases e; exact h
theorem Own.grown {w w' : World} {g : Nat} {cs : List Value} {row : Option Nat} (h : Own w g cs) (hg : w.grownBy w' row) (hne : some g ≠ row) : Own w' g cs := by
  have hl := h.lt
  obtain ⟨cur, e, h, hc⟩ := h
  exact ⟨cur, e, (hg.block g hl hne).trans h, hc⟩
end Go.Proofs.Ytenoigmkhlnfoaa
