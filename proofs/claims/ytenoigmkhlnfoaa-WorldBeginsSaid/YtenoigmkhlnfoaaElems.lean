/- the cells of one element of a list of structs (made by wip/bin/gen_api.py) -/
import Derived.Test.YtenoigmkhlnfoaaApi
namespace Go.Proofs.Ytenoigmkhlnfoaa
set_option linter.unusedSimpArgs false
set_option linter.unusedVariables false
open Go.RowKit
set_option maxRecDepth 20000
theorem elWrite {w W : World} {b off : Nat} {xs : List AWrite} (hb : b < w.heap.size) (hc : ∀ j, j < (xs.flatMap AWrite.cells).length → w.cell? ⟨b, off + j, none⟩ = some ((xs.flatMap AWrite.cells).getD j undef)) (hbw : Below w.heap.size w W) (k : Nat) (hk : k < xs.length) :
    W.cell? ⟨b, off + k * 2, none⟩ = some (I (xs.getD k default).at_) ∧ W.cell? ⟨b, off + k * 2 + 1, none⟩ = some (U32 (xs.getD k default).word) := by
  refine ⟨?_, ?_⟩
  · have := (hbw.cell (p := ⟨b, off + (k * 2 + 0), none⟩) hb).trans (hc (k * 2 + 0) (by rw [length_flat _ 2 AWrite.cells_len]; exact pos_lt hk (by decide)))
    rw [getD_flat _ 2 AWrite.cells_len _ _ _ hk (by decide)] at this
    simpa [← Nat.add_assoc, AWrite.cells] using this
  · have := (hbw.cell (p := ⟨b, off + (k * 2 + 1), none⟩) hb).trans (hc (k * 2 + 1) (by rw [length_flat _ 2 AWrite.cells_len]; exact pos_lt hk (by decide)))
    rw [getD_flat _ 2 AWrite.cells_len _ _ _ hk (by decide)] at this
    simpa [← Nat.add_assoc, AWrite.cells] using this
theorem elStep {w W : World} {b off : Nat} {xs : List AStep} (hb : b < w.heap.size) (hc : ∀ j, j < (xs.flatMap AStep.cells).length → w.cell? ⟨b, off + j, none⟩ = some ((xs.flatMap AStep.cells).getD j undef)) (hbw : Below w.heap.size w W) (k : Nat) (hk : k < xs.length) :
    W.cell? ⟨b, off + k * 2, none⟩ = some (I (xs.getD k default).upto) ∧ W.cell? ⟨b, off + k * 2 + 1, none⟩ = some (I (xs.getD k default).price) := by
  refine ⟨?_, ?_⟩
  · have := (hbw.cell (p := ⟨b, off + (k * 2 + 0), none⟩) hb).trans (hc (k * 2 + 0) (by rw [length_flat _ 2 AStep.cells_len]; exact pos_lt hk (by decide)))
    rw [getD_flat _ 2 AStep.cells_len _ _ _ hk (by decide)] at this
    simpa [← Nat.add_assoc, AStep.cells] using this
  · have := (hbw.cell (p := ⟨b, off + (k * 2 + 1), none⟩) hb).trans (hc (k * 2 + 1) (by rw [length_flat _ 2 AStep.cells_len]; exact pos_lt hk (by decide)))
    rw [getD_flat _ 2 AStep.cells_len _ _ _ hk (by decide)] at this
    simpa [← Nat.add_assoc, AStep.cells] using this
end Go.Proofs.Ytenoigmkhlnfoaa
