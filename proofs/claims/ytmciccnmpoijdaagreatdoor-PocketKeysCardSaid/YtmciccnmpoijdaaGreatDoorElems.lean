/- the cells of one element of a list of structs (made by wip/bin/gen_api.py) -/
import Derived.Test.YtmciccnmpoijdaaGreatDoorApi
namespace Go.Proofs.YtmciccnmpoijdaaGreatDoor
open Go.RowKit
set_option maxRecDepth 20000
theorem elWrite {w W : World} {b off : Nat} {xs : List AWrite} (hb : b < w.heap.size) (hc : ∀ j, j < (xs.flatMap AWrite.cells).length → w.cell? ⟨b, off + j, none⟩ = some ((xs.flatMap AWrite.cells).getD j undef)) (hbw : Below w.heap.size w W) (k : Nat) (hk : k < xs.length) :
    W.cell? ⟨b, off + k * 2, none⟩ = some (I (xs.getD k default).at_) ∧ W.cell? ⟨b, off + k * 2 + 1, none⟩ = some (U32 (xs.getD k default).word) := by
  refine ⟨?_, ?_⟩
  · have := (hbw.cell (p := ⟨b, off + (k * 2 + 0), none⟩) hb).trans (hc (k * 2 + 0) (by rw [length_flat _ 2 AWrite.cells_len]; exact pos_lt hk (by decide)))
    rw [getD_flat _ 2 AWrite.cells_len _ _ _ hk (by decide)] at this
    simpa [← Nat.add_assoc, AWrite.cells] using this
  · have := (hbw.cell (p := ⟨b, off + (k * 2 + 1), none⟩) hb).trans (hc (k * 2 + 1) (by rw [length_flat _ 2 AWrite.cells_len]; exact pos_lt hk (by decide)))
    rw [getD_flat _ 2 AWrite.cells_len _ _ _ hk (by decide)] at this
    simpa [← Nat.add_assoc, AWrite.cells] using this
theorem elStep {w W : World} {b off : Nat} {xs : List AStep} (hb : b < w.heap.size) (hc : ∀ j, j < (xs.flatMap AStep.cells).length → w.cell? ⟨b, off + j, none⟩ = some ((xs.flatMap AStep.cells).getD j undef)) (hbw : Below w.heap.size w W) (k : Nat) (hk : k < xs.length) :
    W.cell? ⟨b, off + k * 2, none⟩ = some (I (xs.getD k default).upto) ∧ W.cell? ⟨b, off + k * 2 + 1, none⟩ = some (I (xs.getD k default).price) := by
  refine ⟨?_, ?_⟩
  · have := (hbw.cell (p := ⟨b, off + (k * 2 + 0), none⟩) hb).trans (hc (k * 2 + 0) (by rw [length_flat _ 2 AStep.cells_len]; exact pos_lt hk (by decide)))
    rw [getD_flat _ 2 AStep.cells_len _ _ _ hk (by decide)] at this
    simpa [← Nat.add_assoc, AStep.cells] using this
  · have := (hbw.cell (p := ⟨b, off + (k * 2 + 1), none⟩) hb).trans (hc (k * 2 + 1) (by rw [length_flat _ 2 AStep.cells_len]; exact pos_lt hk (by decide)))
    rw [getD_flat _ 2 AStep.cells_len _ _ _ hk (by decide)] at this
    simpa [← Nat.add_assoc, AStep.cells] using this
theorem elLine {w W : World} {b off : Nat} {xs : List ALine} (hb : b < w.heap.size) (hc : ∀ j, j < (xs.flatMap ALine.cells).length → w.cell? ⟨b, off + j, none⟩ = some ((xs.flatMap ALine.cells).getD j undef)) (hbw : Below w.heap.size w W) (k : Nat) (hk : k < xs.length) :
    W.cell? ⟨b, off + k * 3, none⟩ = some (I (xs.getD k default).units) ∧ W.cell? ⟨b, off + k * 3 + 1, none⟩ = some (I (xs.getD k default).price) ∧ W.cell? ⟨b, off + k * 3 + 2, none⟩ = some (I (xs.getD k default).cost) := by
  refine ⟨?_, ?_, ?_⟩
  · have := (hbw.cell (p := ⟨b, off + (k * 3 + 0), none⟩) hb).trans (hc (k * 3 + 0) (by rw [length_flat _ 3 ALine.cells_len]; exact pos_lt hk (by decide)))
    rw [getD_flat _ 3 ALine.cells_len _ _ _ hk (by decide)] at this
    simpa [← Nat.add_assoc, ALine.cells] using this
  · have := (hbw.cell (p := ⟨b, off + (k * 3 + 1), none⟩) hb).trans (hc (k * 3 + 1) (by rw [length_flat _ 3 ALine.cells_len]; exact pos_lt hk (by decide)))
    rw [getD_flat _ 3 ALine.cells_len _ _ _ hk (by decide)] at this
    simpa [← Nat.add_assoc, ALine.cells] using this
  · have := (hbw.cell (p := ⟨b, off + (k * 3 + 2), none⟩) hb).trans (hc (k * 3 + 2) (by rw [length_flat _ 3 ALine.cells_len]; exact pos_lt hk (by decide)))
    rw [getD_flat _ 3 ALine.cells_len _ _ _ hk (by decide)] at this
    simpa [← Nat.add_assoc, ALine.cells] using this
theorem elDebt {w W : World} {b off : Nat} {xs : List ADebt} (hb : b < w.heap.size) (hc : ∀ j, j < (xs.flatMap ADebt.cells).length → w.cell? ⟨b, off + j, none⟩ = some ((xs.flatMap ADebt.cells).getD j undef)) (hbw : Below w.heap.size w W) (k : Nat) (hk : k < xs.length) :
    W.cell? ⟨b, off + k * 2, none⟩ = some (I (xs.getD k default).owed) ∧ W.cell? ⟨b, off + k * 2 + 1, none⟩ = some (I (xs.getD k default).bp) := by
  refine ⟨?_, ?_⟩
  · have := (hbw.cell (p := ⟨b, off + (k * 2 + 0), none⟩) hb).trans (hc (k * 2 + 0) (by rw [length_flat _ 2 ADebt.cells_len]; exact pos_lt hk (by decide)))
    rw [getD_flat _ 2 ADebt.cells_len _ _ _ hk (by decide)] at this
    simpa [← Nat.add_assoc, ADebt.cells] using this
  · have := (hbw.cell (p := ⟨b, off + (k * 2 + 1), none⟩) hb).trans (hc (k * 2 + 1) (by rw [length_flat _ 2 ADebt.cells_len]; exact pos_lt hk (by decide)))
    rw [getD_flat _ 2 ADebt.cells_len _ _ _ hk (by decide)] at this
    simpa [← Nat.add_assoc, ADebt.cells] using this
theorem elPair {w W : World} {b off : Nat} {xs : List APair} (hb : b < w.heap.size) (hc : ∀ j, j < (xs.flatMap APair.cells).length → w.cell? ⟨b, off + j, none⟩ = some ((xs.flatMap APair.cells).getD j undef)) (hbw : Below w.heap.size w W) (k : Nat) (hk : k < xs.length) :
    W.cell? ⟨b, off + k * 4, none⟩ = some (I (xs.getD k default).meter) ∧ W.cell? ⟨b, off + k * 4 + 1, none⟩ = some (I (xs.getD k default).rev) ∧ W.cell? ⟨b, off + k * 4 + 2, none⟩ = some (I (xs.getD k default).body) ∧ W.cell? ⟨b, off + k * 4 + 3, none⟩ = some (I (xs.getD k default).tag) := by
  refine ⟨?_, ?_, ?_, ?_⟩
  · have := (hbw.cell (p := ⟨b, off + (k * 4 + 0), none⟩) hb).trans (hc (k * 4 + 0) (by rw [length_flat _ 4 APair.cells_len]; exact pos_lt hk (by decide)))
    rw [getD_flat _ 4 APair.cells_len _ _ _ hk (by decide)] at this
    simpa [← Nat.add_assoc, APair.cells] using this
  · have := (hbw.cell (p := ⟨b, off + (k * 4 + 1), none⟩) hb).trans (hc (k * 4 + 1) (by rw [length_flat _ 4 APair.cells_len]; exact pos_lt hk (by decide)))
    rw [getD_flat _ 4 APair.cells_len _ _ _ hk (by decide)] at this
    simpa [← Nat.add_assoc, APair.cells] using this
  · have := (hbw.cell (p := ⟨b, off + (k * 4 + 2), none⟩) hb).trans (hc (k * 4 + 2) (by rw [length_flat _ 4 APair.cells_len]; exact pos_lt hk (by decide)))
    rw [getD_flat _ 4 APair.cells_len _ _ _ hk (by decide)] at this
    simpa [← Nat.add_assoc, APair.cells] using this
  · have := (hbw.cell (p := ⟨b, off + (k * 4 + 3), none⟩) hb).trans (hc (k * 4 + 3) (by rw [length_flat _ 4 APair.cells_len]; exact pos_lt hk (by decide)))
    rw [getD_flat _ 4 APair.cells_len _ _ _ hk (by decide)] at this
    simpa [← Nat.add_assoc, APair.cells] using this
theorem elEntry {w W : World} {b off : Nat} {xs : List AEntry} (hb : b < w.heap.size) (hc : ∀ j, j < (xs.flatMap AEntry.cells).length → w.cell? ⟨b, off + j, none⟩ = some ((xs.flatMap AEntry.cells).getD j undef)) (hbw : Below w.heap.size w W) (k : Nat) (hk : k < xs.length) :
    W.cell? ⟨b, off + k * 2, none⟩ = some (.string (xs.getD k default).text) ∧ W.cell? ⟨b, off + k * 2 + 1, none⟩ = some (I (xs.getD k default).code) := by
  refine ⟨?_, ?_⟩
  · have := (hbw.cell (p := ⟨b, off + (k * 2 + 0), none⟩) hb).trans (hc (k * 2 + 0) (by rw [length_flat _ 2 AEntry.cells_len]; exact pos_lt hk (by decide)))
    rw [getD_flat _ 2 AEntry.cells_len _ _ _ hk (by decide)] at this
    simpa [← Nat.add_assoc, AEntry.cells] using this
  · have := (hbw.cell (p := ⟨b, off + (k * 2 + 1), none⟩) hb).trans (hc (k * 2 + 1) (by rw [length_flat _ 2 AEntry.cells_len]; exact pos_lt hk (by decide)))
    rw [getD_flat _ 2 AEntry.cells_len _ _ _ hk (by decide)] at this
    simpa [← Nat.add_assoc, AEntry.cells] using this
theorem elSold {w W : World} {b off : Nat} {xs : List ASold} (hb : b < w.heap.size) (hc : ∀ j, j < (xs.flatMap ASold.cells).length → w.cell? ⟨b, off + j, none⟩ = some ((xs.flatMap ASold.cells).getD j undef)) (hbw : Below w.heap.size w W) (k : Nat) (hk : k < xs.length) :
    W.cell? ⟨b, off + k * 5, none⟩ = some (I (xs.getD k default).id) ∧ W.cell? ⟨b, off + k * 5 + 1, none⟩ = some (I (xs.getD k default).class_) ∧ W.cell? ⟨b, off + k * 5 + 2, none⟩ = some (I (xs.getD k default).amount) ∧ W.cell? ⟨b, off + k * 5 + 3, none⟩ = some (I (xs.getD k default).tag) ∧ W.cell? ⟨b, off + k * 5 + 4, none⟩ = some (I (xs.getD k default).rev) := by
  refine ⟨?_, ?_, ?_, ?_, ?_⟩
  · have := (hbw.cell (p := ⟨b, off + (k * 5 + 0), none⟩) hb).trans (hc (k * 5 + 0) (by rw [length_flat _ 5 ASold.cells_len]; exact pos_lt hk (by decide)))
    rw [getD_flat _ 5 ASold.cells_len _ _ _ hk (by decide)] at this
    simpa [← Nat.add_assoc, ASold.cells] using this
  · have := (hbw.cell (p := ⟨b, off + (k * 5 + 1), none⟩) hb).trans (hc (k * 5 + 1) (by rw [length_flat _ 5 ASold.cells_len]; exact pos_lt hk (by decide)))
    rw [getD_flat _ 5 ASold.cells_len _ _ _ hk (by decide)] at this
    simpa [← Nat.add_assoc, ASold.cells] using this
  · have := (hbw.cell (p := ⟨b, off + (k * 5 + 2), none⟩) hb).trans (hc (k * 5 + 2) (by rw [length_flat _ 5 ASold.cells_len]; exact pos_lt hk (by decide)))
    rw [getD_flat _ 5 ASold.cells_len _ _ _ hk (by decide)] at this
    simpa [← Nat.add_assoc, ASold.cells] using this
  · have := (hbw.cell (p := ⟨b, off + (k * 5 + 3), none⟩) hb).trans (hc (k * 5 + 3) (by rw [length_flat _ 5 ASold.cells_len]; exact pos_lt hk (by decide)))
    rw [getD_flat _ 5 ASold.cells_len _ _ _ hk (by decide)] at this
    simpa [← Nat.add_assoc, ASold.cells] using this
  · have := (hbw.cell (p := ⟨b, off + (k * 5 + 4), none⟩) hb).trans (hc (k * 5 + 4) (by rw [length_flat _ 5 ASold.cells_len]; exact pos_lt hk (by decide)))
    rw [getD_flat _ 5 ASold.cells_len _ _ _ hk (by decide)] at this
    simpa [← Nat.add_assoc, ASold.cells] using this
theorem elBill {w W : World} {b off : Nat} {xs : List ABill} (hb : b < w.heap.size) (hc : ∀ j, j < (xs.flatMap ABill.cells).length → w.cell? ⟨b, off + j, none⟩ = some ((xs.flatMap ABill.cells).getD j undef)) (hbw : Below w.heap.size w W) (k : Nat) (hk : k < xs.length) :
    W.cell? ⟨b, off + k * 7, none⟩ = some (I (xs.getD k default).id) ∧ W.cell? ⟨b, off + k * 7 + 1, none⟩ = some (I (xs.getD k default).tender) ∧ W.cell? ⟨b, off + k * 7 + 2, none⟩ = some (I (xs.getD k default).debt) ∧ W.cell? ⟨b, off + k * 7 + 3, none⟩ = some (I (xs.getD k default).fee) ∧ W.cell? ⟨b, off + k * 7 + 4, none⟩ = some (I (xs.getD k default).price) ∧ W.cell? ⟨b, off + k * 7 + 5, none⟩ = some (I (xs.getD k default).change) ∧ W.cell? ⟨b, off + k * 7 + 6, none⟩ = some (I (xs.getD k default).units) := by
  refine ⟨?_, ?_, ?_, ?_, ?_, ?_, ?_⟩
  · have := (hbw.cell (p := ⟨b, off + (k * 7 + 0), none⟩) hb).trans (hc (k * 7 + 0) (by rw [length_flat _ 7 ABill.cells_len]; exact pos_lt hk (by decide)))
    rw [getD_flat _ 7 ABill.cells_len _ _ _ hk (by decide)] at this
    simpa [← Nat.add_assoc, ABill.cells] using this
  · have := (hbw.cell (p := ⟨b, off + (k * 7 + 1), none⟩) hb).trans (hc (k * 7 + 1) (by rw [length_flat _ 7 ABill.cells_len]; exact pos_lt hk (by decide)))
    rw [getD_flat _ 7 ABill.cells_len _ _ _ hk (by decide)] at this
    simpa [← Nat.add_assoc, ABill.cells] using this
  · have := (hbw.cell (p := ⟨b, off + (k * 7 + 2), none⟩) hb).trans (hc (k * 7 + 2) (by rw [length_flat _ 7 ABill.cells_len]; exact pos_lt hk (by decide)))
    rw [getD_flat _ 7 ABill.cells_len _ _ _ hk (by decide)] at this
    simpa [← Nat.add_assoc, ABill.cells] using this
  · have := (hbw.cell (p := ⟨b, off + (k * 7 + 3), none⟩) hb).trans (hc (k * 7 + 3) (by rw [length_flat _ 7 ABill.cells_len]; exact pos_lt hk (by decide)))
    rw [getD_flat _ 7 ABill.cells_len _ _ _ hk (by decide)] at this
    simpa [← Nat.add_assoc, ABill.cells] using this
  · have := (hbw.cell (p := ⟨b, off + (k * 7 + 4), none⟩) hb).trans (hc (k * 7 + 4) (by rw [length_flat _ 7 ABill.cells_len]; exact pos_lt hk (by decide)))
    rw [getD_flat _ 7 ABill.cells_len _ _ _ hk (by decide)] at this
    simpa [← Nat.add_assoc, ABill.cells] using this
  · have := (hbw.cell (p := ⟨b, off + (k * 7 + 5), none⟩) hb).trans (hc (k * 7 + 5) (by rw [length_flat _ 7 ABill.cells_len]; exact pos_lt hk (by decide)))
    rw [getD_flat _ 7 ABill.cells_len _ _ _ hk (by decide)] at this
    simpa [← Nat.add_assoc, ABill.cells] using this
  · have := (hbw.cell (p := ⟨b, off + (k * 7 + 6), none⟩) hb).trans (hc (k * 7 + 6) (by rw [length_flat _ 7 ABill.cells_len]; exact pos_lt hk (by decide)))
    rw [getD_flat _ 7 ABill.cells_len _ _ _ hk (by decide)] at this
    simpa [← Nat.add_assoc, ABill.cells] using this
theorem elEvent {w W : World} {b off : Nat} {xs : List AEvent} (hb : b < w.heap.size) (hc : ∀ j, j < (xs.flatMap AEvent.cells).length → w.cell? ⟨b, off + j, none⟩ = some ((xs.flatMap AEvent.cells).getD j undef)) (hbw : Below w.heap.size w W) (k : Nat) (hk : k < xs.length) :
    W.cell? ⟨b, off + k * 13, none⟩ = some (I (xs.getD k default).kind) ∧ W.cell? ⟨b, off + k * 13 + 1, none⟩ = some (I (xs.getD k default).meter) ∧ W.cell? ⟨b, off + k * 13 + 2, none⟩ = some (I (xs.getD k default).month) ∧ W.cell? ⟨b, off + k * 13 + 3, none⟩ = some (I (xs.getD k default).bill.id) ∧ W.cell? ⟨b, off + k * 13 + 4, none⟩ = some (I (xs.getD k default).bill.tender) ∧ W.cell? ⟨b, off + k * 13 + 5, none⟩ = some (I (xs.getD k default).bill.debt) ∧ W.cell? ⟨b, off + k * 13 + 6, none⟩ = some (I (xs.getD k default).bill.fee) ∧ W.cell? ⟨b, off + k * 13 + 7, none⟩ = some (I (xs.getD k default).bill.price) ∧ W.cell? ⟨b, off + k * 13 + 8, none⟩ = some (I (xs.getD k default).bill.change) ∧ W.cell? ⟨b, off + k * 13 + 9, none⟩ = some (I (xs.getD k default).bill.units) ∧ W.cell? ⟨b, off + k * 13 + 10, none⟩ = some (I (xs.getD k default).tag) ∧ W.cell? ⟨b, off + k * 13 + 11, none⟩ = some (I (xs.getD k default).debt.owed) ∧ W.cell? ⟨b, off + k * 13 + 12, none⟩ = some (I (xs.getD k default).debt.bp) := by
  refine ⟨?_, ?_, ?_, ?_, ?_, ?_, ?_, ?_, ?_, ?_, ?_, ?_, ?_⟩
  · have := (hbw.cell (p := ⟨b, off + (k * 13 + 0), none⟩) hb).trans (hc (k * 13 + 0) (by rw [length_flat _ 13 AEvent.cells_len]; exact pos_lt hk (by decide)))
    rw [getD_flat _ 13 AEvent.cells_len _ _ _ hk (by decide)] at this
    simpa [← Nat.add_assoc, AEvent.cells] using this
  · have := (hbw.cell (p := ⟨b, off + (k * 13 + 1), none⟩) hb).trans (hc (k * 13 + 1) (by rw [length_flat _ 13 AEvent.cells_len]; exact pos_lt hk (by decide)))
    rw [getD_flat _ 13 AEvent.cells_len _ _ _ hk (by decide)] at this
    simpa [← Nat.add_assoc, AEvent.cells] using this
  · have := (hbw.cell (p := ⟨b, off + (k * 13 + 2), none⟩) hb).trans (hc (k * 13 + 2) (by rw [length_flat _ 13 AEvent.cells_len]; exact pos_lt hk (by decide)))
    rw [getD_flat _ 13 AEvent.cells_len _ _ _ hk (by decide)] at this
    simpa [← Nat.add_assoc, AEvent.cells] using this
  · have := (hbw.cell (p := ⟨b, off + (k * 13 + 3), none⟩) hb).trans (hc (k * 13 + 3) (by rw [length_flat _ 13 AEvent.cells_len]; exact pos_lt hk (by decide)))
    rw [getD_flat _ 13 AEvent.cells_len _ _ _ hk (by decide)] at this
    simpa [← Nat.add_assoc, AEvent.cells] using this
  · have := (hbw.cell (p := ⟨b, off + (k * 13 + 4), none⟩) hb).trans (hc (k * 13 + 4) (by rw [length_flat _ 13 AEvent.cells_len]; exact pos_lt hk (by decide)))
    rw [getD_flat _ 13 AEvent.cells_len _ _ _ hk (by decide)] at this
    simpa [← Nat.add_assoc, AEvent.cells] using this
  · have := (hbw.cell (p := ⟨b, off + (k * 13 + 5), none⟩) hb).trans (hc (k * 13 + 5) (by rw [length_flat _ 13 AEvent.cells_len]; exact pos_lt hk (by decide)))
    rw [getD_flat _ 13 AEvent.cells_len _ _ _ hk (by decide)] at this
    simpa [← Nat.add_assoc, AEvent.cells] using this
  · have := (hbw.cell (p := ⟨b, off + (k * 13 + 6), none⟩) hb).trans (hc (k * 13 + 6) (by rw [length_flat _ 13 AEvent.cells_len]; exact pos_lt hk (by decide)))
    rw [getD_flat _ 13 AEvent.cells_len _ _ _ hk (by decide)] at this
    simpa [← Nat.add_assoc, AEvent.cells] using this
  · have := (hbw.cell (p := ⟨b, off + (k * 13 + 7), none⟩) hb).trans (hc (k * 13 + 7) (by rw [length_flat _ 13 AEvent.cells_len]; exact pos_lt hk (by decide)))
    rw [getD_flat _ 13 AEvent.cells_len _ _ _ hk (by decide)] at this
    simpa [← Nat.add_assoc, AEvent.cells] using this
  · have := (hbw.cell (p := ⟨b, off + (k * 13 + 8), none⟩) hb).trans (hc (k * 13 + 8) (by rw [length_flat _ 13 AEvent.cells_len]; exact pos_lt hk (by decide)))
    rw [getD_flat _ 13 AEvent.cells_len _ _ _ hk (by decide)] at this
    simpa [← Nat.add_assoc, AEvent.cells] using this
  · have := (hbw.cell (p := ⟨b, off + (k * 13 + 9), none⟩) hb).trans (hc (k * 13 + 9) (by rw [length_flat _ 13 AEvent.cells_len]; exact pos_lt hk (by decide)))
    rw [getD_flat _ 13 AEvent.cells_len _ _ _ hk (by decide)] at this
    simpa [← Nat.add_assoc, AEvent.cells] using this
  · have := (hbw.cell (p := ⟨b, off + (k * 13 + 10), none⟩) hb).trans (hc (k * 13 + 10) (by rw [length_flat _ 13 AEvent.cells_len]; exact pos_lt hk (by decide)))
    rw [getD_flat _ 13 AEvent.cells_len _ _ _ hk (by decide)] at this
    simpa [← Nat.add_assoc, AEvent.cells] using this
  · have := (hbw.cell (p := ⟨b, off + (k * 13 + 11), none⟩) hb).trans (hc (k * 13 + 11) (by rw [length_flat _ 13 AEvent.cells_len]; exact pos_lt hk (by decide)))
    rw [getD_flat _ 13 AEvent.cells_len _ _ _ hk (by decide)] at this
    simpa [← Nat.add_assoc, AEvent.cells] using this
  · have := (hbw.cell (p := ⟨b, off + (k * 13 + 12), none⟩) hb).trans (hc (k * 13 + 12) (by rw [length_flat _ 13 AEvent.cells_len]; exact pos_lt hk (by decide)))
    rw [getD_flat _ 13 AEvent.cells_len _ _ _ hk (by decide)] at this
    simpa [← Nat.add_assoc, AEvent.cells] using this
theorem elAct {w W : World} {b off : Nat} {xs : List AAct} (hb : b < w.heap.size) (hc : ∀ j, j < (xs.flatMap AAct.cells).length → w.cell? ⟨b, off + j, none⟩ = some ((xs.flatMap AAct.cells).getD j undef)) (hbw : Below w.heap.size w W) (k : Nat) (hk : k < xs.length) :
    W.cell? ⟨b, off + k * 7, none⟩ = some (I (xs.getD k default).kind) ∧ W.cell? ⟨b, off + k * 7 + 1, none⟩ = some (I (xs.getD k default).meter) ∧ W.cell? ⟨b, off + k * 7 + 2, none⟩ = some (I (xs.getD k default).a) ∧ W.cell? ⟨b, off + k * 7 + 3, none⟩ = some (I (xs.getD k default).b) ∧ W.cell? ⟨b, off + k * 7 + 4, none⟩ = some (I (xs.getD k default).c) ∧ W.cell? ⟨b, off + k * 7 + 5, none⟩ = some (.string (xs.getD k default).text) ∧ W.cell? ⟨b, off + k * 7 + 6, none⟩ = some (I (xs.getD k default).cut) := by
  refine ⟨?_, ?_, ?_, ?_, ?_, ?_, ?_⟩
  · have := (hbw.cell (p := ⟨b, off + (k * 7 + 0), none⟩) hb).trans (hc (k * 7 + 0) (by rw [length_flat _ 7 AAct.cells_len]; exact pos_lt hk (by decide)))
    rw [getD_flat _ 7 AAct.cells_len _ _ _ hk (by decide)] at this
    simpa [← Nat.add_assoc, AAct.cells] using this
  · have := (hbw.cell (p := ⟨b, off + (k * 7 + 1), none⟩) hb).trans (hc (k * 7 + 1) (by rw [length_flat _ 7 AAct.cells_len]; exact pos_lt hk (by decide)))
    rw [getD_flat _ 7 AAct.cells_len _ _ _ hk (by decide)] at this
    simpa [← Nat.add_assoc, AAct.cells] using this
  · have := (hbw.cell (p := ⟨b, off + (k * 7 + 2), none⟩) hb).trans (hc (k * 7 + 2) (by rw [length_flat _ 7 AAct.cells_len]; exact pos_lt hk (by decide)))
    rw [getD_flat _ 7 AAct.cells_len _ _ _ hk (by decide)] at this
    simpa [← Nat.add_assoc, AAct.cells] using this
  · have := (hbw.cell (p := ⟨b, off + (k * 7 + 3), none⟩) hb).trans (hc (k * 7 + 3) (by rw [length_flat _ 7 AAct.cells_len]; exact pos_lt hk (by decide)))
    rw [getD_flat _ 7 AAct.cells_len _ _ _ hk (by decide)] at this
    simpa [← Nat.add_assoc, AAct.cells] using this
  · have := (hbw.cell (p := ⟨b, off + (k * 7 + 4), none⟩) hb).trans (hc (k * 7 + 4) (by rw [length_flat _ 7 AAct.cells_len]; exact pos_lt hk (by decide)))
    rw [getD_flat _ 7 AAct.cells_len _ _ _ hk (by decide)] at this
    simpa [← Nat.add_assoc, AAct.cells] using this
  · have := (hbw.cell (p := ⟨b, off + (k * 7 + 5), none⟩) hb).trans (hc (k * 7 + 5) (by rw [length_flat _ 7 AAct.cells_len]; exact pos_lt hk (by decide)))
    rw [getD_flat _ 7 AAct.cells_len _ _ _ hk (by decide)] at this
    simpa [← Nat.add_assoc, AAct.cells] using this
  · have := (hbw.cell (p := ⟨b, off + (k * 7 + 6), none⟩) hb).trans (hc (k * 7 + 6) (by rw [length_flat _ 7 AAct.cells_len]; exact pos_lt hk (by decide)))
    rw [getD_flat _ 7 AAct.cells_len _ _ _ hk (by decide)] at this
    simpa [← Nat.add_assoc, AAct.cells] using this
theorem elTold {w W : World} {b off : Nat} {xs : List ATold} (hb : b < w.heap.size) (hc : ∀ j, j < (xs.flatMap ATold.cells).length → w.cell? ⟨b, off + j, none⟩ = some ((xs.flatMap ATold.cells).getD j undef)) (hbw : Below w.heap.size w W) (k : Nat) (hk : k < xs.length) :
    W.cell? ⟨b, off + k * 11, none⟩ = some (I (xs.getD k default).code) ∧ W.cell? ⟨b, off + k * 11 + 1, none⟩ = some (I (xs.getD k default).added) ∧ W.cell? ⟨b, off + k * 11 + 2, none⟩ = some (.string (xs.getD k default).text) ∧ W.cell? ⟨b, off + k * 11 + 3, none⟩ = some (I (xs.getD k default).bill.id) ∧ W.cell? ⟨b, off + k * 11 + 4, none⟩ = some (I (xs.getD k default).bill.tender) ∧ W.cell? ⟨b, off + k * 11 + 5, none⟩ = some (I (xs.getD k default).bill.debt) ∧ W.cell? ⟨b, off + k * 11 + 6, none⟩ = some (I (xs.getD k default).bill.fee) ∧ W.cell? ⟨b, off + k * 11 + 7, none⟩ = some (I (xs.getD k default).bill.price) ∧ W.cell? ⟨b, off + k * 11 + 8, none⟩ = some (I (xs.getD k default).bill.change) ∧ W.cell? ⟨b, off + k * 11 + 9, none⟩ = some (I (xs.getD k default).bill.units) ∧ W.cell? ⟨b, off + k * 11 + 10, none⟩ = some (.bool (xs.getD k default).dead) := by
  refine ⟨?_, ?_, ?_, ?_, ?_, ?_, ?_, ?_, ?_, ?_, ?_⟩
  · have := (hbw.cell (p := ⟨b, off + (k * 11 + 0), none⟩) hb).trans (hc (k * 11 + 0) (by rw [length_flat _ 11 ATold.cells_len]; exact pos_lt hk (by decide)))
    rw [getD_flat _ 11 ATold.cells_len _ _ _ hk (by decide)] at this
    simpa [← Nat.add_assoc, ATold.cells] using this
  · have := (hbw.cell (p := ⟨b, off + (k * 11 + 1), none⟩) hb).trans (hc (k * 11 + 1) (by rw [length_flat _ 11 ATold.cells_len]; exact pos_lt hk (by decide)))
    rw [getD_flat _ 11 ATold.cells_len _ _ _ hk (by decide)] at this
    simpa [← Nat.add_assoc, ATold.cells] using this
  · have := (hbw.cell (p := ⟨b, off + (k * 11 + 2), none⟩) hb).trans (hc (k * 11 + 2) (by rw [length_flat _ 11 ATold.cells_len]; exact pos_lt hk (by decide)))
    rw [getD_flat _ 11 ATold.cells_len _ _ _ hk (by decide)] at this
    simpa [← Nat.add_assoc, ATold.cells] using this
  · have := (hbw.cell (p := ⟨b, off + (k * 11 + 3), none⟩) hb).trans (hc (k * 11 + 3) (by rw [length_flat _ 11 ATold.cells_len]; exact pos_lt hk (by decide)))
    rw [getD_flat _ 11 ATold.cells_len _ _ _ hk (by decide)] at this
    simpa [← Nat.add_assoc, ATold.cells] using this
  · have := (hbw.cell (p := ⟨b, off + (k * 11 + 4), none⟩) hb).trans (hc (k * 11 + 4) (by rw [length_flat _ 11 ATold.cells_len]; exact pos_lt hk (by decide)))
    rw [getD_flat _ 11 ATold.cells_len _ _ _ hk (by decide)] at this
    simpa [← Nat.add_assoc, ATold.cells] using this
  · have := (hbw.cell (p := ⟨b, off + (k * 11 + 5), none⟩) hb).trans (hc (k * 11 + 5) (by rw [length_flat _ 11 ATold.cells_len]; exact pos_lt hk (by decide)))
    rw [getD_flat _ 11 ATold.cells_len _ _ _ hk (by decide)] at this
    simpa [← Nat.add_assoc, ATold.cells] using this
  · have := (hbw.cell (p := ⟨b, off + (k * 11 + 6), none⟩) hb).trans (hc (k * 11 + 6) (by rw [length_flat _ 11 ATold.cells_len]; exact pos_lt hk (by decide)))
    rw [getD_flat _ 11 ATold.cells_len _ _ _ hk (by decide)] at this
    simpa [← Nat.add_assoc, ATold.cells] using this
  · have := (hbw.cell (p := ⟨b, off + (k * 11 + 7), none⟩) hb).trans (hc (k * 11 + 7) (by rw [length_flat _ 11 ATold.cells_len]; exact pos_lt hk (by decide)))
    rw [getD_flat _ 11 ATold.cells_len _ _ _ hk (by decide)] at this
    simpa [← Nat.add_assoc, ATold.cells] using this
  · have := (hbw.cell (p := ⟨b, off + (k * 11 + 8), none⟩) hb).trans (hc (k * 11 + 8) (by rw [length_flat _ 11 ATold.cells_len]; exact pos_lt hk (by decide)))
    rw [getD_flat _ 11 ATold.cells_len _ _ _ hk (by decide)] at this
    simpa [← Nat.add_assoc, ATold.cells] using this
  · have := (hbw.cell (p := ⟨b, off + (k * 11 + 9), none⟩) hb).trans (hc (k * 11 + 9) (by rw [length_flat _ 11 ATold.cells_len]; exact pos_lt hk (by decide)))
    rw [getD_flat _ 11 ATold.cells_len _ _ _ hk (by decide)] at this
    simpa [← Nat.add_assoc, ATold.cells] using this
  · have := (hbw.cell (p := ⟨b, off + (k * 11 + 10), none⟩) hb).trans (hc (k * 11 + 10) (by rw [length_flat _ 11 ATold.cells_len]; exact pos_lt hk (by decide)))
    rw [getD_flat _ 11 ATold.cells_len _ _ _ hk (by decide)] at this
    simpa [← Nat.add_assoc, ATold.cells] using this
theorem elWindow {w W : World} {b off : Nat} {xs : List AWindow} (hb : b < w.heap.size) (hc : ∀ j, j < (xs.flatMap AWindow.cells).length → w.cell? ⟨b, off + j, none⟩ = some ((xs.flatMap AWindow.cells).getD j undef)) (hbw : Below w.heap.size w W) (k : Nat) (hk : k < xs.length) :
    W.cell? ⟨b, off + k * 2, none⟩ = some (I (xs.getD k default).high) ∧ W.cell? ⟨b, off + k * 2 + 1, none⟩ = some (U64 (xs.getD k default).bits) := by
  refine ⟨?_, ?_⟩
  · have := (hbw.cell (p := ⟨b, off + (k * 2 + 0), none⟩) hb).trans (hc (k * 2 + 0) (by rw [length_flat _ 2 AWindow.cells_len]; exact pos_lt hk (by decide)))
    rw [getD_flat _ 2 AWindow.cells_len _ _ _ hk (by decide)] at this
    simpa [← Nat.add_assoc, AWindow.cells] using this
  · have := (hbw.cell (p := ⟨b, off + (k * 2 + 1), none⟩) hb).trans (hc (k * 2 + 1) (by rw [length_flat _ 2 AWindow.cells_len]; exact pos_lt hk (by decide)))
    rw [getD_flat _ 2 AWindow.cells_len _ _ _ hk (by decide)] at this
    simpa [← Nat.add_assoc, AWindow.cells] using this
theorem elMeter {w W : World} {b off : Nat} {xs : List AMeter} (hb : b < w.heap.size) (hc : ∀ j, j < (xs.flatMap AMeter.cells).length → w.cell? ⟨b, off + j, none⟩ = some ((xs.flatMap AMeter.cells).getD j undef)) (hbw : Below w.heap.size w W) (k : Nat) (hk : k < xs.length) :
    W.cell? ⟨b, off + k * 7, none⟩ = some (I (xs.getD k default).me) ∧ W.cell? ⟨b, off + k * 7 + 1, none⟩ = some (I (xs.getD k default).rev) ∧ W.cell? ⟨b, off + k * 7 + 2, none⟩ = some (I (xs.getD k default).credit) ∧ W.cell? ⟨b, off + k * 7 + 3, none⟩ = some (I (xs.getD k default).window.high) ∧ W.cell? ⟨b, off + k * 7 + 4, none⟩ = some (U64 (xs.getD k default).window.bits) ∧ W.cell? ⟨b, off + k * 7 + 5, none⟩ = some (I (xs.getD k default).bad) ∧ W.cell? ⟨b, off + k * 7 + 6, none⟩ = some (I (xs.getD k default).lock) := by
  refine ⟨?_, ?_, ?_, ?_, ?_, ?_, ?_⟩
  · have := (hbw.cell (p := ⟨b, off + (k * 7 + 0), none⟩) hb).trans (hc (k * 7 + 0) (by rw [length_flat _ 7 AMeter.cells_len]; exact pos_lt hk (by decide)))
    rw [getD_flat _ 7 AMeter.cells_len _ _ _ hk (by decide)] at this
    simpa [← Nat.add_assoc, AMeter.cells] using this
  · have := (hbw.cell (p := ⟨b, off + (k * 7 + 1), none⟩) hb).trans (hc (k * 7 + 1) (by rw [length_flat _ 7 AMeter.cells_len]; exact pos_lt hk (by decide)))
    rw [getD_flat _ 7 AMeter.cells_len _ _ _ hk (by decide)] at this
    simpa [← Nat.add_assoc, AMeter.cells] using this
  · have := (hbw.cell (p := ⟨b, off + (k * 7 + 2), none⟩) hb).trans (hc (k * 7 + 2) (by rw [length_flat _ 7 AMeter.cells_len]; exact pos_lt hk (by decide)))
    rw [getD_flat _ 7 AMeter.cells_len _ _ _ hk (by decide)] at this
    simpa [← Nat.add_assoc, AMeter.cells] using this
  · have := (hbw.cell (p := ⟨b, off + (k * 7 + 3), none⟩) hb).trans (hc (k * 7 + 3) (by rw [length_flat _ 7 AMeter.cells_len]; exact pos_lt hk (by decide)))
    rw [getD_flat _ 7 AMeter.cells_len _ _ _ hk (by decide)] at this
    simpa [← Nat.add_assoc, AMeter.cells] using this
  · have := (hbw.cell (p := ⟨b, off + (k * 7 + 4), none⟩) hb).trans (hc (k * 7 + 4) (by rw [length_flat _ 7 AMeter.cells_len]; exact pos_lt hk (by decide)))
    rw [getD_flat _ 7 AMeter.cells_len _ _ _ hk (by decide)] at this
    simpa [← Nat.add_assoc, AMeter.cells] using this
  · have := (hbw.cell (p := ⟨b, off + (k * 7 + 5), none⟩) hb).trans (hc (k * 7 + 5) (by rw [length_flat _ 7 AMeter.cells_len]; exact pos_lt hk (by decide)))
    rw [getD_flat _ 7 AMeter.cells_len _ _ _ hk (by decide)] at this
    simpa [← Nat.add_assoc, AMeter.cells] using this
  · have := (hbw.cell (p := ⟨b, off + (k * 7 + 6), none⟩) hb).trans (hc (k * 7 + 6) (by rw [length_flat _ 7 AMeter.cells_len]; exact pos_lt hk (by decide)))
    rw [getD_flat _ 7 AMeter.cells_len _ _ _ hk (by decide)] at this
    simpa [← Nat.add_assoc, AMeter.cells] using this
theorem elToken {w W : World} {b off : Nat} {xs : List AToken} (hb : b < w.heap.size) (hc : ∀ j, j < (xs.flatMap AToken.cells).length → w.cell? ⟨b, off + j, none⟩ = some ((xs.flatMap AToken.cells).getD j undef)) (hbw : Below w.heap.size w W) (k : Nat) (hk : k < xs.length) :
    W.cell? ⟨b, off + k * 4, none⟩ = some (I (xs.getD k default).class_) ∧ W.cell? ⟨b, off + k * 4 + 1, none⟩ = some (I (xs.getD k default).id) ∧ W.cell? ⟨b, off + k * 4 + 2, none⟩ = some (I (xs.getD k default).amount) ∧ W.cell? ⟨b, off + k * 4 + 3, none⟩ = some (I (xs.getD k default).tag) := by
  refine ⟨?_, ?_, ?_, ?_⟩
  · have := (hbw.cell (p := ⟨b, off + (k * 4 + 0), none⟩) hb).trans (hc (k * 4 + 0) (by rw [length_flat _ 4 AToken.cells_len]; exact pos_lt hk (by decide)))
    rw [getD_flat _ 4 AToken.cells_len _ _ _ hk (by decide)] at this
    simpa [← Nat.add_assoc, AToken.cells] using this
  · have := (hbw.cell (p := ⟨b, off + (k * 4 + 1), none⟩) hb).trans (hc (k * 4 + 1) (by rw [length_flat _ 4 AToken.cells_len]; exact pos_lt hk (by decide)))
    rw [getD_flat _ 4 AToken.cells_len _ _ _ hk (by decide)] at this
    simpa [← Nat.add_assoc, AToken.cells] using this
  · have := (hbw.cell (p := ⟨b, off + (k * 4 + 2), none⟩) hb).trans (hc (k * 4 + 2) (by rw [length_flat _ 4 AToken.cells_len]; exact pos_lt hk (by decide)))
    rw [getD_flat _ 4 AToken.cells_len _ _ _ hk (by decide)] at this
    simpa [← Nat.add_assoc, AToken.cells] using this
  · have := (hbw.cell (p := ⟨b, off + (k * 4 + 3), none⟩) hb).trans (hc (k * 4 + 3) (by rw [length_flat _ 4 AToken.cells_len]; exact pos_lt hk (by decide)))
    rw [getD_flat _ 4 AToken.cells_len _ _ _ hk (by decide)] at this
    simpa [← Nat.add_assoc, AToken.cells] using this
theorem elDate {w W : World} {b off : Nat} {xs : List ADate} (hb : b < w.heap.size) (hc : ∀ j, j < (xs.flatMap ADate.cells).length → w.cell? ⟨b, off + j, none⟩ = some ((xs.flatMap ADate.cells).getD j undef)) (hbw : Below w.heap.size w W) (k : Nat) (hk : k < xs.length) :
    W.cell? ⟨b, off + k * 3, none⟩ = some (I (xs.getD k default).year) ∧ W.cell? ⟨b, off + k * 3 + 1, none⟩ = some (I (xs.getD k default).month) ∧ W.cell? ⟨b, off + k * 3 + 2, none⟩ = some (I (xs.getD k default).day) := by
  refine ⟨?_, ?_, ?_⟩
  · have := (hbw.cell (p := ⟨b, off + (k * 3 + 0), none⟩) hb).trans (hc (k * 3 + 0) (by rw [length_flat _ 3 ADate.cells_len]; exact pos_lt hk (by decide)))
    rw [getD_flat _ 3 ADate.cells_len _ _ _ hk (by decide)] at this
    simpa [← Nat.add_assoc, ADate.cells] using this
  · have := (hbw.cell (p := ⟨b, off + (k * 3 + 1), none⟩) hb).trans (hc (k * 3 + 1) (by rw [length_flat _ 3 ADate.cells_len]; exact pos_lt hk (by decide)))
    rw [getD_flat _ 3 ADate.cells_len _ _ _ hk (by decide)] at this
    simpa [← Nat.add_assoc, ADate.cells] using this
  · have := (hbw.cell (p := ⟨b, off + (k * 3 + 2), none⟩) hb).trans (hc (k * 3 + 2) (by rw [length_flat _ 3 ADate.cells_len]; exact pos_lt hk (by decide)))
    rw [getD_flat _ 3 ADate.cells_len _ _ _ hk (by decide)] at this
    simpa [← Nat.add_assoc, ADate.cells] using this
theorem elPad {w W : World} {b off : Nat} {xs : List APad} (hb : b < w.heap.size) (hc : ∀ j, j < (xs.flatMap APad.cells).length → w.cell? ⟨b, off + j, none⟩ = some ((xs.flatMap APad.cells).getD j undef)) (hbw : Below w.heap.size w W) (k : Nat) (hk : k < xs.length) :
    W.cell? ⟨b, off + k * 2, none⟩ = some (.string (xs.getD k default).digits) ∧ W.cell? ⟨b, off + k * 2 + 1, none⟩ = some (.bool (xs.getD k default).bad) := by
  refine ⟨?_, ?_⟩
  · have := (hbw.cell (p := ⟨b, off + (k * 2 + 0), none⟩) hb).trans (hc (k * 2 + 0) (by rw [length_flat _ 2 APad.cells_len]; exact pos_lt hk (by decide)))
    rw [getD_flat _ 2 APad.cells_len _ _ _ hk (by decide)] at this
    simpa [← Nat.add_assoc, APad.cells] using this
  · have := (hbw.cell (p := ⟨b, off + (k * 2 + 1), none⟩) hb).trans (hc (k * 2 + 1) (by rw [length_flat _ 2 APad.cells_len]; exact pos_lt hk (by decide)))
    rw [getD_flat _ 2 APad.cells_len _ _ _ hk (by decide)] at this
    simpa [← Nat.add_assoc, APad.cells] using this
theorem elReport {w W : World} {b off : Nat} {xs : List AReport} (hb : b < w.heap.size) (hc : ∀ j, j < (xs.flatMap AReport.cells).length → w.cell? ⟨b, off + j, none⟩ = some ((xs.flatMap AReport.cells).getD j undef)) (hbw : Below w.heap.size w W) (k : Nat) (hk : k < xs.length) :
    W.cell? ⟨b, off + k * 7, none⟩ = some (I (xs.getD k default).taken) ∧ W.cell? ⟨b, off + k * 7 + 1, none⟩ = some (I (xs.getD k default).open_) ∧ W.cell? ⟨b, off + k * 7 + 2, none⟩ = some (I (xs.getD k default).lost) ∧ W.cell? ⟨b, off + k * 7 + 3, none⟩ = some (I (xs.getD k default).strange) ∧ W.cell? ⟨b, off + k * 7 + 4, none⟩ = some (I (xs.getD k default).u0) ∧ W.cell? ⟨b, off + k * 7 + 5, none⟩ = some (I (xs.getD k default).u1) ∧ W.cell? ⟨b, off + k * 7 + 6, none⟩ = some (I (xs.getD k default).u2) := by
  refine ⟨?_, ?_, ?_, ?_, ?_, ?_, ?_⟩
  · have := (hbw.cell (p := ⟨b, off + (k * 7 + 0), none⟩) hb).trans (hc (k * 7 + 0) (by rw [length_flat _ 7 AReport.cells_len]; exact pos_lt hk (by decide)))
    rw [getD_flat _ 7 AReport.cells_len _ _ _ hk (by decide)] at this
    simpa [← Nat.add_assoc, AReport.cells] using this
  · have := (hbw.cell (p := ⟨b, off + (k * 7 + 1), none⟩) hb).trans (hc (k * 7 + 1) (by rw [length_flat _ 7 AReport.cells_len]; exact pos_lt hk (by decide)))
    rw [getD_flat _ 7 AReport.cells_len _ _ _ hk (by decide)] at this
    simpa [← Nat.add_assoc, AReport.cells] using this
  · have := (hbw.cell (p := ⟨b, off + (k * 7 + 2), none⟩) hb).trans (hc (k * 7 + 2) (by rw [length_flat _ 7 AReport.cells_len]; exact pos_lt hk (by decide)))
    rw [getD_flat _ 7 AReport.cells_len _ _ _ hk (by decide)] at this
    simpa [← Nat.add_assoc, AReport.cells] using this
  · have := (hbw.cell (p := ⟨b, off + (k * 7 + 3), none⟩) hb).trans (hc (k * 7 + 3) (by rw [length_flat _ 7 AReport.cells_len]; exact pos_lt hk (by decide)))
    rw [getD_flat _ 7 AReport.cells_len _ _ _ hk (by decide)] at this
    simpa [← Nat.add_assoc, AReport.cells] using this
  · have := (hbw.cell (p := ⟨b, off + (k * 7 + 4), none⟩) hb).trans (hc (k * 7 + 4) (by rw [length_flat _ 7 AReport.cells_len]; exact pos_lt hk (by decide)))
    rw [getD_flat _ 7 AReport.cells_len _ _ _ hk (by decide)] at this
    simpa [← Nat.add_assoc, AReport.cells] using this
  · have := (hbw.cell (p := ⟨b, off + (k * 7 + 5), none⟩) hb).trans (hc (k * 7 + 5) (by rw [length_flat _ 7 AReport.cells_len]; exact pos_lt hk (by decide)))
    rw [getD_flat _ 7 AReport.cells_len _ _ _ hk (by decide)] at this
    simpa [← Nat.add_assoc, AReport.cells] using this
  · have := (hbw.cell (p := ⟨b, off + (k * 7 + 6), none⟩) hb).trans (hc (k * 7 + 6) (by rw [length_flat _ 7 AReport.cells_len]; exact pos_lt hk (by decide)))
    rw [getD_flat _ 7 AReport.cells_len _ _ _ hk (by decide)] at this
    simpa [← Nat.add_assoc, AReport.cells] using this
theorem elShown {w W : World} {b off : Nat} {xs : List AShown} (hb : b < w.heap.size) (hc : ∀ j, j < (xs.flatMap AShown.cells).length → w.cell? ⟨b, off + j, none⟩ = some ((xs.flatMap AShown.cells).getD j undef)) (hbw : Below w.heap.size w W) (k : Nat) (hk : k < xs.length) :
    W.cell? ⟨b, off + k * 3, none⟩ = some (I (xs.getD k default).me) ∧ W.cell? ⟨b, off + k * 3 + 1, none⟩ = some (I (xs.getD k default).credit) ∧ W.cell? ⟨b, off + k * 3 + 2, none⟩ = some (I (xs.getD k default).high) := by
  refine ⟨?_, ?_, ?_⟩
  · have := (hbw.cell (p := ⟨b, off + (k * 3 + 0), none⟩) hb).trans (hc (k * 3 + 0) (by rw [length_flat _ 3 AShown.cells_len]; exact pos_lt hk (by decide)))
    rw [getD_flat _ 3 AShown.cells_len _ _ _ hk (by decide)] at this
    simpa [← Nat.add_assoc, AShown.cells] using this
  · have := (hbw.cell (p := ⟨b, off + (k * 3 + 1), none⟩) hb).trans (hc (k * 3 + 1) (by rw [length_flat _ 3 AShown.cells_len]; exact pos_lt hk (by decide)))
    rw [getD_flat _ 3 AShown.cells_len _ _ _ hk (by decide)] at this
    simpa [← Nat.add_assoc, AShown.cells] using this
  · have := (hbw.cell (p := ⟨b, off + (k * 3 + 2), none⟩) hb).trans (hc (k * 3 + 2) (by rw [length_flat _ 3 AShown.cells_len]; exact pos_lt hk (by decide)))
    rw [getD_flat _ 3 AShown.cells_len _ _ _ hk (by decide)] at this
    simpa [← Nat.add_assoc, AShown.cells] using this
theorem elReceipt {w W : World} {b off : Nat} {xs : List AReceipt} (hb : b < w.heap.size) (hc : ∀ j, j < (xs.flatMap AReceipt.cells).length → w.cell? ⟨b, off + j, none⟩ = some ((xs.flatMap AReceipt.cells).getD j undef)) (hbw : Below w.heap.size w W) (k : Nat) (hk : k < xs.length) :
    W.cell? ⟨b, off + k * 9, none⟩ = some (I (xs.getD k default).meter) ∧ W.cell? ⟨b, off + k * 9 + 1, none⟩ = some (I (xs.getD k default).bill.id) ∧ W.cell? ⟨b, off + k * 9 + 2, none⟩ = some (I (xs.getD k default).bill.tender) ∧ W.cell? ⟨b, off + k * 9 + 3, none⟩ = some (I (xs.getD k default).bill.debt) ∧ W.cell? ⟨b, off + k * 9 + 4, none⟩ = some (I (xs.getD k default).bill.fee) ∧ W.cell? ⟨b, off + k * 9 + 5, none⟩ = some (I (xs.getD k default).bill.price) ∧ W.cell? ⟨b, off + k * 9 + 6, none⟩ = some (I (xs.getD k default).bill.change) ∧ W.cell? ⟨b, off + k * 9 + 7, none⟩ = some (I (xs.getD k default).bill.units) ∧ W.cell? ⟨b, off + k * 9 + 8, none⟩ = some (.string (xs.getD k default).token) := by
  refine ⟨?_, ?_, ?_, ?_, ?_, ?_, ?_, ?_, ?_⟩
  · have := (hbw.cell (p := ⟨b, off + (k * 9 + 0), none⟩) hb).trans (hc (k * 9 + 0) (by rw [length_flat _ 9 AReceipt.cells_len]; exact pos_lt hk (by decide)))
    rw [getD_flat _ 9 AReceipt.cells_len _ _ _ hk (by decide)] at this
    simpa [← Nat.add_assoc, AReceipt.cells] using this
  · have := (hbw.cell (p := ⟨b, off + (k * 9 + 1), none⟩) hb).trans (hc (k * 9 + 1) (by rw [length_flat _ 9 AReceipt.cells_len]; exact pos_lt hk (by decide)))
    rw [getD_flat _ 9 AReceipt.cells_len _ _ _ hk (by decide)] at this
    simpa [← Nat.add_assoc, AReceipt.cells] using this
  · have := (hbw.cell (p := ⟨b, off + (k * 9 + 2), none⟩) hb).trans (hc (k * 9 + 2) (by rw [length_flat _ 9 AReceipt.cells_len]; exact pos_lt hk (by decide)))
    rw [getD_flat _ 9 AReceipt.cells_len _ _ _ hk (by decide)] at this
    simpa [← Nat.add_assoc, AReceipt.cells] using this
  · have := (hbw.cell (p := ⟨b, off + (k * 9 + 3), none⟩) hb).trans (hc (k * 9 + 3) (by rw [length_flat _ 9 AReceipt.cells_len]; exact pos_lt hk (by decide)))
    rw [getD_flat _ 9 AReceipt.cells_len _ _ _ hk (by decide)] at this
    simpa [← Nat.add_assoc, AReceipt.cells] using this
  · have := (hbw.cell (p := ⟨b, off + (k * 9 + 4), none⟩) hb).trans (hc (k * 9 + 4) (by rw [length_flat _ 9 AReceipt.cells_len]; exact pos_lt hk (by decide)))
    rw [getD_flat _ 9 AReceipt.cells_len _ _ _ hk (by decide)] at this
    simpa [← Nat.add_assoc, AReceipt.cells] using this
  · have := (hbw.cell (p := ⟨b, off + (k * 9 + 5), none⟩) hb).trans (hc (k * 9 + 5) (by rw [length_flat _ 9 AReceipt.cells_len]; exact pos_lt hk (by decide)))
    rw [getD_flat _ 9 AReceipt.cells_len _ _ _ hk (by decide)] at this
    simpa [← Nat.add_assoc, AReceipt.cells] using this
  · have := (hbw.cell (p := ⟨b, off + (k * 9 + 6), none⟩) hb).trans (hc (k * 9 + 6) (by rw [length_flat _ 9 AReceipt.cells_len]; exact pos_lt hk (by decide)))
    rw [getD_flat _ 9 AReceipt.cells_len _ _ _ hk (by decide)] at this
    simpa [← Nat.add_assoc, AReceipt.cells] using this
  · have := (hbw.cell (p := ⟨b, off + (k * 9 + 7), none⟩) hb).trans (hc (k * 9 + 7) (by rw [length_flat _ 9 AReceipt.cells_len]; exact pos_lt hk (by decide)))
    rw [getD_flat _ 9 AReceipt.cells_len _ _ _ hk (by decide)] at this
    simpa [← Nat.add_assoc, AReceipt.cells] using this
  · have := (hbw.cell (p := ⟨b, off + (k * 9 + 8), none⟩) hb).trans (hc (k * 9 + 8) (by rw [length_flat _ 9 AReceipt.cells_len]; exact pos_lt hk (by decide)))
    rw [getD_flat _ 9 AReceipt.cells_len _ _ _ hk (by decide)] at this
    simpa [← Nat.add_assoc, AReceipt.cells] using this
end Go.Proofs.YtmciccnmpoijdaaGreatDoor
