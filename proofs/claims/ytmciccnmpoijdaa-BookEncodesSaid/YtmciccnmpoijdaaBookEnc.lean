/- book.Encode -/
import Derived.Test.YtmciccnmpoijdaaBookCheck
import Derived.Test.YtmciccnmpoijdaaInfoU
import Derived.StillTailTactics
import Derived.Defers
namespace Go.Proofs.Ytmciccnmpoijdaa
open Go Go.RowKit
set_option maxRecDepth 20000

abbrev fieldsV (g : Nat) : Value := .agg #[.pointer (some ⟨g, 0, none⟩), .pointer (some ⟨g, 1, none⟩), .pointer (some ⟨g, 2, none⟩), .pointer (some ⟨g, 3, none⟩), .pointer (some ⟨g, 4, none⟩), .pointer (some ⟨g, 5, none⟩), .pointer (some ⟨g, 6, none⟩), .pointer (some ⟨g, 7, none⟩), .pointer (some ⟨g, 8, none⟩), .pointer (some ⟨g, 9, none⟩), .pointer (some ⟨g, 10, none⟩), .pointer (some ⟨g, 11, none⟩), .pointer (some ⟨g, 12, none⟩)]
set_option maxHeartbeats 2000000 in
theorem fields_any (g : Nat) (w : World) : Calls Try.prog 32 #[.pointer (some ⟨g, 0, none⟩)] w (Grew (fieldsV g) w) := by
  have O := Lib.hid (Own.new (w := w) rfl [.pointer none, .pointer none, .pointer none, .pointer none, .pointer none, .pointer none, .pointer none, .pointer none, .pointer none, .pointer none, .pointer none, .pointer none, .pointer none] 72)
  have k0 := boxed_below w (.cells #[.pointer none, .pointer none, .pointer none, .pointer none, .pointer none, .pointer none, .pointer none, .pointer none, .pointer none, .pointer none, .pointer none, .pointer none, .pointer none] 72)
  go_enter Try.func32, Try.ntmps32
  go_wp2
  generalize w.alloc (.cells #[.pointer none, .pointer none, .pointer none, .pointer none, .pointer none, .pointer none, .pointer none, .pointer none, .pointer none, .pointer none, .pointer none, .pointer none, .pointer none] 72) = W at *
  have hz : w.heap.size < W.heap.size := O.out.lt
  have zO := O.out
  have z0 := zO.cell 0 (by simp)
  have zf0 := zO.frozen 0
  have z1 := zO.cell 1 (by simp)
  have zf1 := zO.frozen 1
  have z2 := zO.cell 2 (by simp)
  have zf2 := zO.frozen 2
  have z3 := zO.cell 3 (by simp)
  have zf3 := zO.frozen 3
  have z4 := zO.cell 4 (by simp)
  have zf4 := zO.frozen 4
  have z5 := zO.cell 5 (by simp)
  have zf5 := zO.frozen 5
  have z6 := zO.cell 6 (by simp)
  have zf6 := zO.frozen 6
  have z7 := zO.cell 7 (by simp)
  have zf7 := zO.frozen 7
  have z8 := zO.cell 8 (by simp)
  have zf8 := zO.frozen 8
  have z9 := zO.cell 9 (by simp)
  have zf9 := zO.frozen 9
  have z10 := zO.cell 10 (by simp)
  have zf10 := zO.frozen 10
  have z11 := zO.cell 11 (by simp)
  have zf11 := zO.frozen 11
  have z12 := zO.cell 12 (by simp)
  have zf12 := zO.frozen 12
  simp only [Nat.zero_add, List.getD_cons_zero, List.getD_cons_succ] at z0 z1 z2 z3 z4 z5 z6 z7 z8 z9 z10 z11 z12
  clear zO
  have y0 : ({ heap := W.heap, tape := W.tape, drawn := W.drawn + 1, os := W.os, output := W.output } : World).cell? ⟨w.heap.size, 0, none⟩ = some (.pointer none) := z0
  have yf0 : ({ heap := W.heap, tape := W.tape, drawn := W.drawn + 1, os := W.os, output := W.output } : World).frozen? ⟨w.heap.size, 0, none⟩ = false := zf0
  have y1 : ({ heap := W.heap, tape := W.tape, drawn := W.drawn + 1, os := W.os, output := W.output } : World).cell? ⟨w.heap.size, 1, none⟩ = some (.pointer none) := z1
  have yf1 : ({ heap := W.heap, tape := W.tape, drawn := W.drawn + 1, os := W.os, output := W.output } : World).frozen? ⟨w.heap.size, 1, none⟩ = false := zf1
  have y2 : ({ heap := W.heap, tape := W.tape, drawn := W.drawn + 1, os := W.os, output := W.output } : World).cell? ⟨w.heap.size, 2, none⟩ = some (.pointer none) := z2
  have yf2 : ({ heap := W.heap, tape := W.tape, drawn := W.drawn + 1, os := W.os, output := W.output } : World).frozen? ⟨w.heap.size, 2, none⟩ = false := zf2
  have y3 : ({ heap := W.heap, tape := W.tape, drawn := W.drawn + 1, os := W.os, output := W.output } : World).cell? ⟨w.heap.size, 3, none⟩ = some (.pointer none) := z3
  have yf3 : ({ heap := W.heap, tape := W.tape, drawn := W.drawn + 1, os := W.os, output := W.output } : World).frozen? ⟨w.heap.size, 3, none⟩ = false := zf3
  have y4 : ({ heap := W.heap, tape := W.tape, drawn := W.drawn + 1, os := W.os, output := W.output } : World).cell? ⟨w.heap.size, 4, none⟩ = some (.pointer none) := z4
  have yf4 : ({ heap := W.heap, tape := W.tape, drawn := W.drawn + 1, os := W.os, output := W.output } : World).frozen? ⟨w.heap.size, 4, none⟩ = false := zf4
  have y5 : ({ heap := W.heap, tape := W.tape, drawn := W.drawn + 1, os := W.os, output := W.output } : World).cell? ⟨w.heap.size, 5, none⟩ = some (.pointer none) := z5
  have yf5 : ({ heap := W.heap, tape := W.tape, drawn := W.drawn + 1, os := W.os, output := W.output } : World).frozen? ⟨w.heap.size, 5, none⟩ = false := zf5
  have y6 : ({ heap := W.heap, tape := W.tape, drawn := W.drawn + 1, os := W.os, output := W.output } : World).cell? ⟨w.heap.size, 6, none⟩ = some (.pointer none) := z6
  have yf6 : ({ heap := W.heap, tape := W.tape, drawn := W.drawn + 1, os := W.os, output := W.output } : World).frozen? ⟨w.heap.size, 6, none⟩ = false := zf6
  have y7 : ({ heap := W.heap, tape := W.tape, drawn := W.drawn + 1, os := W.os, output := W.output } : World).cell? ⟨w.heap.size, 7, none⟩ = some (.pointer none) := z7
  have yf7 : ({ heap := W.heap, tape := W.tape, drawn := W.drawn + 1, os := W.os, output := W.output } : World).frozen? ⟨w.heap.size, 7, none⟩ = false := zf7
  have y8 : ({ heap := W.heap, tape := W.tape, drawn := W.drawn + 1, os := W.os, output := W.output } : World).cell? ⟨w.heap.size, 8, none⟩ = some (.pointer none) := z8
  have yf8 : ({ heap := W.heap, tape := W.tape, drawn := W.drawn + 1, os := W.os, output := W.output } : World).frozen? ⟨w.heap.size, 8, none⟩ = false := zf8
  have y9 : ({ heap := W.heap, tape := W.tape, drawn := W.drawn + 1, os := W.os, output := W.output } : World).cell? ⟨w.heap.size, 9, none⟩ = some (.pointer none) := z9
  have yf9 : ({ heap := W.heap, tape := W.tape, drawn := W.drawn + 1, os := W.os, output := W.output } : World).frozen? ⟨w.heap.size, 9, none⟩ = false := zf9
  have y10 : ({ heap := W.heap, tape := W.tape, drawn := W.drawn + 1, os := W.os, output := W.output } : World).cell? ⟨w.heap.size, 10, none⟩ = some (.pointer none) := z10
  have yf10 : ({ heap := W.heap, tape := W.tape, drawn := W.drawn + 1, os := W.os, output := W.output } : World).frozen? ⟨w.heap.size, 10, none⟩ = false := zf10
  have y11 : ({ heap := W.heap, tape := W.tape, drawn := W.drawn + 1, os := W.os, output := W.output } : World).cell? ⟨w.heap.size, 11, none⟩ = some (.pointer none) := z11
  have yf11 : ({ heap := W.heap, tape := W.tape, drawn := W.drawn + 1, os := W.os, output := W.output } : World).frozen? ⟨w.heap.size, 11, none⟩ = false := zf11
  have y12 : ({ heap := W.heap, tape := W.tape, drawn := W.drawn + 1, os := W.os, output := W.output } : World).cell? ⟨w.heap.size, 12, none⟩ = some (.pointer none) := z12
  have yf12 : ({ heap := W.heap, tape := W.tape, drawn := W.drawn + 1, os := W.os, output := W.output } : World).frozen? ⟨w.heap.size, 12, none⟩ = false := zf12
  have kk : Below w.heap.size w ({ heap := W.heap, tape := W.tape, drawn := W.drawn + 1, os := W.os, output := W.output } : World) := ⟨k0.os, k0.tape, k0.output, k0.size, k0.block⟩
  clear z0 z1 z2 z3 z4 z5 z6 z7 z8 z9 z10 z11 z12 zf0 zf1 zf2 zf3 zf4 zf5 zf6 zf7 zf8 zf9 zf10 zf11 zf12 k0
  go_still_tail 42, (by kernel_rfl)
  generalize ({ heap := W.heap, tape := W.tape, drawn := W.drawn + 1, os := W.os, output := W.output } : World) = V at *
  have r1 := set_same
  have r2 := set_off
  have r3 := set_blk
  go_wp2
  exact bodyPost_ret (v := fieldsV g) (by simp [results, Try.results32, go_sem, *]; try omega) rfl (⟨rfl, (by repeat first | with_reducible assumption | with_reducible exact Below.refl _ _ | with_reducible refine Below.setCell ?_ (by first | exact Nat.le_refl _ | exact Below.size (by assumption) | (simp; done) | (simp; omega) | omega) _ | with_reducible refine Below.alloc ?_ (by first | exact Nat.le_refl _ | exact Below.size (by assumption) | (simp; done) | (simp; omega) | omega) _ | with_reducible refine drewN_below ?_ _ | with_reducible refine Below.drew ?_)⟩)
theorem index13 (g k : Nat) (hk : k < 13) (w : World) : (Instr.index 72 (fieldsV g) (I k)).run Try.prog w = .ok (.pointer (some ⟨g, k, none⟩)) w := by
  have h0 : (Instr.index 72 (fieldsV g) (I 0)).run Try.prog w = .ok (.pointer (some ⟨g, 0, none⟩)) w := by kernel_rfl
  have h1 : (Instr.index 72 (fieldsV g) (I 1)).run Try.prog w = .ok (.pointer (some ⟨g, 1, none⟩)) w := by kernel_rfl
  have h2 : (Instr.index 72 (fieldsV g) (I 2)).run Try.prog w = .ok (.pointer (some ⟨g, 2, none⟩)) w := by kernel_rfl
  have h3 : (Instr.index 72 (fieldsV g) (I 3)).run Try.prog w = .ok (.pointer (some ⟨g, 3, none⟩)) w := by kernel_rfl
  have h4 : (Instr.index 72 (fieldsV g) (I 4)).run Try.prog w = .ok (.pointer (some ⟨g, 4, none⟩)) w := by kernel_rfl
  have h5 : (Instr.index 72 (fieldsV g) (I 5)).run Try.prog w = .ok (.pointer (some ⟨g, 5, none⟩)) w := by kernel_rfl
  have h6 : (Instr.index 72 (fieldsV g) (I 6)).run Try.prog w = .ok (.pointer (some ⟨g, 6, none⟩)) w := by kernel_rfl
  have h7 : (Instr.index 72 (fieldsV g) (I 7)).run Try.prog w = .ok (.pointer (some ⟨g, 7, none⟩)) w := by kernel_rfl
  have h8 : (Instr.index 72 (fieldsV g) (I 8)).run Try.prog w = .ok (.pointer (some ⟨g, 8, none⟩)) w := by kernel_rfl
  have h9 : (Instr.index 72 (fieldsV g) (I 9)).run Try.prog w = .ok (.pointer (some ⟨g, 9, none⟩)) w := by kernel_rfl
  have h10 : (Instr.index 72 (fieldsV g) (I 10)).run Try.prog w = .ok (.pointer (some ⟨g, 10, none⟩)) w := by kernel_rfl
  have h11 : (Instr.index 72 (fieldsV g) (I 11)).run Try.prog w = .ok (.pointer (some ⟨g, 11, none⟩)) w := by kernel_rfl
  have h12 : (Instr.index 72 (fieldsV g) (I 12)).run Try.prog w = .ok (.pointer (some ⟨g, 12, none⟩)) w := by kernel_rfl
  match k, hk with
  | 0, _ => exact h0
  | 1, _ => exact h1
  | 2, _ => exact h2
  | 3, _ => exact h3
  | 4, _ => exact h4
  | 5, _ => exact h5
  | 6, _ => exact h6
  | 7, _ => exact h7
  | 8, _ => exact h8
  | 9, _ => exact h9
  | 10, _ => exact h10
  | 11, _ => exact h11
  | 12, _ => exact h12
end Go.Proofs.Ytmciccnmpoijdaa
