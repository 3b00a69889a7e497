/- sameSteps: are two lists the same? (made by wip/bin/gen_api.py) -/
import Derived.Test.YtenoigmkhlnfoaaApi
namespace Go.Proofs.Ytenoigmkhlnfoaa
set_option linter.unusedSimpArgs false
set_option linter.unusedVariables false
open Go.RowKit
set_option maxRecDepth 20000

theorem neqStep_run (x y : AStep) (w : World) : (binOp .neq 137 (.agg #[I x.upto, I x.price]) (.agg #[I y.upto, I y.price])).run Try.prog w = .ok (.bool (!decide (x = y))) w := by
  have hpStep : Try.prog.stoodInHeld 137 = false := by kernel_rfl
  have htStep : Try.prog.underlying 137 = some (.struct (Try.prog.fieldsOf 137)) := by kernel_rfl
  rw [run_neq_struct, run_equalIn_struct w 9999 137 _ _ htStep hpStep]
  simp [go_sem]
  obtain ⟨x0, x1⟩ := x
  obtain ⟨y0, y1⟩ := y
  clear hpStep htStep
  simp only [AStep.mk.injEq]
  (repeat' split) <;> simp_all

set_option maxHeartbeats 1000000 in
theorem sameSteps_any (v1 v2 : Value) (xs ys : List AStep) (w : World) (h1 : Sl w v1 2 xs.length (xs.flatMap AStep.cells)) (h2 : Sl w v2 2 ys.length (ys.flatMap AStep.cells)) :
    Calls Try.prog 48 #[v1, v2] w (Grew (.bool (decide (xs = ys))) w) := by
  obtain ⟨a1, c1, rfl, hn1, _, _, h1⟩ := h1
  obtain ⟨a2, c2, rfl, hn2, _, _, h2⟩ := h2
  by_cases hl : xs.length = ys.length
  · have hb : ((xs.length : Int) != (ys.length : Int)) = false := by simp [hl]
    have hl1 : xs.length ≤ ys.length := by omega
    have hl2 : ys.length ≤ xs.length := by omega
    clear hl
    have hm : Try.prog.eqGuardType Try.prog.depth 137 = false := by kernel_rfl
    have hne := neqStep_run
    go_enter Try.func48, Try.ntmps48
    go_wp2
    go_loopw [5] (fun i wr => ∃ k : Nat, k ≤ xs.length ∧ i = I k ∧ xs.take k = ys.take k ∧ Below w.heap.size w wr) (fun i _ => xs.length - (intOf i).toNat)
    case atStart => exact ⟨0, Nat.zero_le _, rfl, rfl, Below.refl _ _⟩
    case round =>
      obtain ⟨k, hk, rfl, htk, hbw⟩ := hrel
      have Htk := Lib.hid htk
      clear htk
      by_cases hlt : k < xs.length
      · obtain ⟨b1, o1, rfl, hb1, hc1⟩ := h1.resolve_left (by omega)
        obtain ⟨b2, o2, rfl, hb2, hc2⟩ := h2.resolve_left (by omega)
        have e1_0 : wr.cell? ⟨b1, o1 + k * 2, none⟩ = some (I (xs.getD k default).upto) := by
          have := (hbw.cell (p := ⟨b1, o1 + (k * 2 + 0), none⟩) hb1).trans (hc1 (k * 2 + 0) (by rw [length_flat _ 2 AStep.cells_len]; exact pos_lt (by omega) (by decide)))
          rw [getD_flat _ 2 AStep.cells_len _ _ _ (by omega) (by decide)] at this
          simpa [← Nat.add_assoc, AStep.cells] using this
        have e1_1 : wr.cell? ⟨b1, o1 + k * 2 + 1, none⟩ = some (I (xs.getD k default).price) := by
          have := (hbw.cell (p := ⟨b1, o1 + (k * 2 + 1), none⟩) hb1).trans (hc1 (k * 2 + 1) (by rw [length_flat _ 2 AStep.cells_len]; exact pos_lt (by omega) (by decide)))
          rw [getD_flat _ 2 AStep.cells_len _ _ _ (by omega) (by decide)] at this
          simpa [← Nat.add_assoc, AStep.cells] using this
        have e2_0 : wr.cell? ⟨b2, o2 + k * 2, none⟩ = some (I (ys.getD k default).upto) := by
          have := (hbw.cell (p := ⟨b2, o2 + (k * 2 + 0), none⟩) hb2).trans (hc2 (k * 2 + 0) (by rw [length_flat _ 2 AStep.cells_len]; exact pos_lt (by omega) (by decide)))
          rw [getD_flat _ 2 AStep.cells_len _ _ _ (by omega) (by decide)] at this
          simpa [← Nat.add_assoc, AStep.cells] using this
        have e2_1 : wr.cell? ⟨b2, o2 + k * 2 + 1, none⟩ = some (I (ys.getD k default).price) := by
          have := (hbw.cell (p := ⟨b2, o2 + (k * 2 + 1), none⟩) hb2).trans (hc2 (k * 2 + 1) (by rw [length_flat _ 2 AStep.cells_len]; exact pos_lt (by omega) (by decide)))
          rw [getD_flat _ 2 AStep.cells_len _ _ _ (by omega) (by decide)] at this
          simpa [← Nat.add_assoc, AStep.cells] using this
        clear hc1 hc2 h1 h2
        have hi0 : (0 : Int) ≤ (k : Int) := by omega
        have hi1 : (k : Int) < (xs.length : Int) := by omega
        have hi2 : (k : Int) < (ys.length : Int) := by omega
        by_cases hv : xs.getD k default = ys.getD k default
        · have hv' : decide (xs.getD k default = ys.getD k default) = true := decide_eq_true hv
          have hs := Lib.hid (take_succ_of hlt (by omega) Htk.out hv)
          clear hv
          generalize xs.getD k default = x at *
          generalize ys.getD k default = y at *
          go_wp2
          go_quiet (fail)
          go_wp2
          exact ⟨⟨k + 1, by omega, by go_num, hs.out, drewN_below hbw _⟩, by simp [intOf]; omega⟩
        · have hv' : decide (xs.getD k default = ys.getD k default) = false := decide_eq_false hv
          have hs := Lib.hid (ne_of_getD' hv)
          clear hv
          generalize xs.getD k default = x at *
          generalize ys.getD k default = y at *
          go_wp2
          go_quiet (fail)
          go_wp2
          go_ret
          exact Grew.intro (by rw [decide_eq_false hs.out]; rfl) (drewN_below hbw _)
      · have hs : xs = ys := by have := Htk.out; rwa [List.take_of_length_le (by omega), List.take_of_length_le (by omega)] at this
        have Hs := Lib.hid hs
        clear hs
        go_wp2
        go_ret
        exact Grew.intro (by rw [decide_eq_true Hs.out]; rfl) hbw
  · have hb : ((xs.length : Int) != (ys.length : Int)) = true := by simp; omega
    go_enter Try.func48, Try.ntmps48
    go_wp2
    go_ret
    exact Grew.intro (by rw [decide_eq_false (fun e => hl (by rw [e]))]; rfl) (Below.refl _ _)
end Go.Proofs.Ytenoigmkhlnfoaa
