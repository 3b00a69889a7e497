/- sameEvents: are two lists the same? (its loop made by wip/bin/gen_api.py, the comparison by hand) · events: new memory for a list (made by wip/bin/gen_api.py) -/
import Derived.Test.YtenoigmkhlnfoaaPk00
import Derived.Test.YtenoigmkhlnfoaaPk03
namespace Go.Proofs.Ytenoigmkhlnfoaa
set_option linter.unusedSimpArgs false
set_option linter.unusedVariables false
open Go.RowKit
set_option maxRecDepth 20000

set_option maxRecDepth 200000 in
theorem neqEv_run (x0 x1 x2 x3 x4 x5 x6 x7 x8 x9 x10 x11 x12 y0 y1 y2 y3 y4 y5 y6 y7 y8 y9 y10 y11 y12 : Int) (w : World) :
    (binOp .neq 72 (.agg #[I x0, I x1, I x2, I x3, I x4, I x5, I x6, I x7, I x8, I x9, I x10, I x11, I x12]) (.agg #[I y0, I y1, I y2, I y3, I y4, I y5, I y6, I y7, I y8, I y9, I y10, I y11, I y12])).run Try.prog w = .ok (.bool (!eqE x0 x1 x2 x3 x4 x5 x6 x7 x8 x9 x10 x11 x12 y0 y1 y2 y3 y4 y5 y6 y7 y8 y9 y10 y11 y12)) w := by
  have hp : Try.prog.stoodInHeld 72 = false := by kernel_rfl
  have ht : Try.prog.underlying 72 = some (.struct (Try.prog.fieldsOf 72)) := by kernel_rfl
  rw [run_neq_struct, run_equalIn_struct w 9999 72 _ _ ht hp]
  simp only [Program.fieldsOf, Try.underlying72]
  rw [eqF_int w (by decide) Try.underlying3 rfl rfl, eqF_int w (by decide) Try.underlying3 rfl rfl, eqF_int w (by decide) Try.underlying3 rfl rfl,
    eqF_sub w (u := .agg #[I x3, I x4, I x5, I x6, I x7, I x8, I x9]) (v := .agg #[I y3, I y4, I y5, I y6, I y7, I y8, I y9]) (r := eqE7 x3 x4 x5 x6 x7 x8 x9 y3 y4 y5 y6 y7 y8 y9) (by decide) (by kernel_rfl) (by kernel_rfl) (eqlBillIn _ _ _ _ _ _ _ _ _ _ _ _ _ _ w),
    eqF_int w (by decide) Try.underlying3 rfl rfl,
    eqF_sub w (u := .agg #[I x11, I x12]) (v := .agg #[I y11, I y12]) (r := decide (x11 = y11 ∧ x12 = y12)) (by decide) (by kernel_rfl) (by kernel_rfl) (eqlDebtIn _ _ _ _ w), eqF_nil]
  unfold eqE eqE7
  (repeat' split) <;> simp_all <;> omega
theorem eqE_dec (x y : AEvent) : eqE x.kind x.meter x.month x.bill.id x.bill.tender x.bill.debt x.bill.fee x.bill.price x.bill.change x.bill.units x.tag x.debt.owed x.debt.bp y.kind y.meter y.month y.bill.id y.bill.tender y.bill.debt y.bill.fee y.bill.price y.bill.change y.bill.units y.tag y.debt.owed y.debt.bp = decide (x = y) := by
  obtain ⟨x0, x1, x2, ⟨x3, x4, x5, x6, x7, x8, x9⟩, x10, ⟨x11, x12⟩⟩ := x
  obtain ⟨y0, y1, y2, ⟨y3, y4, y5, y6, y7, y8, y9⟩, y10, ⟨y11, y12⟩⟩ := y
  unfold eqE
  simp only [AEvent.mk.injEq, ABill.mk.injEq, ADebt.mk.injEq]
theorem neqEvent_run (x y : AEvent) (w : World) : (binOp .neq 72 (.agg #[I x.kind, I x.meter, I x.month, I x.bill.id, I x.bill.tender, I x.bill.debt, I x.bill.fee, I x.bill.price, I x.bill.change, I x.bill.units, I x.tag, I x.debt.owed, I x.debt.bp]) (.agg #[I y.kind, I y.meter, I y.month, I y.bill.id, I y.bill.tender, I y.bill.debt, I y.bill.fee, I y.bill.price, I y.bill.change, I y.bill.units, I y.tag, I y.debt.owed, I y.debt.bp])).run Try.prog w = .ok (.bool (!decide (x = y))) w := by
  rw [neqEv_run, eqE_dec]

set_option maxHeartbeats 1000000 in
theorem sameEvents_any (v1 v2 : Value) (xs ys : List AEvent) (w : World) (h1 : Sl w v1 13 xs.length (xs.flatMap AEvent.cells)) (h2 : Sl w v2 13 ys.length (ys.flatMap AEvent.cells)) :
    Calls Try.prog 13 #[v1, v2] w (Grew (.bool (decide (xs = ys))) w) := by
  obtain ⟨a1, c1, rfl, hn1, _, _, h1⟩ := h1
  obtain ⟨a2, c2, rfl, hn2, _, _, h2⟩ := h2
  by_cases hl : xs.length = ys.length
  · have hb : ((xs.length : Int) != (ys.length : Int)) = false := by simp [hl]
    have hl1 : xs.length ≤ ys.length := by omega
    have hl2 : ys.length ≤ xs.length := by omega
    clear hl
    have hm : Try.prog.eqGuardType Try.prog.depth 72 = false := by kernel_rfl
    have hne := neqEvent_run
    go_enter Try.func13, Try.ntmps13
    go_wp2
    go_loopw [5] (fun i wr => ∃ k : Nat, k ≤ xs.length ∧ i = I k ∧ xs.take k = ys.take k ∧ Below w.heap.size w wr) (fun i _ => xs.length - (intOf i).toNat)
    case atStart => exact ⟨0, Nat.zero_le _, rfl, rfl, Below.refl _ _⟩
    case round =>
      obtain ⟨k, hk, rfl, htk, hbw⟩ := hrel
      have Htk := Lib.hid htk
      clear htk
      by_cases hlt : k < xs.length
      · obtain ⟨b1, o1, rfl, hb1, hc1⟩ := h1.resolve_left (by omega)
        obtain ⟨b2, o2, rfl, hb2, hc2⟩ := h2.resolve_left (by omega)
        have e1_0 : wr.cell? ⟨b1, o1 + k * 13, none⟩ = some (I (xs.getD k default).kind) := by
          have := (hbw.cell (p := ⟨b1, o1 + (k * 13 + 0), none⟩) hb1).trans (hc1 (k * 13 + 0) (by rw [length_flat _ 13 AEvent.cells_len]; exact pos_lt (by omega) (by decide)))
          rw [getD_flat _ 13 AEvent.cells_len _ _ _ (by omega) (by decide)] at this
          simpa [← Nat.add_assoc, AEvent.cells] using this
        have e1_1 : wr.cell? ⟨b1, o1 + k * 13 + 1, none⟩ = some (I (xs.getD k default).meter) := by
          have := (hbw.cell (p := ⟨b1, o1 + (k * 13 + 1), none⟩) hb1).trans (hc1 (k * 13 + 1) (by rw [length_flat _ 13 AEvent.cells_len]; exact pos_lt (by omega) (by decide)))
          rw [getD_flat _ 13 AEvent.cells_len _ _ _ (by omega) (by decide)] at this
          simpa [← Nat.add_assoc, AEvent.cells] using this
        have e1_2 : wr.cell? ⟨b1, o1 + k * 13 + 2, none⟩ = some (I (xs.getD k default).month) := by
          have := (hbw.cell (p := ⟨b1, o1 + (k * 13 + 2), none⟩) hb1).trans (hc1 (k * 13 + 2) (by rw [length_flat _ 13 AEvent.cells_len]; exact pos_lt (by omega) (by decide)))
          rw [getD_flat _ 13 AEvent.cells_len _ _ _ (by omega) (by decide)] at this
          simpa [← Nat.add_assoc, AEvent.cells] using this
        have e1_3 : wr.cell? ⟨b1, o1 + k * 13 + 3, none⟩ = some (I (xs.getD k default).bill.id) := by
          have := (hbw.cell (p := ⟨b1, o1 + (k * 13 + 3), none⟩) hb1).trans (hc1 (k * 13 + 3) (by rw [length_flat _ 13 AEvent.cells_len]; exact pos_lt (by omega) (by decide)))
          rw [getD_flat _ 13 AEvent.cells_len _ _ _ (by omega) (by decide)] at this
          simpa [← Nat.add_assoc, AEvent.cells] using this
        have e1_4 : wr.cell? ⟨b1, o1 + k * 13 + 4, none⟩ = some (I (xs.getD k default).bill.tender) := by
          have := (hbw.cell (p := ⟨b1, o1 + (k * 13 + 4), none⟩) hb1).trans (hc1 (k * 13 + 4) (by rw [length_flat _ 13 AEvent.cells_len]; exact pos_lt (by omega) (by decide)))
          rw [getD_flat _ 13 AEvent.cells_len _ _ _ (by omega) (by decide)] at this
          simpa [← Nat.add_assoc, AEvent.cells] using this
        have e1_5 : wr.cell? ⟨b1, o1 + k * 13 + 5, none⟩ = some (I (xs.getD k default).bill.debt) := by
          have := (hbw.cell (p := ⟨b1, o1 + (k * 13 + 5), none⟩) hb1).trans (hc1 (k * 13 + 5) (by rw [length_flat _ 13 AEvent.cells_len]; exact pos_lt (by omega) (by decide)))
          rw [getD_flat _ 13 AEvent.cells_len _ _ _ (by omega) (by decide)] at this
          simpa [← Nat.add_assoc, AEvent.cells] using this
        have e1_6 : wr.cell? ⟨b1, o1 + k * 13 + 6, none⟩ = some (I (xs.getD k default).bill.fee) := by
          have := (hbw.cell (p := ⟨b1, o1 + (k * 13 + 6), none⟩) hb1).trans (hc1 (k * 13 + 6) (by rw [length_flat _ 13 AEvent.cells_len]; exact pos_lt (by omega) (by decide)))
          rw [getD_flat _ 13 AEvent.cells_len _ _ _ (by omega) (by decide)] at this
          simpa [← Nat.add_assoc, AEvent.cells] using this
        have e1_7 : wr.cell? ⟨b1, o1 + k * 13 + 7, none⟩ = some (I (xs.getD k default).bill.price) := by
          have := (hbw.cell (p := ⟨b1, o1 + (k * 13 + 7), none⟩) hb1).trans (hc1 (k * 13 + 7) (by rw [length_flat _ 13 AEvent.cells_len]; exact pos_lt (by omega) (by decide)))
          rw [getD_flat _ 13 AEvent.cells_len _ _ _ (by omega) (by decide)] at this
          simpa [← Nat.add_assoc, AEvent.cells] using this
        have e1_8 : wr.cell? ⟨b1, o1 + k * 13 + 8, none⟩ = some (I (xs.getD k default).bill.change) := by
          have := (hbw.cell (p := ⟨b1, o1 + (k * 13 + 8), none⟩) hb1).trans (hc1 (k * 13 + 8) (by rw [length_flat _ 13 AEvent.cells_len]; exact pos_lt (by omega) (by decide)))
          rw [getD_flat _ 13 AEvent.cells_len _ _ _ (by omega) (by decide)] at this
          simpa [← Nat.add_assoc, AEvent.cells] using this
        have e1_9 : wr.cell? ⟨b1, o1 + k * 13 + 9, none⟩ = some (I (xs.getD k default).bill.units) := by
          have := (hbw.cell (p := ⟨b1, o1 + (k * 13 + 9), none⟩) hb1).trans (hc1 (k * 13 + 9) (by rw [length_flat _ 13 AEvent.cells_len]; exact pos_lt (by omega) (by decide)))
          rw [getD_flat _ 13 AEvent.cells_len _ _ _ (by omega) (by decide)] at this
          simpa [← Nat.add_assoc, AEvent.cells] using this
        have e1_10 : wr.cell? ⟨b1, o1 + k * 13 + 10, none⟩ = some (I (xs.getD k default).tag) := by
          have := (hbw.cell (p := ⟨b1, o1 + (k * 13 + 10), none⟩) hb1).trans (hc1 (k * 13 + 10) (by rw [length_flat _ 13 AEvent.cells_len]; exact pos_lt (by omega) (by decide)))
          rw [getD_flat _ 13 AEvent.cells_len _ _ _ (by omega) (by decide)] at this
          simpa [← Nat.add_assoc, AEvent.cells] using this
        have e1_11 : wr.cell? ⟨b1, o1 + k * 13 + 11, none⟩ = some (I (xs.getD k default).debt.owed) := by
          have := (hbw.cell (p := ⟨b1, o1 + (k * 13 + 11), none⟩) hb1).trans (hc1 (k * 13 + 11) (by rw [length_flat _ 13 AEvent.cells_len]; exact pos_lt (by omega) (by decide)))
          rw [getD_flat _ 13 AEvent.cells_len _ _ _ (by omega) (by decide)] at this
          simpa [← Nat.add_assoc, AEvent.cells] using this
        have e1_12 : wr.cell? ⟨b1, o1 + k * 13 + 12, none⟩ = some (I (xs.getD k default).debt.bp) := by
          have := (hbw.cell (p := ⟨b1, o1 + (k * 13 + 12), none⟩) hb1).trans (hc1 (k * 13 + 12) (by rw [length_flat _ 13 AEvent.cells_len]; exact pos_lt (by omega) (by decide)))
          rw [getD_flat _ 13 AEvent.cells_len _ _ _ (by omega) (by decide)] at this
          simpa [← Nat.add_assoc, AEvent.cells] using this
        have e2_0 : wr.cell? ⟨b2, o2 + k * 13, none⟩ = some (I (ys.getD k default).kind) := by
          have := (hbw.cell (p := ⟨b2, o2 + (k * 13 + 0), none⟩) hb2).trans (hc2 (k * 13 + 0) (by rw [length_flat _ 13 AEvent.cells_len]; exact pos_lt (by omega) (by decide)))
          rw [getD_flat _ 13 AEvent.cells_len _ _ _ (by omega) (by decide)] at this
          simpa [← Nat.add_assoc, AEvent.cells] using this
        have e2_1 : wr.cell? ⟨b2, o2 + k * 13 + 1, none⟩ = some (I (ys.getD k default).meter) := by
          have := (hbw.cell (p := ⟨b2, o2 + (k * 13 + 1), none⟩) hb2).trans (hc2 (k * 13 + 1) (by rw [length_flat _ 13 AEvent.cells_len]; exact pos_lt (by omega) (by decide)))
          rw [getD_flat _ 13 AEvent.cells_len _ _ _ (by omega) (by decide)] at this
          simpa [← Nat.add_assoc, AEvent.cells] using this
        have e2_2 : wr.cell? ⟨b2, o2 + k * 13 + 2, none⟩ = some (I (ys.getD k default).month) := by
          have := (hbw.cell (p := ⟨b2, o2 + (k * 13 + 2), none⟩) hb2).trans (hc2 (k * 13 + 2) (by rw [length_flat _ 13 AEvent.cells_len]; exact pos_lt (by omega) (by decide)))
          rw [getD_flat _ 13 AEvent.cells_len _ _ _ (by omega) (by decide)] at this
          simpa [← Nat.add_assoc, AEvent.cells] using this
        have e2_3 : wr.cell? ⟨b2, o2 + k * 13 + 3, none⟩ = some (I (ys.getD k default).bill.id) := by
          have := (hbw.cell (p := ⟨b2, o2 + (k * 13 + 3), none⟩) hb2).trans (hc2 (k * 13 + 3) (by rw [length_flat _ 13 AEvent.cells_len]; exact pos_lt (by omega) (by decide)))
          rw [getD_flat _ 13 AEvent.cells_len _ _ _ (by omega) (by decide)] at this
          simpa [← Nat.add_assoc, AEvent.cells] using this
        have e2_4 : wr.cell? ⟨b2, o2 + k * 13 + 4, none⟩ = some (I (ys.getD k default).bill.tender) := by
          have := (hbw.cell (p := ⟨b2, o2 + (k * 13 + 4), none⟩) hb2).trans (hc2 (k * 13 + 4) (by rw [length_flat _ 13 AEvent.cells_len]; exact pos_lt (by omega) (by decide)))
          rw [getD_flat _ 13 AEvent.cells_len _ _ _ (by omega) (by decide)] at this
          simpa [← Nat.add_assoc, AEvent.cells] using this
        have e2_5 : wr.cell? ⟨b2, o2 + k * 13 + 5, none⟩ = some (I (ys.getD k default).bill.debt) := by
          have := (hbw.cell (p := ⟨b2, o2 + (k * 13 + 5), none⟩) hb2).trans (hc2 (k * 13 + 5) (by rw [length_flat _ 13 AEvent.cells_len]; exact pos_lt (by omega) (by decide)))
          rw [getD_flat _ 13 AEvent.cells_len _ _ _ (by omega) (by decide)] at this
          simpa [← Nat.add_assoc, AEvent.cells] using this
        have e2_6 : wr.cell? ⟨b2, o2 + k * 13 + 6, none⟩ = some (I (ys.getD k default).bill.fee) := by
          have := (hbw.cell (p := ⟨b2, o2 + (k * 13 + 6), none⟩) hb2).trans (hc2 (k * 13 + 6) (by rw [length_flat _ 13 AEvent.cells_len]; exact pos_lt (by omega) (by decide)))
          rw [getD_flat _ 13 AEvent.cells_len _ _ _ (by omega) (by decide)] at this
          simpa [← Nat.add_assoc, AEvent.cells] using this
        have e2_7 : wr.cell? ⟨b2, o2 + k * 13 + 7, none⟩ = some (I (ys.getD k default).bill.price) := by
          have := (hbw.cell (p := ⟨b2, o2 + (k * 13 + 7), none⟩) hb2).trans (hc2 (k * 13 + 7) (by rw [length_flat _ 13 AEvent.cells_len]; exact pos_lt (by omega) (by decide)))
          rw [getD_flat _ 13 AEvent.cells_len _ _ _ (by omega) (by decide)] at this
          simpa [← Nat.add_assoc, AEvent.cells] using this
        have e2_8 : wr.cell? ⟨b2, o2 + k * 13 + 8, none⟩ = some (I (ys.getD k default).bill.change) := by
          have := (hbw.cell (p := ⟨b2, o2 + (k * 13 + 8), none⟩) hb2).trans (hc2 (k * 13 + 8) (by rw [length_flat _ 13 AEvent.cells_len]; exact pos_lt (by omega) (by decide)))
          rw [getD_flat _ 13 AEvent.cells_len _ _ _ (by omega) (by decide)] at this
          simpa [← Nat.add_assoc, AEvent.cells] using this
        have e2_9 : wr.cell? ⟨b2, o2 + k * 13 + 9, none⟩ = some (I (ys.getD k default).bill.units) := by
          have := (hbw.cell (p := ⟨b2, o2 + (k * 13 + 9), none⟩) hb2).trans (hc2 (k * 13 + 9) (by rw [length_flat _ 13 AEvent.cells_len]; exact pos_lt (by omega) (by decide)))
          rw [getD_flat _ 13 AEvent.cells_len _ _ _ (by omega) (by decide)] at this
          simpa [← Nat.add_assoc, AEvent.cells] using this
        have e2_10 : wr.cell? ⟨b2, o2 + k * 13 + 10, none⟩ = some (I (ys.getD k default).tag) := by
          have := (hbw.cell (p := ⟨b2, o2 + (k * 13 + 10), none⟩) hb2).trans (hc2 (k * 13 + 10) (by rw [length_flat _ 13 AEvent.cells_len]; exact pos_lt (by omega) (by decide)))
          rw [getD_flat _ 13 AEvent.cells_len _ _ _ (by omega) (by decide)] at this
          simpa [← Nat.add_assoc, AEvent.cells] using this
        have e2_11 : wr.cell? ⟨b2, o2 + k * 13 + 11, none⟩ = some (I (ys.getD k default).debt.owed) := by
          have := (hbw.cell (p := ⟨b2, o2 + (k * 13 + 11), none⟩) hb2).trans (hc2 (k * 13 + 11) (by rw [length_flat _ 13 AEvent.cells_len]; exact pos_lt (by omega) (by decide)))
          rw [getD_flat _ 13 AEvent.cells_len _ _ _ (by omega) (by decide)] at this
          simpa [← Nat.add_assoc, AEvent.cells] using this
        have e2_12 : wr.cell? ⟨b2, o2 + k * 13 + 12, none⟩ = some (I (ys.getD k default).debt.bp) := by
          have := (hbw.cell (p := ⟨b2, o2 + (k * 13 + 12), none⟩) hb2).trans (hc2 (k * 13 + 12) (by rw [length_flat _ 13 AEvent.cells_len]; exact pos_lt (by omega) (by decide)))
          rw [getD_flat _ 13 AEvent.cells_len _ _ _ (by omega) (by decide)] at this
          simpa [← Nat.add_assoc, AEvent.cells] using this
        clear hc1 hc2 h1 h2
        have hi0 : (0 : Int) ≤ (k : Int) := by omega
        have hi1 : (k : Int) < (xs.length : Int) := by omega
        have hi2 : (k : Int) < (ys.length : Int) := by omega
        by_cases hv : xs.getD k default = ys.getD k default
        · have hv' : decide (xs.getD k default = ys.getD k default) = true := decide_eq_true hv
          have hs := Lib.hid (take_succ_of hlt (by omega) Htk.out hv)
          clear hv
          generalize xs.getD k default = x at *
          generalize ys.getD k default = y at *
          go_wp2
          go_quiet (fail)
          go_wp2
          exact ⟨⟨k + 1, by omega, by go_num, hs.out, drewN_below hbw _⟩, by simp [intOf]; omega⟩
        · have hv' : decide (xs.getD k default = ys.getD k default) = false := decide_eq_false hv
          have hs := Lib.hid (ne_of_getD' hv)
          clear hv
          generalize xs.getD k default = x at *
          generalize ys.getD k default = y at *
          go_wp2
          go_quiet (fail)
          go_wp2
          go_ret
          exact Grew.intro (by rw [decide_eq_false hs.out]; rfl) (drewN_below hbw _)
      · have hs : xs = ys := by have := Htk.out; rwa [List.take_of_length_le (by omega), List.take_of_length_le (by omega)] at this
        have Hs := Lib.hid hs
        clear hs
        go_wp2
        go_ret
        exact Grew.intro (by rw [decide_eq_true Hs.out]; rfl) hbw
  · have hb : ((xs.length : Int) != (ys.length : Int)) = true := by simp; omega
    go_enter Try.func13, Try.ntmps13
    go_wp2
    go_ret
    exact Grew.intro (by rw [decide_eq_false (fun e => hl (by rw [e]))]; rfl) (Below.refl _ _)
end Go.Proofs.Ytenoigmkhlnfoaa
namespace Go.Proofs.Ytenoigmkhlnfoaa
set_option linter.unusedSimpArgs false
set_option linter.unusedVariables false
open Go.RowKit
set_option maxRecDepth 20000

theorem info_events : (Try.prog.info? 72).map (fun i => (i.zero, i.size, i.bytes)) = some (some (.agg #[.int .i64 0, .int .i64 0, .int .i64 0, .int .i64 0, .int .i64 0, .int .i64 0, .int .i64 0, .int .i64 0, .int .i64 0, .int .i64 0, .int .i64 0, .int .i64 0, .int .i64 0]), 13, 104) := by kernel_rfl

theorem events_any (v : Value) (xs : List AEvent) (w : World) (h : Sl w v 13 xs.length (xs.flatMap AEvent.cells)) (hby : xs.length * 104 ≤ 140737488355328) :
    Calls Try.prog 8 #[v] w (GrewSl 13 xs.length (xs.flatMap AEvent.cells) w) := by
  obtain ⟨i0, hi, hz0, hz1, hz2⟩ := info_parts info_events
  have h' := h
  obtain ⟨a, cap, rfl, hn, hl, h0, h⟩ := h
  cases a with
  | none =>
    obtain ⟨hn0, rfl⟩ := h0 rfl
    obtain rfl : xs = [] := List.length_eq_zero_iff.1 hn0
    clear h h' h0 hl
    go_enter Try.func8, Try.ntmps8
    go_wp2_with fail
    go_ret
    exact ⟨_, rfl, Sl.nil _ _, Below.refl _ _⟩
  | some ad =>
    have hnews := Lib.hid h'.news
    have hone : oneCells (xs.flatMap AEvent.cells) := oneCells_flat (fun x u hu => by simp only [AEvent.cells, List.mem_cons, List.not_mem_nil, or_false] at hu; rcases hu with rfl | rfl | rfl | rfl | rfl | rfl | rfl | rfl | rfl | rfl | rfl | rfl | rfl <;> rfl) _
    clear h h' h0
    have Hl := Lib.hid hl
    clear hl
    have c3 : 0 + xs.length ≤ maxLen := by unfold maxLen; omega
    have c4 := Lib.hid (show (0 + xs.length) * 104 ≤ 140737488355328 by omega)
    clear hby
    go_enter Try.func8, Try.ntmps8
    go_wp2_with (at_builtin; refine wpList_append_own _ rfl _ _ 25 rfl w.heap.size 72 i0 (.agg #[.int .i64 0, .int .i64 0, .int .i64 0, .int .i64 0, .int .i64 0, .int .i64 0, .int .i64 0, .int .i64 0, .int .i64 0, .int .i64 0, .int .i64 0, .int .i64 0, .int .i64 0]) 13 104 Try.underlying25 hi hz0 hz1 hz2 rfl (by decide) _ 0 [] rfl (World.ownsRow_nil _ _ _ _) ad _ _ (xs.flatMap AEvent.cells) rfl Hl.out hnews.out hone c3 c4.out (Nat.le_refl _) ?_; intro v' w1 hown' hgrow _)
    have hbel := Below.grown (B := w.heap.size) (Below.refl _ w) hgrow (Nat.le_refl _) (fun k hk => absurd (show (none : Option Nat) = some k from hk) (by simp))
    rw [Nat.zero_add, List.nil_append] at hown'
    have hS := Sl.of_owns hown' hn.1
    clear hown' hgrow
    go_wp2
    go_ret
    exact ⟨_, rfl, hS, hbel⟩
end Go.Proofs.Ytenoigmkhlnfoaa
