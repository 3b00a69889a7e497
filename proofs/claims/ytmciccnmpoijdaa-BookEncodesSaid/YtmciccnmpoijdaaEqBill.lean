/- two values of type Bill held against each other (made by wip/bin/gen_api.py) -/
import Derived.Test.YtmciccnmpoijdaaApi
namespace Go.Proofs.Ytmciccnmpoijdaa
open Go.RowKit
set_option maxRecDepth 20000
theorem guardBill : Try.prog.eqGuardType Try.prog.depth 39 = false := by kernel_rfl
set_option maxHeartbeats 1000000 in
theorem neqBill_run (x y : ABill) (w : World) : (binOp .neq 39 (.agg #[I x.id, I x.tender, I x.debt, I x.fee, I x.price, I x.change, I x.units]) (.agg #[I y.id, I y.tender, I y.debt, I y.fee, I y.price, I y.change, I y.units])).run Try.prog w = .ok (.bool (!decide (x = y))) w := by
  have hpBill : Try.prog.stoodInHeld 39 = false := by kernel_rfl
  have htBill : Try.prog.underlying 39 = some (.struct (Try.prog.fieldsOf 39)) := by kernel_rfl
  rw [run_neq_struct, run_equalIn_struct w 9999 39 _ _ htBill hpBill]
  simp [go_sem]
  obtain ⟨x0, x1, x2, x3, x4, x5, x6⟩ := x
  obtain ⟨y0, y1, y2, y3, y4, y5, y6⟩ := y
  clear hpBill htBill
  simp only [ABill.mk.injEq]
  (repeat' split) <;> simp_all
set_option maxHeartbeats 1000000 in
theorem eqlBill_run (x y : ABill) (w : World) : (binOp .eql 39 (.agg #[I x.id, I x.tender, I x.debt, I x.fee, I x.price, I x.change, I x.units]) (.agg #[I y.id, I y.tender, I y.debt, I y.fee, I y.price, I y.change, I y.units])).run Try.prog w = .ok (.bool (decide (x = y))) w := by
  have hpBill : Try.prog.stoodInHeld 39 = false := by kernel_rfl
  have htBill : Try.prog.underlying 39 = some (.struct (Try.prog.fieldsOf 39)) := by kernel_rfl
  rw [run_eql_struct, run_equalIn_struct w 9999 39 _ _ htBill hpBill]
  simp [go_sem]
  obtain ⟨x0, x1, x2, x3, x4, x5, x6⟩ := x
  obtain ⟨y0, y1, y2, y3, y4, y5, y6⟩ := y
  clear hpBill htBill
  simp only [ABill.mk.injEq]
  (repeat' split) <;> simp_all
end Go.Proofs.Ytmciccnmpoijdaa
