/- two values of type Debt held against each other (made by wip/bin/gen_api.py) -/
import Derived.Test.YtmciccnmpoijdaaApi
namespace Go.Proofs.Ytmciccnmpoijdaa
open Go.RowKit
set_option maxRecDepth 20000
theorem guardDebt : Try.prog.eqGuardType Try.prog.depth 41 = false := by kernel_rfl
set_option maxHeartbeats 1000000 in
theorem neqDebt_run (x y : ADebt) (w : World) : (binOp .neq 41 (.agg #[I x.owed, I x.bp]) (.agg #[I y.owed, I y.bp])).run Try.prog w = .ok (.bool (!decide (x = y))) w := by
  have hpDebt : Try.prog.stoodInHeld 41 = false := by kernel_rfl
  have htDebt : Try.prog.underlying 41 = some (.struct (Try.prog.fieldsOf 41)) := by kernel_rfl
  rw [run_neq_struct, run_equalIn_struct w 9999 41 _ _ htDebt hpDebt]
  simp [go_sem]
  obtain ⟨x0, x1⟩ := x
  obtain ⟨y0, y1⟩ := y
  clear hpDebt htDebt
  simp only [ADebt.mk.injEq]
  (repeat' split) <;> simp_all
set_option maxHeartbeats 1000000 in
theorem eqlDebt_run (x y : ADebt) (w : World) : (binOp .eql 41 (.agg #[I x.owed, I x.bp]) (.agg #[I y.owed, I y.bp])).run Try.prog w = .ok (.bool (decide (x = y))) w := by
  have hpDebt : Try.prog.stoodInHeld 41 = false := by kernel_rfl
  have htDebt : Try.prog.underlying 41 = some (.struct (Try.prog.fieldsOf 41)) := by kernel_rfl
  rw [run_eql_struct, run_equalIn_struct w 9999 41 _ _ htDebt hpDebt]
  simp [go_sem]
  obtain ⟨x0, x1⟩ := x
  obtain ⟨y0, y1⟩ := y
  clear hpDebt htDebt
  simp only [ADebt.mk.injEq]
  (repeat' split) <;> simp_all
end Go.Proofs.Ytmciccnmpoijdaa
