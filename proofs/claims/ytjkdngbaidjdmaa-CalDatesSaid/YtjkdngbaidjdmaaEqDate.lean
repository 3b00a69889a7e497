/- two values of type Date held against each other (made by wip/bin/gen_api.py) -/
import Derived.Test.YtjkdngbaidjdmaaApi
namespace Go.Proofs.Ytjkdngbaidjdmaa
open Go.RowKit
set_option maxRecDepth 20000
theorem guardDate : Try.prog.eqGuardType Try.prog.depth 23 = false := by kernel_rfl
set_option maxHeartbeats 1000000 in
theorem neqDate_run (x y : ADate) (w : World) : (binOp .neq 23 (.agg #[I x.year, I x.month, I x.day]) (.agg #[I y.year, I y.month, I y.day])).run Try.prog w = .ok (.bool (!decide (x = y))) w := by
  have hpDate : Try.prog.stoodInHeld 23 = false := by kernel_rfl
  have htDate : Try.prog.underlying 23 = some (.struct (Try.prog.fieldsOf 23)) := by kernel_rfl
  rw [run_neq_struct, run_equalIn_struct w 9999 23 _ _ htDate hpDate]
  simp [go_sem]
  obtain ⟨x0, x1, x2⟩ := x
  obtain ⟨y0, y1, y2⟩ := y
  clear hpDate htDate
  simp only [ADate.mk.injEq]
  (repeat' split) <;> simp_all
set_option maxHeartbeats 1000000 in
theorem eqlDate_run (x y : ADate) (w : World) : (binOp .eql 23 (.agg #[I x.year, I x.month, I x.day]) (.agg #[I y.year, I y.month, I y.day])).run Try.prog w = .ok (.bool (decide (x = y))) w := by
  have hpDate : Try.prog.stoodInHeld 23 = false := by kernel_rfl
  have htDate : Try.prog.underlying 23 = some (.struct (Try.prog.fieldsOf 23)) := by kernel_rfl
  rw [run_eql_struct, run_equalIn_struct w 9999 23 _ _ htDate hpDate]
  simp [go_sem]
  obtain ⟨x0, x1, x2⟩ := x
  obtain ⟨y0, y1, y2⟩ := y
  clear hpDate htDate
  simp only [ADate.mk.injEq]
  (repeat' split) <;> simp_all
end Go.Proofs.Ytjkdngbaidjdmaa
