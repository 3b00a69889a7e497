/- two values of type Shown held against each other (made by wip/bin/gen_api.py) -/
import Derived.Test.YtbmclfddofihjaaDoorApi
namespace Go.Proofs.YtbmclfddofihjaaDoor
open Go.RowKit
set_option maxRecDepth 20000
theorem guardShown : Tryd.prog.eqGuardType Tryd.prog.depth 32 = false := by kernel_rfl
set_option maxHeartbeats 1000000 in
theorem neqShown_run (x y : AShown) (w : World) : (binOp .neq 32 (.agg #[I x.me, I x.credit, I x.high]) (.agg #[I y.me, I y.credit, I y.high])).run Tryd.prog w = .ok (.bool (!decide (x = y))) w := by
  have hpShown : Tryd.prog.stoodInHeld 32 = false := by kernel_rfl
  have htShown : Tryd.prog.underlying 32 = some (.struct (Tryd.prog.fieldsOf 32)) := by kernel_rfl
  rw [run_neq_struct, run_equalIn_struct w 9999 32 _ _ htShown hpShown]
  simp [go_sem]
  obtain ⟨x0, x1, x2⟩ := x
  obtain ⟨y0, y1, y2⟩ := y
  clear hpShown htShown
  simp only [AShown.mk.injEq]
  (repeat' split) <;> simp_all
set_option maxHeartbeats 1000000 in
theorem eqlShown_run (x y : AShown) (w : World) : (binOp .eql 32 (.agg #[I x.me, I x.credit, I x.high]) (.agg #[I y.me, I y.credit, I y.high])).run Tryd.prog w = .ok (.bool (decide (x = y))) w := by
  have hpShown : Tryd.prog.stoodInHeld 32 = false := by kernel_rfl
  have htShown : Tryd.prog.underlying 32 = some (.struct (Tryd.prog.fieldsOf 32)) := by kernel_rfl
  rw [run_eql_struct, run_equalIn_struct w 9999 32 _ _ htShown hpShown]
  simp [go_sem]
  obtain ⟨x0, x1, x2⟩ := x
  obtain ⟨y0, y1, y2⟩ := y
  clear hpShown htShown
  simp only [AShown.mk.injEq]
  (repeat' split) <;> simp_all
end Go.Proofs.YtbmclfddofihjaaDoor
