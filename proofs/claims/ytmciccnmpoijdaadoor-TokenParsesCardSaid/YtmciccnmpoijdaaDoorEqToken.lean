/- two values of type Token held against each other (made by wip/bin/gen_api.py) -/
import Derived.Test.YtmciccnmpoijdaaDoorApi
namespace Go.Proofs.YtmciccnmpoijdaaDoor
open Go.RowKit
set_option maxRecDepth 20000
theorem guardToken : Tryd.prog.eqGuardType Tryd.prog.depth 37 = false := by kernel_rfl
set_option maxHeartbeats 1000000 in
theorem neqToken_run (x y : AToken) (w : World) : (binOp .neq 37 (.agg #[I x.class_, I x.id, I x.amount, I x.tag]) (.agg #[I y.class_, I y.id, I y.amount, I y.tag])).run Tryd.prog w = .ok (.bool (!decide (x = y))) w := by
  have hpToken : Tryd.prog.stoodInHeld 37 = false := by kernel_rfl
  have htToken : Tryd.prog.underlying 37 = some (.struct (Tryd.prog.fieldsOf 37)) := by kernel_rfl
  rw [run_neq_struct, run_equalIn_struct w 9999 37 _ _ htToken hpToken]
  simp [go_sem]
  obtain ⟨x0, x1, x2, x3⟩ := x
  obtain ⟨y0, y1, y2, y3⟩ := y
  clear hpToken htToken
  simp only [AToken.mk.injEq]
  (repeat' split) <;> simp_all
set_option maxHeartbeats 1000000 in
theorem eqlToken_run (x y : AToken) (w : World) : (binOp .eql 37 (.agg #[I x.class_, I x.id, I x.amount, I x.tag]) (.agg #[I y.class_, I y.id, I y.amount, I y.tag])).run Tryd.prog w = .ok (.bool (decide (x = y))) w := by
  have hpToken : Tryd.prog.stoodInHeld 37 = false := by kernel_rfl
  have htToken : Tryd.prog.underlying 37 = some (.struct (Tryd.prog.fieldsOf 37)) := by kernel_rfl
  rw [run_eql_struct, run_equalIn_struct w 9999 37 _ _ htToken hpToken]
  simp [go_sem]
  obtain ⟨x0, x1, x2, x3⟩ := x
  obtain ⟨y0, y1, y2, y3⟩ := y
  clear hpToken htToken
  simp only [AToken.mk.injEq]
  (repeat' split) <;> simp_all
end Go.Proofs.YtmciccnmpoijdaaDoor
