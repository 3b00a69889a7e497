/- two values of type Act held against each other, by their texts too -/
import Derived.Test.YtfhmcahfjoliiaaDoorApi
namespace Go.Proofs.YtfhmcahfjoliiaaDoor
set_option linter.unusedSimpArgs false
set_option linter.unusedVariables false
open Go.RowKit
set_option maxRecDepth 20000
theorem str_inj (x y : ByteArray) : (x.toList = y.toList) = (x = y) := propext ⟨fun e => ByteArray.ext (Array.toList_inj.1 (by rw [← ByteArray.toList_eq, ← ByteArray.toList_eq]; exact e)), fun e => by rw [e]⟩
theorem guardAct : Tryd.prog.eqGuardType Tryd.prog.depth 23 = false := by kernel_rfl
set_option maxHeartbeats 1000000 in
theorem neqAct_run (x y : AAct) (w : World) : (binOp .neq 23 (.agg #[I x.kind, I x.meter, I x.a, I x.b, I x.c, .string x.text, I x.cut]) (.agg #[I y.kind, I y.meter, I y.a, I y.b, I y.c, .string y.text, I y.cut])).run Tryd.prog w = .ok (.bool (!decide (x = y))) w := by
  have hpAct : Tryd.prog.stoodInHeld 23 = false := by kernel_rfl
  have htAct : Tryd.prog.underlying 23 = some (.struct (Tryd.prog.fieldsOf 23)) := by kernel_rfl
  rw [run_neq_struct, run_equalIn_struct w 9999 23 _ _ htAct hpAct]
  simp [go_sem]
  obtain ⟨x0, x1, x2, x3, x4, x5, x6⟩ := x
  obtain ⟨y0, y1, y2, y3, y4, y5, y6⟩ := y
  clear hpAct htAct
  simp only [AAct.mk.injEq, str_inj]
  (repeat' split) <;> simp_all
set_option maxHeartbeats 1000000 in
theorem eqlAct_run (x y : AAct) (w : World) : (binOp .eql 23 (.agg #[I x.kind, I x.meter, I x.a, I x.b, I x.c, .string x.text, I x.cut]) (.agg #[I y.kind, I y.meter, I y.a, I y.b, I y.c, .string y.text, I y.cut])).run Tryd.prog w = .ok (.bool (decide (x = y))) w := by
  have hpAct : Tryd.prog.stoodInHeld 23 = false := by kernel_rfl
  have htAct : Tryd.prog.underlying 23 = some (.struct (Tryd.prog.fieldsOf 23)) := by kernel_rfl
  rw [run_eql_struct, run_equalIn_struct w 9999 23 _ _ htAct hpAct]
  simp [go_sem]
  obtain ⟨x0, x1, x2, x3, x4, x5, x6⟩ := x
  obtain ⟨y0, y1, y2, y3, y4, y5, y6⟩ := y
  clear hpAct htAct
  simp only [AAct.mk.injEq, str_inj]
  (repeat' split) <;> simp_all
end Go.Proofs.YtfhmcahfjoliiaaDoor
