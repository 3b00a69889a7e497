/- two values of type Pad held against each other (made by wip/bin/gen_api.py) -/
import Derived.Test.YtmciccnmpoijdaaDoorApi
namespace Go.Proofs.YtmciccnmpoijdaaDoor
open Go.RowKit
set_option maxRecDepth 20000
theorem guardPad : Tryd.prog.eqGuardType Tryd.prog.depth 24 = false := by kernel_rfl
set_option maxHeartbeats 1000000 in
theorem neqPad_run (x y : APad) (w : World) : (binOp .neq 24 (.agg #[.string x.digits, .bool x.bad]) (.agg #[.string y.digits, .bool y.bad])).run Tryd.prog w = .ok (.bool (!decide (x = y))) w := by
  have hpPad : Tryd.prog.stoodInHeld 24 = false := by kernel_rfl
  have htPad : Tryd.prog.underlying 24 = some (.struct (Tryd.prog.fieldsOf 24)) := by kernel_rfl
  rw [run_neq_struct, run_equalIn_struct w 9999 24 _ _ htPad hpPad]
  simp [go_sem]
  obtain ⟨x0, x1⟩ := x
  obtain ⟨y0, y1⟩ := y
  clear hpPad htPad
  have hT : ∀ a b : ByteArray, a.toList = b.toList ↔ a = b := fun a b => ⟨fun h => by rw [ByteArray.toList_eq, ByteArray.toList_eq] at h; exact ByteArray.ext (Array.toList_inj.1 h), fun h => by rw [h]⟩
  simp only [hT]
  simp only [APad.mk.injEq]
  (repeat' split) <;> simp_all
set_option maxHeartbeats 1000000 in
theorem eqlPad_run (x y : APad) (w : World) : (binOp .eql 24 (.agg #[.string x.digits, .bool x.bad]) (.agg #[.string y.digits, .bool y.bad])).run Tryd.prog w = .ok (.bool (decide (x = y))) w := by
  have hpPad : Tryd.prog.stoodInHeld 24 = false := by kernel_rfl
  have htPad : Tryd.prog.underlying 24 = some (.struct (Tryd.prog.fieldsOf 24)) := by kernel_rfl
  rw [run_eql_struct, run_equalIn_struct w 9999 24 _ _ htPad hpPad]
  simp [go_sem]
  obtain ⟨x0, x1⟩ := x
  obtain ⟨y0, y1⟩ := y
  clear hpPad htPad
  have hT : ∀ a b : ByteArray, a.toList = b.toList ↔ a = b := fun a b => ⟨fun h => by rw [ByteArray.toList_eq, ByteArray.toList_eq] at h; exact ByteArray.ext (Array.toList_inj.1 h), fun h => by rw [h]⟩
  simp only [hT]
  simp only [APad.mk.injEq]
  (repeat' split) <;> simp_all
end Go.Proofs.YtmciccnmpoijdaaDoor
