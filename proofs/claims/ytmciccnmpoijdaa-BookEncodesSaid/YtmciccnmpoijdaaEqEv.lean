/- two events held against each other, field by field -/
import Derived.Test.YtmciccnmpoijdaaApi
import Derived.Test.YtmciccnmpoijdaaEqFields
namespace Go.Proofs.Ytmciccnmpoijdaa
open Go.RowKit
set_option maxRecDepth 20000
def eqE7 (x3 x4 x5 x6 x7 x8 x9 y3 y4 y5 y6 y7 y8 y9 : Int) : Bool := decide (x3 = y3 ∧ x4 = y4 ∧ x5 = y5 ∧ x6 = y6 ∧ x7 = y7 ∧ x8 = y8 ∧ x9 = y9)
def eqE (x0 x1 x2 x3 x4 x5 x6 x7 x8 x9 x10 x11 x12 y0 y1 y2 y3 y4 y5 y6 y7 y8 y9 y10 y11 y12 : Int) : Bool :=
  decide (x0 = y0 ∧ x1 = y1 ∧ x2 = y2 ∧ (x3 = y3 ∧ x4 = y4 ∧ x5 = y5 ∧ x6 = y6 ∧ x7 = y7 ∧ x8 = y8 ∧ x9 = y9) ∧ x10 = y10 ∧ x11 = y11 ∧ x12 = y12)
theorem eqlBillIn (x3 x4 x5 x6 x7 x8 x9 y3 y4 y5 y6 y7 y8 y9 : Int) (w : World) : (Op.equalIn 9999 39 (.agg #[I x3, I x4, I x5, I x6, I x7, I x8, I x9]) (.agg #[I y3, I y4, I y5, I y6, I y7, I y8, I y9])).run Try.prog w = .ok (eqE7 x3 x4 x5 x6 x7 x8 x9 y3 y4 y5 y6 y7 y8 y9) w := by
  have hp : Try.prog.stoodInHeld 39 = false := by kernel_rfl
  have ht : Try.prog.underlying 39 = some (.struct (Try.prog.fieldsOf 39)) := by kernel_rfl
  rw [run_equalIn_struct w 9998 39 _ _ ht hp]
  simp only [Program.fieldsOf, Try.underlying39]
  rw [eqF_int w (by decide) Try.underlying3 rfl rfl, eqF_int w (by decide) Try.underlying3 rfl rfl, eqF_int w (by decide) Try.underlying3 rfl rfl, eqF_int w (by decide) Try.underlying3 rfl rfl, eqF_int w (by decide) Try.underlying3 rfl rfl, eqF_int w (by decide) Try.underlying3 rfl rfl, eqF_int w (by decide) Try.underlying3 rfl rfl, eqF_nil]
  unfold eqE7
  (repeat' split) <;> simp_all
theorem eqlDebtIn (x y a b : Int) (w : World) : (Op.equalIn 9999 41 (.agg #[I x, I y]) (.agg #[I a, I b])).run Try.prog w = .ok (decide (x = a ∧ y = b)) w := by
  have hp : Try.prog.stoodInHeld 41 = false := by kernel_rfl
  have ht : Try.prog.underlying 41 = some (.struct (Try.prog.fieldsOf 41)) := by kernel_rfl
  rw [run_equalIn_struct w 9998 41 _ _ ht hp]
  simp only [Program.fieldsOf, Try.underlying41]
  rw [eqF_int w (by decide) Try.underlying3 rfl rfl, eqF_int w (by decide) Try.underlying3 rfl rfl, eqF_nil]
  (repeat' split) <;> simp_all
set_option maxRecDepth 200000 in
theorem eqlEv_run (x0 x1 x2 x3 x4 x5 x6 x7 x8 x9 x10 x11 x12 y0 y1 y2 y3 y4 y5 y6 y7 y8 y9 y10 y11 y12 : Int) (w : World) :
    (binOp .eql 43 (.agg #[I x0, I x1, I x2, I x3, I x4, I x5, I x6, I x7, I x8, I x9, I x10, I x11, I x12]) (.agg #[I y0, I y1, I y2, I y3, I y4, I y5, I y6, I y7, I y8, I y9, I y10, I y11, I y12])).run Try.prog w = .ok (.bool (eqE x0 x1 x2 x3 x4 x5 x6 x7 x8 x9 x10 x11 x12 y0 y1 y2 y3 y4 y5 y6 y7 y8 y9 y10 y11 y12)) w := by
  have hp : Try.prog.stoodInHeld 43 = false := by kernel_rfl
  have ht : Try.prog.underlying 43 = some (.struct (Try.prog.fieldsOf 43)) := by kernel_rfl
  rw [run_eql_struct, run_equalIn_struct w 9999 43 _ _ ht hp]
  simp only [Program.fieldsOf, Try.underlying43]
  rw [eqF_int w (by decide) Try.underlying3 rfl rfl, eqF_int w (by decide) Try.underlying3 rfl rfl, eqF_int w (by decide) Try.underlying3 rfl rfl,
    eqF_sub w (u := .agg #[I x3, I x4, I x5, I x6, I x7, I x8, I x9]) (v := .agg #[I y3, I y4, I y5, I y6, I y7, I y8, I y9]) (r := eqE7 x3 x4 x5 x6 x7 x8 x9 y3 y4 y5 y6 y7 y8 y9) (by decide) (by kernel_rfl) (by kernel_rfl) (eqlBillIn _ _ _ _ _ _ _ _ _ _ _ _ _ _ w),
    eqF_int w (by decide) Try.underlying3 rfl rfl,
    eqF_sub w (u := .agg #[I x11, I x12]) (v := .agg #[I y11, I y12]) (r := decide (x11 = y11 ∧ x12 = y12)) (by decide) (by kernel_rfl) (by kernel_rfl) (eqlDebtIn _ _ _ _ w), eqF_nil]
  unfold eqE eqE7
  (repeat' split) <;> simp_all
end Go.Proofs.Ytmciccnmpoijdaa
