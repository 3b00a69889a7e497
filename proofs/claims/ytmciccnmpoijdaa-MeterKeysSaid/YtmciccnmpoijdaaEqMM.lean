/- two meters held against each other -/
import Derived.Test.YtmciccnmpoijdaaMeter
import Derived.Test.YtmciccnmpoijdaaEqFields
namespace Go.Proofs.Ytmciccnmpoijdaa
open Go.RowKit
set_option maxRecDepth 20000
def eqM (x y : MM) : Bool := decide (x.me = y.me) && (decide (x.rev = y.rev) && (decide (x.cr = y.cr) && (decide (x.h = y.h) && (decide (x.b = y.b) && (decide (x.bad = y.bad) && decide (x.lk = y.lk))))))
theorem eqM_true {x y : MM} : eqM x y = true ↔ x = y := by
  obtain ⟨x1, x2, x3, x4, x5, x6, x7⟩ := x
  obtain ⟨y1, y2, y3, y4, y5, y6, y7⟩ := y
  simp [eqM]
theorem guardMM : Try.prog.eqGuardType Try.prog.depth 26 = false := by kernel_rfl
theorem eqlWin (h h' : Int) (b b' : Nat) (w : World) : (Op.equalIn 9999 24 (.agg #[I h, .int .u64 b]) (.agg #[I h', .int .u64 b'])).run Try.prog w = .ok (decide (h = h') && decide (b = b')) w := by
  have hpW : Try.prog.stoodInHeld 24 = false := by kernel_rfl
  have htW : Try.prog.underlying 24 = some (.struct (Try.prog.fieldsOf 24)) := by kernel_rfl
  rw [run_equalIn_struct w 9998 24 _ _ htW hpW]
  simp only [Program.fieldsOf, Try.underlying24]
  rw [eqF_int w (by decide) Try.underlying3 rfl rfl, eqF_int w (by decide) Try.underlying22 rfl rfl, eqF_nil]
  by_cases h1 : h = h'
  · by_cases h2 : b = b'
    · simp [h1, h2]
    · simp [h1, h2]; omega
  · simp [h1]
set_option maxRecDepth 200000 in
theorem eqlMM_run (x y : MM) (w : World) : (binOp .eql 26 x.v y.v).run Try.prog w = .ok (.bool (eqM x y)) w := by
  have hpMeter : Try.prog.stoodInHeld 26 = false := by kernel_rfl
  have htMeter : Try.prog.underlying 26 = some (.struct (Try.prog.fieldsOf 26)) := by kernel_rfl
  obtain ⟨x1, x2, x3, x4, x5, x6, x7⟩ := x
  obtain ⟨y1, y2, y3, y4, y5, y6, y7⟩ := y
  rw [run_eql_struct, run_equalIn_struct w 9999 26 _ _ htMeter hpMeter]
  simp only [Program.fieldsOf, Try.underlying26]
  rw [eqF_int w (by decide) Try.underlying3 rfl rfl, eqF_int w (by decide) Try.underlying3 rfl rfl, eqF_int w (by decide) Try.underlying3 rfl rfl,
    eqF_sub w (u := .agg #[I x4, .int .u64 x5]) (v := .agg #[I y4, .int .u64 y5]) (r := decide (x4 = y4) && decide (x5 = y5)) (by decide) (by kernel_rfl) (by kernel_rfl) (eqlWin x4 y4 x5 y5 w),
    eqF_int w (by decide) Try.underlying3 rfl rfl, eqF_int w (by decide) Try.underlying3 rfl rfl, eqF_nil]
  unfold eqM
  simp only [Bool.and_eq_true, decide_eq_true_eq]
  (repeat' split) <;> simp_all [Result.andThen]
end Go.Proofs.Ytmciccnmpoijdaa
