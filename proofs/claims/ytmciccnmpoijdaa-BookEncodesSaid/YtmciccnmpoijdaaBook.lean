/- book.want, within, caught; the closures that recover -/
import Derived.Test.YtmciccnmpoijdaaRecD
import Derived.Test.YtmciccnmpoijdaaIn
import Derived.Test.YtmciccnmpoijdaaOwn
namespace Go.Proofs.Ytmciccnmpoijdaa
open Go Go.RowKit
set_option maxRecDepth 20000

/-- what is thrown -/
abbrev refV (k : Int) : Value := .iface 101 (.agg #[I k])
theorem want_yes (k : Int) (w : World) : Calls Try.prog 35 #[.bool true, I k] w (Pure (.tuple #[]) w) := by
  go_enter Try.func35, Try.ntmps35
  go_wp2
  exact bodyPost_ret (results_none rfl _ _ _) rfl ⟨rfl, rfl⟩
theorem want_no (k : Int) (w : World) : Calls Try.prog 35 #[.bool false, I k] w (fun e w' => e = .panicked [{ v := refV k, recovered := false }] ∧ w' = w) := by
  go_enter Try.func35, Try.ntmps35
  go_wp2
  exact ⟨rfl, rfl, rfl⟩
theorem within_any (n a b : Int) (w : World) : Calls Try.prog 55 #[I n, I a, I b] w (Pure (.bool (inB n a b)) w) := by
  go_enter Try.func55, Try.ntmps55
  go_wp2
  all_goals
    go_ret
    refine Pure.intro ?_
    simp only [inB]
    simp [*]
    try omega
theorem as_err (k : Int) (w : World) : (Instr.typeAssert (refV k) 20 99 false).run Try.prog w = .ok (refV k) w := by kernel_rfl
theorem as_ref (k : Int) (w : World) : (Instr.typeAssert (refV k) 99 101 true).run Try.prog w = .ok (.tuple #[.agg #[I k], .bool true]) w := by kernel_rfl
theorem caught_nil (k : Int) (w : World) : Calls Try.prog 30 #[.nilIface, I k] w (Grew (I k) w) := by
  go_enter Try.func30, Try.ntmps30
  go_wp2
  go_ret
  exact Grew.intro rfl (by repeat first | exact Below.refl _ _ | assumption | refine drewN_below ?_ _ | refine Below.alloc ?_ (by first | exact Nat.le_refl _ | exact Below.size (by assumption) | (simp; done) | (simp; omega) | omega) _ | refine Below.setCell ?_ (by first | exact Nat.le_refl _ | (simp; done) | (simp; omega) | omega) _)
theorem caught_ref (k e : Int) (w : World) : Calls Try.prog 30 #[refV k, I e] w (Grew (I k) w) := by
  have h1 := as_err k
  have h2 := as_ref k
  go_enter Try.func30, Try.ntmps30
  go_wp2
  go_ret
  exact Grew.intro rfl (by repeat first | exact Below.refl _ _ | assumption | refine drewN_below ?_ _ | refine Below.alloc ?_ (by first | exact Nat.le_refl _ | exact Below.size (by assumption) | (simp; done) | (simp; omega) | omega) _ | refine Below.setCell ?_ (by first | exact Nat.le_refl _ | (simp; done) | (simp; omega) | omega) _)
end Go.Proofs.Ytmciccnmpoijdaa
