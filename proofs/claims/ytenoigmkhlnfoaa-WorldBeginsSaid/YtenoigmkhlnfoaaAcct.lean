/- accounts: which may be -/
import Derived.Test.YtenoigmkhlnfoaaDecodeB
import Derived.Test.YtenoigmkhlnfoaaDebt
import Derived.Test.YtenoigmkhlnfoaaOwn
import Derived.Test.YtenoigmkhlnfoaaFar
import Derived.Test.YtenoigmkhlnfoaaSameDebt
import Derived.Test.YtenoigmkhlnfoaaCopyDebts
namespace Go.Proofs.Ytenoigmkhlnfoaa
set_option linter.unusedSimpArgs false
set_option linter.unusedVariables false
open Go.RowKit
set_option maxRecDepth 20000

def accMay (x : AAcc) (xs : List ADebt) : Bool :=
  decide (debtE xs = 0) && inB x.meter 0 49 && inB x.rev 0 15 && inB x.next 1 1048576 && inB x.month 0 2399 && inB x.bought 0 10000000 && inB x.free (-1) x.month

theorem awithin_any (n low high : Int) (w : World) : Calls Try.prog 58 #[I n, I low, I high] w (Pure (.bool (inB n low high)) w) := by
  go_enter Try.func58, Try.ntmps58
  go_wp2
  all_goals
    go_ret
    refine Pure.intro ?_
    simp only [inB]
    simp [*]
    try omega

/-- an account comes back, its debts in new memory, and a number -/
def GrewAcc (x : AAcc) (xs : List ADebt) (k : Int) (w : World) (e : Ending) (w' : World) : Prop :=
  ∃ v, e = .returned (T2 (.agg #[I x.meter, I x.rev, I x.next, I x.month, I x.bought, I x.free, v]) (I k)) ∧ Sl w' v 2 xs.length (xs.flatMap ADebt.cells) ∧ Below w.heap.size w w'
/-- an account and a bill -/
def GrewAccB (x : AAcc) (xs : List ADebt) (m : ABill) (k : Int) (w : World) (e : Ending) (w' : World) : Prop :=
  ∃ v, e = .returned (T3 (.agg #[I x.meter, I x.rev, I x.next, I x.month, I x.bought, I x.free, v]) (.agg #[I m.id, I m.tender, I m.debt, I m.fee, I m.price, I m.change, I m.units]) (I k)) ∧ Sl w' v 2 xs.length (xs.flatMap ADebt.cells) ∧ Below w.heap.size w w'
def GrewAcc1 (x : AAcc) (xs : List ADebt) (w : World) (e : Ending) (w' : World) : Prop :=
  ∃ v, e = .returned (.agg #[I x.meter, I x.rev, I x.next, I x.month, I x.bought, I x.free, v]) ∧ Sl w' v 2 xs.length (xs.flatMap ADebt.cells) ∧ Below w.heap.size w w'
/-- .. its debts nowhere below what was there -/
def GrewAccF (x : AAcc) (xs : List ADebt) (k : Int) (w : World) (e : Ending) (w' : World) : Prop :=
  ∃ v, e = .returned (T2 (.agg #[I x.meter, I x.rev, I x.next, I x.month, I x.bought, I x.free, v]) (I k)) ∧ Sl w' v 2 xs.length (xs.flatMap ADebt.cells) ∧ Below w.heap.size w w' ∧ FarB w.heap.size v
/-- .. its debts nowhere below what was there -/
def GrewAccBF (x : AAcc) (xs : List ADebt) (b : ABill) (k : Int) (w : World) (e : Ending) (w' : World) : Prop :=
  ∃ v, e = .returned (T3 (.agg #[I x.meter, I x.rev, I x.next, I x.month, I x.bought, I x.free, v]) (.agg #[I b.id, I b.tender, I b.debt, I b.fee, I b.price, I b.change, I b.units]) (I k)) ∧ Sl w' v 2 xs.length (xs.flatMap ADebt.cells) ∧ Below w.heap.size w w' ∧ FarB w.heap.size v
end Go.Proofs.Ytenoigmkhlnfoaa
