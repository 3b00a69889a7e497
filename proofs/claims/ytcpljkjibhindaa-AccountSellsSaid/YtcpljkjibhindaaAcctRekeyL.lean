/- what Rekey answers -/
import Derived.Test.YtcpljkjibhindaaAcctOwe
import Derived.Test.YtcpljkjibhindaaChg
namespace Go.Proofs.Ytcpljkjibhindaa
open Go.RowKit
set_option maxRecDepth 20000

def rekeyE (x : AAcc) (xs : List ADebt) : Int := if accMay x xs then (if x.rev = 15 then 24 else if x.next = 1048576 then 20 else 0) else 5
def rekeyX (x : AAcc) (xs : List ADebt) : AAcc := if rekeyE x xs = 0 then ⟨x.meter, x.rev + 1, x.next + 1, x.month, x.bought, x.free⟩ else ⟨0, 0, 0, 0, 0, 0⟩
def rekeyL (x : AAcc) (xs : List ADebt) : List ADebt := if rekeyE x xs = 0 then xs else []
def rekeyB (x : AAcc) (xs : List ADebt) : ABill := if rekeyE x xs = 0 then ⟨x.next, 0, 0, 0, 0, 0, 0⟩ else ⟨0, 0, 0, 0, 0, 0, 0⟩
theorem rekey_err {x : AAcc} {xs : List ADebt} (k : Int) (h : rekeyE x xs = k) (hk : k ≠ 0) : rekeyX x xs = ⟨0, 0, 0, 0, 0, 0⟩ ∧ rekeyL x xs = [] ∧ rekeyB x xs = ⟨0, 0, 0, 0, 0, 0, 0⟩ ∧ rekeyE x xs = k := by simp [rekeyX, rekeyL, rekeyB, h, hk]
theorem rekey_ok {x : AAcc} {xs : List ADebt} (h : rekeyE x xs = 0) : rekeyX x xs = ⟨x.meter, x.rev + 1, x.next + 1, x.month, x.bought, x.free⟩ ∧ rekeyL x xs = xs ∧ rekeyB x xs = ⟨x.next, 0, 0, 0, 0, 0, 0⟩ ∧ rekeyE x xs = 0 := by simp [rekeyX, rekeyL, rekeyB, h]
theorem accMay_bd {x : AAcc} {xs : List ADebt} (h : accMay x xs = true) : 0 ≤ x.meter ∧ x.meter ≤ 49 ∧ 0 ≤ x.rev ∧ x.rev ≤ 15 ∧ 1 ≤ x.next ∧ x.next ≤ 1048576 ∧ 0 ≤ x.month ∧ x.month ≤ 2399 ∧ 0 ≤ x.bought ∧ x.bought ≤ 10000000 ∧ -1 ≤ x.free ∧ x.free ≤ x.month := by
  simp only [accMay, Bool.and_eq_true, inB_true] at h
  omega
end Go.Proofs.Ytcpljkjibhindaa
