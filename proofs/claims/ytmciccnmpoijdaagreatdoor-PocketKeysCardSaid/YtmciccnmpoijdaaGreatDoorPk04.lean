/- arguments that hold a list: accounts, terms, oracles · 'In' and its twins: is a number from low to high? -/
import Derived.Test.YtmciccnmpoijdaaGreatDoorDecode
import Derived.Test.YtmciccnmpoijdaaGreatDoorPk00
namespace Go.Proofs.YtmciccnmpoijdaaGreatDoor
open Go.RowKit Go.ChangeShapes Go.WideShapes Go.ChangeAt
set_option maxRecDepth 20000

/-- an account but for its debts -/
structure AAcc where
  meter : Int
  rev : Int
  next : Int
  month : Int
  bought : Int
  free : Int
deriving DecidableEq, Inhabited
def AAcc.wf (x : AAcc) : Prop := I64 x.meter ∧ I64 x.rev ∧ I64 x.next ∧ I64 x.month ∧ I64 x.bought ∧ I64 x.free
/-- terms but for the tariff -/
structure ATerms where
  feeFix : Int
  feeBp : Int
  debtBp : Int
  allow : Int
deriving DecidableEq, Inhabited
def ATerms.wf (x : ATerms) : Prop := I64 x.feeFix ∧ I64 x.feeBp ∧ I64 x.debtBp ∧ I64 x.allow

theorem decodeAccount {w : World} {by' : Nat} (cs : List Value) (h : Plains w [.int .i64, .int .i64, .int .i64, .int .i64, .int .i64, .int .i64, .slice by' [.int .i64, .int .i64]] cs) :
    ∃ (x : AAcc) (v : Value) (xs : List ADebt), cs = [I x.meter, I x.rev, I x.next, I x.month, I x.bought, I x.free, v] ∧ x.wf ∧ Sl w v 2 xs.length (xs.flatMap ADebt.cells) ∧ (∀ x ∈ xs, x.wf) ∧ xs.length * by' ≤ 140737488351232 := by
  simp only [Plains] at h
  obtain ⟨v0, r0, rfl, h0, v1, r1, rfl, h1, v2, r2, rfl, h2, v3, r3, rfl, h3, v4, r4, rfl, h4, v5, r5, rfl, h5, v6, r6, rfl, h6, rfl⟩ := h
  obtain ⟨n0, rfl, w0⟩ := plain_i64 h0
  obtain ⟨n1, rfl, w1⟩ := plain_i64 h1
  obtain ⟨n2, rfl, w2⟩ := plain_i64 h2
  obtain ⟨n3, rfl, w3⟩ := plain_i64 h3
  obtain ⟨n4, rfl, w4⟩ := plain_i64 h4
  obtain ⟨n5, rfl, w5⟩ := plain_i64 h5
  obtain ⟨xs, hS, hw, hb⟩ := plainDebts h6
  exact ⟨⟨n0, n1, n2, n3, n4, n5⟩, v6, xs, rfl, ⟨w0, w1, w2, w3, w4, w5⟩, hS, hw, hb⟩

theorem decodeTerms {w : World} {by' : Nat} (cs : List Value) (h : Plains w [.slice by' [.int .i64, .int .i64], .int .i64, .int .i64, .int .i64, .int .i64] cs) :
    ∃ (x : ATerms) (v : Value) (xs : List AStep), cs = [v, I x.feeFix, I x.feeBp, I x.debtBp, I x.allow] ∧ x.wf ∧ Sl w v 2 xs.length (xs.flatMap AStep.cells) ∧ (∀ x ∈ xs, x.wf) ∧ xs.length * by' ≤ 140737488351232 := by
  simp only [Plains] at h
  obtain ⟨v0, r0, rfl, h0, v1, r1, rfl, h1, v2, r2, rfl, h2, v3, r3, rfl, h3, v4, r4, rfl, h4, rfl⟩ := h
  obtain ⟨xs, hS, hw, hb⟩ := plainSteps h0
  obtain ⟨n1, rfl, w1⟩ := plain_i64 h1
  obtain ⟨n2, rfl, w2⟩ := plain_i64 h2
  obtain ⟨n3, rfl, w3⟩ := plain_i64 h3
  obtain ⟨n4, rfl, w4⟩ := plain_i64 h4
  exact ⟨⟨n1, n2, n3, n4⟩, v0, xs, rfl, ⟨w1, w2, w3, w4⟩, hS, hw, hb⟩

theorem decodeOracle {w : World} {by' : Nat} (cs : List Value) (h : Plains w [.slice by' [.int .i64, .int .i64, .int .i64, .int .i64]] cs) :
    ∃ (v : Value) (xs : List APair), cs = [v] ∧ Sl w v 4 xs.length (xs.flatMap APair.cells) ∧ (∀ x ∈ xs, x.wf) ∧ xs.length * by' ≤ 140737488351232 := by
  simp only [Plains] at h
  obtain ⟨v0, r0, rfl, h0, rfl⟩ := h
  obtain ⟨xs, hS, hw, hb⟩ := plainPairs h0
  exact ⟨v0, xs, rfl, hS, hw, hb⟩
end Go.Proofs.YtmciccnmpoijdaaGreatDoor
namespace Go.Proofs.YtmciccnmpoijdaaGreatDoor
open Go.RowKit
set_option maxRecDepth 20000
def inB (n lo hi : Int) : Bool := decide (lo ≤ n) && decide (n ≤ hi)
theorem inB_true {n lo hi : Int} : inB n lo hi = true ↔ lo ≤ n ∧ n ≤ hi := by simp [inB]
theorem inB_false {n lo hi : Int} : inB n lo hi = false ↔ ¬ (lo ≤ n ∧ n ≤ hi) := by rw [← inB_true]; simp

theorem In_any (n low high : Int) (w : World) :
    Calls Tryz.prog 84 #[.int .i64 n, .int .i64 low, .int .i64 high] w (Pure (.bool (inB n low high)) w) := by
  go_enter Tryz.func84, Tryz.ntmps84
  go_wp2
  all_goals
    go_ret
    refine Pure.intro ?_
    simp only [inB]
    simp [*]
    try omega
end Go.Proofs.YtmciccnmpoijdaaGreatDoor
