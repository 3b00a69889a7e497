/- arguments that hold a list: accounts, terms, oracles -/
import Derived.Test.YtenoigmkhlnfoaaDecode
namespace Go.Proofs.Ytenoigmkhlnfoaa
set_option linter.unusedSimpArgs false
set_option linter.unusedVariables false
open Go.RowKit Go.ChangeShapes Go.WideShapes Go.ChangeAt
set_option maxRecDepth 20000

/-- an account but for its debts -/
structure AAcc where
  meter : Int
  rev : Int
  next : Int
  month : Int
  bought : Int
  free : Int
deriving DecidableEq, Inhabited
def AAcc.wf (x : AAcc) : Prop := I64 x.meter ∧ I64 x.rev ∧ I64 x.next ∧ I64 x.month ∧ I64 x.bought ∧ I64 x.free
/-- terms but for the tariff -/
structure ATerms where
  feeFix : Int
  feeBp : Int
  debtBp : Int
  allow : Int
deriving DecidableEq, Inhabited
def ATerms.wf (x : ATerms) : Prop := I64 x.feeFix ∧ I64 x.feeBp ∧ I64 x.debtBp ∧ I64 x.allow

theorem decodeTerms {w : World} {by' : Nat} (cs : List Value) (h : Plains w [.slice by' [.int .i64, .int .i64], .int .i64, .int .i64, .int .i64, .int .i64] cs) :
    ∃ (x : ATerms) (v : Value) (xs : List AStep), cs = [v, I x.feeFix, I x.feeBp, I x.debtBp, I x.allow] ∧ x.wf ∧ Sl w v 2 xs.length (xs.flatMap AStep.cells) ∧ (∀ x ∈ xs, x.wf) ∧ xs.length * by' ≤ 140737488351232 := by
  simp only [Plains] at h
  obtain ⟨v0, r0, rfl, h0, v1, r1, rfl, h1, v2, r2, rfl, h2, v3, r3, rfl, h3, v4, r4, rfl, h4, rfl⟩ := h
  obtain ⟨xs, hS, hw, hb⟩ := plainSteps h0
  obtain ⟨n1, rfl, w1⟩ := plain_i64 h1
  obtain ⟨n2, rfl, w2⟩ := plain_i64 h2
  obtain ⟨n3, rfl, w3⟩ := plain_i64 h3
  obtain ⟨n4, rfl, w4⟩ := plain_i64 h4
  exact ⟨⟨n1, n2, n3, n4⟩, v0, xs, rfl, ⟨w1, w2, w3, w4⟩, hS, hw, hb⟩

end Go.Proofs.Ytenoigmkhlnfoaa
