/-
  Words of our own for contracts: what a call returns, behind a name, so that the walk leaves it alone.
-/
import Derived.Test.YtfhmcahfjoliiaaDoorProg
import Derived.WalkKit
import Derived.Lib.Hide
import Derived.WalkSpells
import Derived.WalkLawsBesides
import Derived.BigQuiet
import Derived.Deep.QuietTactic
namespace Go.Proofs.YtfhmcahfjoliiaaDoor
set_option linter.unusedSimpArgs false
set_option linter.unusedVariables false
open Go.RowKit
set_option maxRecDepth 20000

/-- the call returns v; the world is as it was -/
def Pure (v : Value) (w : World) (e : Ending) (w' : World) : Prop := e = .returned v ∧ w = w'
theorem Pure.intro {v v' : Value} {w : World} (h : v' = v) : Pure v w (.returned v') w := ⟨by rw [h], rfl⟩

/-- the call returns v; what was there is as it was -/
def Grew (v : Value) (w : World) (e : Ending) (w' : World) : Prop := e = .returned v ∧ Below w.heap.size w w'
theorem Grew.intro {v v' : Value} {w w' : World} (h : v' = v) (hb : Below w.heap.size w w') : Grew v w (.returned v') w' := ⟨by rw [h], hb⟩
theorem drewN_below {B : Nat} {a w : World} (h : Below B a w) (n : Nat) : Below B a (w.drewN n) := ⟨h.os, h.tape, h.output, h.size, h.block⟩

theorem Grew.grew {v : Value} {w w' : World} {e : Ending} (h : Grew v w e w') : Grew v w e w' := h

theorem boxed_below (w : World) (o : Obj) : Below w.heap.size w (w.alloc o) := (Below.refl _ _).alloc (Nat.le_refl _) _

/-- an int -/
abbrev I (n : Int) : Value := .int .i64 n
/-- two, three, four results -/
abbrev T2 (a b : Value) : Value := .tuple #[a, b]
abbrev T3 (a b c : Value) : Value := .tuple #[a, b, c]
abbrev T4 (a b c d : Value) : Value := .tuple #[a, b, c, d]

theorem eI {a b : Int} (h : a = b) : I a = I b := by rw [h]
theorem below_auto {B : Nat} {a w : World} (h : Below B a w := by repeat first | exact Below.refl _ _ | assumption | refine drewN_below ?_ _ | refine Below.alloc ?_ (by first | exact Nat.le_refl _ | exact Below.size (by assumption) | (simp; done) | (simp; omega) | omega) _ | refine Below.setCell ?_ (by first | exact Nat.le_refl _ | (simp; done) | (simp; omega) | omega) _) : Below B a w := h
theorem below_autor {B : Nat} {a w : World} (h : Below B a w := by repeat first | with_reducible assumption | with_reducible exact Below.refl _ _ | with_reducible refine Below.setCell ?_ (by first | exact Nat.le_refl _ | exact Below.size (by assumption) | (simp; done) | (simp; omega) | omega) _ | with_reducible refine Below.alloc ?_ (by first | exact Nat.le_refl _ | exact Below.size (by assumption) | (simp; done) | (simp; omega) | omega) _ | with_reducible refine drewN_below ?_ _ | with_reducible refine Below.drew ?_) : Below B a w := h
end Go.Proofs.YtfhmcahfjoliiaaDoor
