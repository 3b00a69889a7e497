/-
  Words of our own for contracts: what a call returns, behind a name, so that the walk leaves it alone.
-/
import Derived.Test.YtdjgcenjonegjaaProg
import Derived.WalkKit
import Derived.Lib.Hide
import Derived.WalkSpells
import Derived.WalkLawsBesides
import Derived.BigQuiet
import Derived.Deep.QuietTactic
namespace Go.Proofs.Ytdjgcenjonegjaa
open Go.RowKit
set_option maxRecDepth 20000

/-- the call returns v; the world is as it was -/
def Pure (v : Value) (w : World) (e : Ending) (w' : World) : Prop := e = .returned v ∧ w = w'
theorem Pure.intro {v v' : Value} {w : World} (h : v' = v) : Pure v w (.returned v') w := ⟨by rw [h], rfl⟩

/-- the call returns v; what was there is as it was -/
def Grew (v : Value) (w : World) (e : Ending) (w' : World) : Prop := e = .returned v ∧ Below w.heap.size w w'
theorem Grew.intro {v v' : Value} {w w' : World} (h : v' = v) (hb : Below w.heap.size w w') : Grew v w (.returned v') w' := ⟨by rw [h], hb⟩
theorem Pure.grew {v : Value} {w w' : World} {e : Ending} (h : Pure v w e w') : Grew v w e w' := by obtain ⟨rfl, rfl⟩ := h; exact ⟨rfl, Below.refl _ _⟩

theorem drewN_below {B : Nat} {a w : World} (h : Below B a w) (n : Nat) : Below B a (w.drewN n) := ⟨h.os, h.tape, h.output, h.size, h.block⟩

theorem Grew.grew {v : Value} {w w' : World} {e : Ending} (h : Grew v w e w') : Grew v w e w' := h

theorem Pure.same {P : Program} {f : FuncId} {args : Array Value} {w : World} {v : Value} (h : Calls P f args w (Pure v w)) : Calls P f args w (fun e w' => e = .returned v ∧ w' = w) := h.mono fun _ _ ⟨h1, h2⟩ => ⟨h1, h2.symm⟩
theorem Pure.quiet {P : Program} {f : FuncId} {args : Array Value} {w : World} {n : Nat} {v : Value} (h : Calls P f args (w.drewN n) (Pure v (w.drewN n))) : Calls P f args (w.drewN n) (fun e w' => e = .returned v ∧ w' = w.drewN n) := Pure.same h
theorem Pure.quiet2 {P : Program} {f : FuncId} {args : Array Value} {w : World} {a n : Nat} {v : Value} (h : Calls P f args (w.drewN (a + n)) (Pure v (w.drewN (a + n)))) :
    Calls P f args (w.drewN (a + n)) fun e w'' => e = .returned v ∧ ∃ m, w'' = w.drewN (a + m) := h.mono fun _ _ ⟨he, hm⟩ => ⟨he, n, hm.symm⟩
theorem boxed_below (w : World) (o : Obj) : Below w.heap.size w (w.alloc o) := (Below.refl _ _).alloc (Nat.le_refl _) _

/-- all old cells and marks read as before: two rules for the walk -/
theorem bcell {W w1 : World} (hb : Below W.heap.size W w1) : (∀ b o, b < W.heap.size → w1.cell? ⟨b, o, none⟩ = W.cell? ⟨b, o, none⟩) ∧ (∀ b o, b < W.heap.size → w1.frozen? ⟨b, o, none⟩ = W.frozen? ⟨b, o, none⟩) :=
  ⟨fun b o h => hb.cell (p := ⟨b, o, none⟩) h, fun b o h => hb.frozen (p := ⟨b, o, none⟩) h⟩
theorem below_box {w w1 : World} {o : Obj} (h : Below (w.alloc o).heap.size (w.alloc o) w1) : Below w.heap.size w w1 := (boxed_below w o).trans (h.mono (by simp))

/-- an int -/
abbrev I (n : Int) : Value := .int .i64 n
/-- two, three, four results -/
abbrev T2 (a b : Value) : Value := .tuple #[a, b]
abbrev T3 (a b c : Value) : Value := .tuple #[a, b, c]
abbrev T4 (a b c d : Value) : Value := .tuple #[a, b, c, d]

theorem eI {a b : Int} (h : a = b) : I a = I b := by rw [h]
theorem eI2 {a b a' b' : Int} (h : a = a') (k : b = b') : T2 (I a) (I b) = T2 (I a') (I b') := by rw [h, k]
theorem eI3 {a b c a' b' c' : Int} (h : a = a') (k : b = b') (l : c = c') : T3 (I a) (I b) (I c) = T3 (I a') (I b') (I c') := by rw [h, k, l]
theorem eB {a b : Bool} (h : a = b) : Value.bool a = Value.bool b := by rw [h]

end Go.Proofs.Ytdjgcenjonegjaa
