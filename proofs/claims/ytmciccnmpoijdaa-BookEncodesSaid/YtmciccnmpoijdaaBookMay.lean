/- book.check: which events may be -/
import Derived.Deep.DeepCutAuto
import Derived.Test.YtmciccnmpoijdaaBookRec
import Derived.Test.YtmciccnmpoijdaaEqEv
namespace Go.Proofs.Ytmciccnmpoijdaa
open Go Go.RowKit
set_option maxRecDepth 20000

abbrev evV (x0 x1 x2 x3 x4 x5 x6 x7 x8 x9 x10 x11 x12 : Int) : Value := .agg #[I x0, I x1, I x2, I x3, I x4, I x5, I x6, I x7, I x8, I x9, I x10, I x11, I x12]
/-- kind meter month id tender debt fee price change units tag owed bp -/
def mayReg (mo id te de fe pr ch un ta ow bp : Int) : Bool := decide (mo = 0 ∧ (id = 0 ∧ te = 0 ∧ de = 0 ∧ fe = 0 ∧ pr = 0 ∧ ch = 0 ∧ un = 0) ∧ ta = 0 ∧ ow = 0 ∧ bp = 0)
def maySale (mo id te de fe pr ch un ta ow bp : Int) : Bool := decide ((0 ≤ de ∧ 0 ≤ fe ∧ 0 ≤ pr ∧ 0 ≤ ch) ∧ (1 ≤ te ∧ te ≤ 100000000) ∧ de + fe + pr + ch = te ∧ (1 ≤ un ∧ un ≤ 2097151) ∧ (0 ≤ mo ∧ mo ≤ 2399) ∧ (1 ≤ id ∧ id ≤ 1048575) ∧ (0 ≤ ta ∧ ta ≤ 65535) ∧ ow = 0 ∧ bp = 0)
def mayGrant (mo id te de fe pr ch un ta ow bp : Int) : Bool := decide ((1 ≤ un ∧ un ≤ 2097151) ∧ (0 ≤ mo ∧ mo ≤ 2399) ∧ (1 ≤ id ∧ id ≤ 1048575) ∧ (0 ≤ ta ∧ ta ≤ 65535) ∧ (te = 0 ∧ de = 0 ∧ fe = 0 ∧ pr = 0 ∧ ch = 0) ∧ ow = 0 ∧ bp = 0)
def mayRekey (mo id te de fe pr ch un ta ow bp : Int) : Bool := decide ((1 ≤ id ∧ id ≤ 1048575) ∧ (0 ≤ ta ∧ ta ≤ 65535) ∧ mo = 0 ∧ (te = 0 ∧ de = 0 ∧ fe = 0 ∧ pr = 0 ∧ ch = 0 ∧ un = 0) ∧ ow = 0 ∧ bp = 0)
def mayCharge (mo id te de fe pr ch un ta ow bp : Int) : Bool := decide ((1 ≤ ow ∧ ow ≤ 1000000000) ∧ (0 ≤ bp ∧ bp ≤ 10000) ∧ mo = 0 ∧ (id = 0 ∧ te = 0 ∧ de = 0 ∧ fe = 0 ∧ pr = 0 ∧ ch = 0 ∧ un = 0) ∧ ta = 0)
def evMay (ki me mo id te de fe pr ch un ta ow bp : Int) : Bool :=
  inB me 0 49 && (if ki = 1 then mayReg mo id te de fe pr ch un ta ow bp else if ki = 2 then maySale mo id te de fe pr ch un ta ow bp else if ki = 3 then mayGrant mo id te de fe pr ch un ta ow bp
    else if ki = 4 then mayRekey mo id te de fe pr ch un ta ow bp else if ki = 5 then mayCharge mo id te de fe pr ch un ta ow bp else false)
/-- it returns, or throws ErrState -/
def EvP (b : Bool) (w : World) (e : Ending) (w' : World) : Prop := (if b then e = .returned (.tuple #[]) else e = .panicked [{ v := refV 5, recovered := false }]) ∧ Below w.heap.size w w'
theorem EvP.yes {b : Bool} {w w' : World} (h : b = true) (k : Below w.heap.size w w') : EvP b w (.returned (.tuple #[])) w' := by subst h; exact ⟨rfl, k⟩
theorem EvP.no {b : Bool} {w w' : World} (h : b = false) (k : Below w.heap.size w w') : EvP b w (.panicked [{ v := refV 5, recovered := false }]) w' := by subst h; exact ⟨rfl, k⟩
/-- want, whatever it is told -/
def WantP (b : Bool) (k : Int) (w : World) (e : Ending) (w' : World) : Prop := (b = true ∧ e = .returned (.tuple #[]) ∧ w = w') ∨ (b = false ∧ e = .panicked [{ v := refV k, recovered := false }] ∧ w = w')
theorem want_any (b : Bool) (k : Int) (w : World) : Calls Try.prog 35 #[.bool b, I k] w (WantP b k w) := by
  cases b
  · exact (want_no k w).mono fun _ _ ⟨h1, h2⟩ => .inr ⟨rfl, h1, h2.symm⟩
  · exact (want_yes k w).mono fun _ _ ⟨h1, h2⟩ => .inl ⟨rfl, h1, h2⟩
end Go.Proofs.Ytmciccnmpoijdaa
