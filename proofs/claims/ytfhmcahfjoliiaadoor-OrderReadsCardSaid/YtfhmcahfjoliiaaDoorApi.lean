/- the plain types of package api as Lean structures, and the cells that hold them (made by wip/bin/gen_api.py) -/
import Derived.Test.YtfhmcahfjoliiaaDoorSlice
namespace Go.Proofs.YtfhmcahfjoliiaaDoor
set_option linter.unusedSimpArgs false
set_option linter.unusedVariables false
open Go.RowKit
set_option maxRecDepth 20000

instance : Inhabited ByteArray := ⟨ByteArray.empty⟩
/-- a uint64 -/
abbrev U64 (n : Int) : Value := .int .u64 n

/-- an int, a uint32, a uint64, within its kind -/
def I64 (n : Int) : Prop := -9223372036854775808 ≤ n ∧ n ≤ 9223372036854775807
def W32 (n : Int) : Prop := 0 ≤ n ∧ n ≤ 4294967295
def W64 (n : Int) : Prop := 0 ≤ n ∧ n ≤ 18446744073709551615
def Str (s : ByteArray) : Prop := s.size ≤ 140737488351232

structure AWrite where
  at_ : Int
  word : Int
deriving DecidableEq, Inhabited
def AWrite.cells (x : AWrite) : List Value := [I x.at_, U32 x.word]
def AWrite.wf (x : AWrite) : Prop := I64 x.at_ ∧ W32 x.word
structure AStep where
  upto : Int
  price : Int
deriving DecidableEq, Inhabited
def AStep.cells (x : AStep) : List Value := [I x.upto, I x.price]
def AStep.wf (x : AStep) : Prop := I64 x.upto ∧ I64 x.price
structure ALine where
  units : Int
  price : Int
  cost : Int
deriving DecidableEq, Inhabited
def ALine.cells (x : ALine) : List Value := [I x.units, I x.price, I x.cost]
def ALine.wf (x : ALine) : Prop := I64 x.units ∧ I64 x.price ∧ I64 x.cost
structure ADebt where
  owed : Int
  bp : Int
deriving DecidableEq, Inhabited
def ADebt.cells (x : ADebt) : List Value := [I x.owed, I x.bp]
def ADebt.wf (x : ADebt) : Prop := I64 x.owed ∧ I64 x.bp
structure APair where
  meter : Int
  rev : Int
  body : Int
  tag : Int
deriving DecidableEq, Inhabited
def APair.cells (x : APair) : List Value := [I x.meter, I x.rev, I x.body, I x.tag]
def APair.wf (x : APair) : Prop := I64 x.meter ∧ I64 x.rev ∧ I64 x.body ∧ I64 x.tag
structure AEntry where
  text : ByteArray
  code : Int
deriving DecidableEq, Inhabited
def AEntry.cells (x : AEntry) : List Value := [.string x.text, I x.code]
def AEntry.wf (x : AEntry) : Prop := Str x.text ∧ I64 x.code
structure ASold where
  id : Int
  class_ : Int
  amount : Int
  tag : Int
  rev : Int
deriving DecidableEq, Inhabited
def ASold.cells (x : ASold) : List Value := [I x.id, I x.class_, I x.amount, I x.tag, I x.rev]
def ASold.wf (x : ASold) : Prop := I64 x.id ∧ I64 x.class_ ∧ I64 x.amount ∧ I64 x.tag ∧ I64 x.rev
structure ABill where
  id : Int
  tender : Int
  debt : Int
  fee : Int
  price : Int
  change : Int
  units : Int
deriving DecidableEq, Inhabited
def ABill.cells (x : ABill) : List Value := [I x.id, I x.tender, I x.debt, I x.fee, I x.price, I x.change, I x.units]
def ABill.wf (x : ABill) : Prop := I64 x.id ∧ I64 x.tender ∧ I64 x.debt ∧ I64 x.fee ∧ I64 x.price ∧ I64 x.change ∧ I64 x.units
structure AEvent where
  kind : Int
  meter : Int
  month : Int
  bill : ABill
  tag : Int
  debt : ADebt
deriving DecidableEq, Inhabited
def AEvent.cells (x : AEvent) : List Value := [I x.kind, I x.meter, I x.month, I x.bill.id, I x.bill.tender, I x.bill.debt, I x.bill.fee, I x.bill.price, I x.bill.change, I x.bill.units, I x.tag, I x.debt.owed, I x.debt.bp]
def AEvent.wf (x : AEvent) : Prop := I64 x.kind ∧ I64 x.meter ∧ I64 x.month ∧ I64 x.bill.id ∧ I64 x.bill.tender ∧ I64 x.bill.debt ∧ I64 x.bill.fee ∧ I64 x.bill.price ∧ I64 x.bill.change ∧ I64 x.bill.units ∧ I64 x.tag ∧ I64 x.debt.owed ∧ I64 x.debt.bp
structure AAct where
  kind : Int
  meter : Int
  a : Int
  b : Int
  c : Int
  text : ByteArray
  cut : Int
deriving DecidableEq, Inhabited
def AAct.cells (x : AAct) : List Value := [I x.kind, I x.meter, I x.a, I x.b, I x.c, .string x.text, I x.cut]
def AAct.wf (x : AAct) : Prop := I64 x.kind ∧ I64 x.meter ∧ I64 x.a ∧ I64 x.b ∧ I64 x.c ∧ Str x.text ∧ I64 x.cut
structure ATold where
  code : Int
  added : Int
  text : ByteArray
  bill : ABill
  dead : Bool
deriving DecidableEq, Inhabited
def ATold.cells (x : ATold) : List Value := [I x.code, I x.added, .string x.text, I x.bill.id, I x.bill.tender, I x.bill.debt, I x.bill.fee, I x.bill.price, I x.bill.change, I x.bill.units, .bool x.dead]
def ATold.wf (x : ATold) : Prop := I64 x.code ∧ I64 x.added ∧ Str x.text ∧ I64 x.bill.id ∧ I64 x.bill.tender ∧ I64 x.bill.debt ∧ I64 x.bill.fee ∧ I64 x.bill.price ∧ I64 x.bill.change ∧ I64 x.bill.units ∧ True
structure AWindow where
  high : Int
  bits : Int
deriving DecidableEq, Inhabited
def AWindow.cells (x : AWindow) : List Value := [I x.high, U64 x.bits]
def AWindow.wf (x : AWindow) : Prop := I64 x.high ∧ W64 x.bits
structure AMeter where
  me : Int
  rev : Int
  credit : Int
  window : AWindow
  bad : Int
  lock : Int
deriving DecidableEq, Inhabited
def AMeter.cells (x : AMeter) : List Value := [I x.me, I x.rev, I x.credit, I x.window.high, U64 x.window.bits, I x.bad, I x.lock]
def AMeter.wf (x : AMeter) : Prop := I64 x.me ∧ I64 x.rev ∧ I64 x.credit ∧ I64 x.window.high ∧ W64 x.window.bits ∧ I64 x.bad ∧ I64 x.lock
structure AToken where
  class_ : Int
  id : Int
  amount : Int
  tag : Int
deriving DecidableEq, Inhabited
def AToken.cells (x : AToken) : List Value := [I x.class_, I x.id, I x.amount, I x.tag]
def AToken.wf (x : AToken) : Prop := I64 x.class_ ∧ I64 x.id ∧ I64 x.amount ∧ I64 x.tag
structure ADate where
  year : Int
  month : Int
  day : Int
deriving DecidableEq, Inhabited
def ADate.cells (x : ADate) : List Value := [I x.year, I x.month, I x.day]
def ADate.wf (x : ADate) : Prop := I64 x.year ∧ I64 x.month ∧ I64 x.day
structure APad where
  digits : ByteArray
  bad : Bool
deriving DecidableEq, Inhabited
def APad.cells (x : APad) : List Value := [.string x.digits, .bool x.bad]
def APad.wf (x : APad) : Prop := Str x.digits ∧ True
structure AReport where
  taken : Int
  open_ : Int
  lost : Int
  strange : Int
  u0 : Int
  u1 : Int
  u2 : Int
deriving DecidableEq, Inhabited
def AReport.cells (x : AReport) : List Value := [I x.taken, I x.open_, I x.lost, I x.strange, I x.u0, I x.u1, I x.u2]
def AReport.wf (x : AReport) : Prop := I64 x.taken ∧ I64 x.open_ ∧ I64 x.lost ∧ I64 x.strange ∧ I64 x.u0 ∧ I64 x.u1 ∧ I64 x.u2
structure AShown where
  me : Int
  credit : Int
  high : Int
deriving DecidableEq, Inhabited
def AShown.cells (x : AShown) : List Value := [I x.me, I x.credit, I x.high]
def AShown.wf (x : AShown) : Prop := I64 x.me ∧ I64 x.credit ∧ I64 x.high
structure AReceipt where
  meter : Int
  bill : ABill
  token : ByteArray
deriving DecidableEq, Inhabited
def AReceipt.cells (x : AReceipt) : List Value := [I x.meter, I x.bill.id, I x.bill.tender, I x.bill.debt, I x.bill.fee, I x.bill.price, I x.bill.change, I x.bill.units, .string x.token]
def AReceipt.wf (x : AReceipt) : Prop := I64 x.meter ∧ I64 x.bill.id ∧ I64 x.bill.tender ∧ I64 x.bill.debt ∧ I64 x.bill.fee ∧ I64 x.bill.price ∧ I64 x.bill.change ∧ I64 x.bill.units ∧ Str x.token
theorem getD_flat {α : Type} [Inhabited α] (f : α → List Value) (sz : Nat) (hf : ∀ x, (f x).length = sz) : ∀ (xs : List α) (k j : Nat), k < xs.length → j < sz → (xs.flatMap f).getD (k * sz + j) undef = (f (xs.getD k default)).getD j undef
  | [], k, j, hk, _ => by simp at hk
  | x :: xs, 0, j, _, hj => by
    have := hf x
    simp [List.getD_eq_getElem?_getD, List.getElem?_append_left (show j < (f x).length by omega)]
  | x :: xs, k + 1, j, hk, hj => by
    have h := hf x
    have ih := getD_flat f sz hf xs k j (by simpa using hk) hj
    rw [List.flatMap_cons, List.getD_eq_getElem?_getD, List.getElem?_append_right (by rw [h, Nat.succ_mul]; omega), h]
    rw [show (k + 1) * sz + j - sz = k * sz + j by rw [Nat.succ_mul]; omega]
    simpa [List.getD_eq_getElem?_getD] using ih

theorem length_flat {α : Type} (f : α → List Value) (sz : Nat) (hf : ∀ x, (f x).length = sz) (xs : List α) : (xs.flatMap f).length = xs.length * sz := by
  induction xs with
  | nil => simp
  | cons x xs ih => rw [List.flatMap_cons, List.length_append, ih, hf, List.length_cons, Nat.succ_mul]; omega

end Go.Proofs.YtfhmcahfjoliiaaDoor
