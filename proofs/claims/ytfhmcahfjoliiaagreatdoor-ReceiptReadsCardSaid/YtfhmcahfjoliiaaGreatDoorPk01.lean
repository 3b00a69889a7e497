/- a slice that reads as a list of cells · the plain types of package api as Lean structures, and the cells that hold them (made by wip/bin/gen_api.py) -/
import Derived.Test.YtfhmcahfjoliiaaGreatDoorPk00
import Derived.Laws.AppendOwnNone
set_option maxRecDepth 20000
set_option maxHeartbeats 8000000
set_option linter.unusedSimpArgs false
set_option linter.unusedVariables false
namespace Go.Proofs.YtfhmcahfjoliiaaGreatDoor
section
open Go.RowKit

/-- v is a slice of n elements of sz cells each, which are cs -/
def Sl (w : World) (v : Value) (sz n : Nat) (cs : List Value) : Prop :=
  ∃ a cap,v=.slice a n cap∧(n≤281474976710656∧n≤cap)∧cs.length=n*sz∧(a=none→n=0∧cap=0) ∧
    (n=0∨∃ b off,a=some ⟨b,off,none⟩∧b < w.heap.size∧∀ j,j < cs.length→w.cell? ⟨b,off+j,none⟩=some (cs.getD j undef))

theorem Sl.below {w w':World} {v:Value} {sz n:Nat} {cs:List Value} (h:Sl w v sz n cs) (hb:Below w.heap.size w w'):Sl w' v sz n cs:=by
  obtain ⟨a,cap,hv,hn,hl,h0,h⟩:=h;refine ⟨a,cap,hv,hn,hl,h0,h.imp id ?_⟩;rintro ⟨b,off,ha,hlt,hc⟩;exact ⟨b,off,ha,Nat.lt_of_lt_of_le hlt hb.size,fun j hj=>(hb.cell (p:=⟨b,off+j,none⟩) hlt).trans (hc j hj)⟩

theorem Sl.nil (w:World) (sz:Nat):Sl w (.slice none 0 0) sz 0 []:=⟨none,0,rfl,⟨by omega,by omega⟩,by simp,fun _=>⟨rfl,rfl⟩,.inl rfl⟩

theorem cell_of_cells {w:World} {g:Nat} {cur:Array Value} {e:TypeId} {fz:Nat×Nat} (h:w.heap[g]?=some (.cells cur e fz)) (j:Nat):w.cell? ⟨g,j,none⟩=cur[j]?:=cell_of_row w g j cur e fz h

theorem Sl.of_owns {w:World} {base e sz n:Nat} {v:Value} {cs:List Value} (h:w.ownsRow base e sz v n cs) (hn:n≤281474976710656):Sl w v sz n cs:=by
  obtain ⟨hl,h⟩:=h;rcases h with ⟨rfl,rfl⟩ | ⟨g,cap,cur,rfl,hb,hg,hc,hm,hs,ht⟩
  · exact ⟨none,0,rfl,⟨by omega,by omega⟩,hl,fun _=>⟨rfl,rfl⟩,.inl rfl⟩
  · refine ⟨_,cap,rfl,⟨hn,hc⟩,hl,(fun h=>by cases h),.inr ⟨g,0,rfl,(Array.getElem?_eq_some_iff.1 hg).1,fun j hj=>?_⟩⟩
    rw [Nat.zero_add,cell_of_cells hg];rw [← ht,List.getD_eq_getElem?_getD,List.getElem?_take,if_pos (by omega),Array.getElem?_toList];rw [Array.getElem?_eq_getElem (by rw [hs];have:=Nat.mul_le_mul_right sz hc;omega)]
    rfl

theorem Sl.news {w:World} {ad:Addr} {sz n cap:Nat} {cs:List Value} (h:Sl w (.slice (some ad) n cap) sz n cs):∀ j u,cs[j]?=some u→w.cell? (ad.add j)=some u:=by
  obtain ⟨a,cap',hv,hn,hl,h0,h⟩:=h;simp only [Value.slice.injEq] at hv;obtain ⟨rfl,_,rfl⟩:=hv;intro j u hu;have hj:=(List.getElem?_eq_some_iff.1 hu).1;rcases h with rfl | ⟨b,off,he,hlt,hc⟩
  · simp at hl;subst hl;simp at hj
  · obtain rfl:=Option.some.inj he
    have:=hc j hj;rw [List.getD_eq_getElem?_getD,hu] at this;unfold Addr.add
    split
    · subst_vars;simpa using this
    · exact this

/-- each value is one cell -/
def oneCells (cs:List Value):Prop:=∀ u∈cs,u.oneCell'=true
theorem oneCells_map {α:Type} {f:α→Value} (h:∀ x,(f x).oneCell'=true) (xs:List α):oneCells (xs.map f):=by
  intro u hu;simp only [List.mem_map] at hu;obtain ⟨x,_,rfl⟩:=hu;exact h x
/-- the call returns a slice that reads as cs, in new memory -/
def GrewSl (sz n:Nat) (cs:List Value) (w:World) (e:Ending) (w':World):Prop:=∃ v,e=.returned v∧Sl w' v sz n cs∧Below w.heap.size w w'

/-- the call returns a slice of its own, in new memory -/
def GrewOw (t sz n:Nat) (cs:List Value) (w:World) (e:Ending) (w':World):Prop:=∃ v,e=.returned v∧w'.ownsRow w.heap.size t sz v n cs∧Below w.heap.size w w'
/-- the call returns a slice that reads as cs, in new memory, and a number -/
def GrewSl2 (sz n:Nat) (cs:List Value) (k:Int) (w:World) (e:Ending) (w':World):Prop:=∃ v,e=.returned (T2 v (I k))∧Sl w' v sz n cs∧Below w.heap.size w w'
theorem grown_below {w0 w w':World} {v:Value} {base e sz n:Nat} {cs:List Value} (h:Below w0.heap.size w0 w) (ho:w.ownsRow base e sz v n cs) (hb:w0.heap.size≤base) (hg:w.grownBy w' v.ownBlock):Below w0.heap.size w0 w':=
  h.grown hg h.size (fun k hk=>Nat.le_trans hb (ho.lt k hk).1)
theorem cell_one (w:World) (x:Value) (e:TypeId):(w.alloc (.cells #[x] e)).cell? ⟨w.heap.size,0,none⟩=some x:=by
  rw [cell_of_cells (heap_alloc_new w _)];rfl
theorem news_lit (w:World) (cs:List Value) (e:TypeId):∀ (j:Nat) (u:Value),cs[j]?=some u→(w.alloc (.cells cs.toArray e)).cell? ((⟨w.heap.size,0,none⟩:Addr).add j)=some u:=by
  intro j u hj;have h:(w.alloc (.cells cs.toArray e)).cell? ⟨w.heap.size,j,none⟩=some u:=by rw [cell_of_cells (heap_alloc_new w _)];simpa using hj
  unfold Addr.add
  split
  · subst_vars;exact h
  · simpa using h
theorem oneCells_lit {cs:List Value} (h:cs.all Value.oneCell'=true):∀ u∈cs,u.oneCell'=true:=by simpa using h
theorem made_one (x:Value) (n:Nat):(madeCells #[x] (n*1)).toList=List.replicate n x:=by
  apply List.ext_getElem
  · simp [madeCells]
  · intro i h1 h2
    simp [madeCells,Nat.mod_one]

theorem made_int {w:World} {b e n:Nat} {v:Value} {k:IntKind} {z:Int} (h:w.ownsRow b e 1 v n (madeCells (Value.int k z).cells (n*1)).toList):w.ownsRow b e 1 v n (List.replicate n (.int k z)):=by
  rw [← made_one];exact h

/-- its length, for a loop's measure -/
def lenOf:Value→Nat | .slice _ n _=>n | _=>0
/-- a slice literal of plain cells -/
theorem owns_lit (w:World) (cs:List Value) (e sz n:Nat) (hl:cs.length=n*sz) (hn:n≤maxLen):(w.alloc (.cells cs.toArray e)).ownsRow w.heap.size e sz (.slice (some ⟨w.heap.size,0,none⟩) n n) n cs:=
  ⟨hl,.inr ⟨w.heap.size,n,cs.toArray,rfl,Nat.le_refl _,heap_alloc_new w _,Nat.le_refl _,hn,by simpa using hl,by rw [← hl];simp⟩⟩

/-- numbers as cells -/
abbrev U32 (n:Int):Value:=.int .u32 n

end
section
open Go.RowKit

instance:Inhabited ByteArray:=⟨ByteArray.empty⟩
/-- a uint64 -/
abbrev U64 (n:Int):Value:=.int .u64 n

/-- an int, a uint32, a uint64, within its kind -/
def I64 (n:Int):Prop:=-9223372036854775808≤n∧n≤9223372036854775807
def W32 (n:Int):Prop:=0≤n∧n≤4294967295
def W64 (n:Int):Prop:=0≤n∧n≤18446744073709551615
def Str (s:ByteArray):Prop:=s.size≤140737488351232

structure AWrite where
  at_:Int
  word:Int
deriving DecidableEq,Inhabited
def AWrite.cells (x:AWrite):List Value:=[I x.at_,U32 x.word]
def AWrite.wf (x:AWrite):Prop:=I64 x.at_∧W32 x.word
structure AStep where
  upto:Int
  price:Int
deriving DecidableEq,Inhabited
def AStep.cells (x:AStep):List Value:=[I x.upto,I x.price]
def AStep.wf (x:AStep):Prop:=I64 x.upto∧I64 x.price
structure ALine where
  units:Int
  price:Int
  cost:Int
deriving DecidableEq,Inhabited
def ALine.cells (x:ALine):List Value:=[I x.units,I x.price,I x.cost]
def ALine.wf (x:ALine):Prop:=I64 x.units∧I64 x.price∧I64 x.cost
structure ADebt where
  owed:Int
  bp:Int
deriving DecidableEq,Inhabited
def ADebt.cells (x:ADebt):List Value:=[I x.owed,I x.bp]
def ADebt.wf (x:ADebt):Prop:=I64 x.owed∧I64 x.bp
structure APair where
  meter:Int
  rev:Int
  body:Int
  tag:Int
deriving DecidableEq,Inhabited
def APair.cells (x:APair):List Value:=[I x.meter,I x.rev,I x.body,I x.tag]
def APair.wf (x:APair):Prop:=I64 x.meter∧I64 x.rev∧I64 x.body∧I64 x.tag
structure AEntry where
  text:ByteArray
  code:Int
deriving DecidableEq,Inhabited
def AEntry.cells (x:AEntry):List Value:=[.string x.text,I x.code]
def AEntry.wf (x:AEntry):Prop:=Str x.text∧I64 x.code
structure ASold where
  id:Int
  class_:Int
  amount:Int
  tag:Int
  rev:Int
deriving DecidableEq,Inhabited
def ASold.cells (x:ASold):List Value:=[I x.id,I x.class_,I x.amount,I x.tag,I x.rev]
def ASold.wf (x:ASold):Prop:=I64 x.id∧I64 x.class_∧I64 x.amount∧I64 x.tag∧I64 x.rev
structure ABill where
  id:Int
  tender:Int
  debt:Int
  fee:Int
  price:Int
  change:Int
  units:Int
deriving DecidableEq,Inhabited
def ABill.cells (x:ABill):List Value:=[I x.id,I x.tender,I x.debt,I x.fee,I x.price,I x.change,I x.units]
def ABill.wf (x:ABill):Prop:=I64 x.id∧I64 x.tender∧I64 x.debt∧I64 x.fee∧I64 x.price∧I64 x.change∧I64 x.units
structure AEvent where
  kind:Int
  meter:Int
  month:Int
  bill:ABill
  tag:Int
  debt:ADebt
deriving DecidableEq,Inhabited
def AEvent.cells (x:AEvent):List Value:=[I x.kind,I x.meter,I x.month,I x.bill.id,I x.bill.tender,I x.bill.debt,I x.bill.fee,I x.bill.price,I x.bill.change,I x.bill.units,I x.tag,I x.debt.owed,I x.debt.bp]
def AEvent.wf (x:AEvent):Prop:=I64 x.kind∧I64 x.meter∧I64 x.month∧I64 x.bill.id∧I64 x.bill.tender∧I64 x.bill.debt∧I64 x.bill.fee∧I64 x.bill.price∧I64 x.bill.change∧I64 x.bill.units∧I64 x.tag∧I64 x.debt.owed∧I64 x.debt.bp
structure AAct where
  kind:Int
  meter:Int
  a:Int
  b:Int
  c:Int
  text:ByteArray
  cut:Int
deriving DecidableEq,Inhabited
def AAct.cells (x:AAct):List Value:=[I x.kind,I x.meter,I x.a,I x.b,I x.c,.string x.text,I x.cut]
def AAct.wf (x:AAct):Prop:=I64 x.kind∧I64 x.meter∧I64 x.a∧I64 x.b∧I64 x.c∧Str x.text∧I64 x.cut
structure ATold where
  code:Int
  added:Int
  text:ByteArray
  bill:ABill
  dead:Bool
deriving DecidableEq,Inhabited
def ATold.cells (x:ATold):List Value:=[I x.code,I x.added,.string x.text,I x.bill.id,I x.bill.tender,I x.bill.debt,I x.bill.fee,I x.bill.price,I x.bill.change,I x.bill.units,.bool x.dead]
def ATold.wf (x:ATold):Prop:=I64 x.code∧I64 x.added∧Str x.text∧I64 x.bill.id∧I64 x.bill.tender∧I64 x.bill.debt∧I64 x.bill.fee∧I64 x.bill.price∧I64 x.bill.change∧I64 x.bill.units∧True
structure AWindow where
  high:Int
  bits:Int
deriving DecidableEq,Inhabited
def AWindow.cells (x:AWindow):List Value:=[I x.high,U64 x.bits]
def AWindow.wf (x:AWindow):Prop:=I64 x.high∧W64 x.bits
structure AMeter where
  me:Int
  rev:Int
  credit:Int
  window:AWindow
  bad:Int
  lock:Int
deriving DecidableEq,Inhabited
def AMeter.cells (x:AMeter):List Value:=[I x.me,I x.rev,I x.credit,I x.window.high,U64 x.window.bits,I x.bad,I x.lock]
def AMeter.wf (x:AMeter):Prop:=I64 x.me∧I64 x.rev∧I64 x.credit∧I64 x.window.high∧W64 x.window.bits∧I64 x.bad∧I64 x.lock
structure AToken where
  class_:Int
  id:Int
  amount:Int
  tag:Int
deriving DecidableEq,Inhabited
def AToken.cells (x:AToken):List Value:=[I x.class_,I x.id,I x.amount,I x.tag]
def AToken.wf (x:AToken):Prop:=I64 x.class_∧I64 x.id∧I64 x.amount∧I64 x.tag
structure ADate where
  year:Int
  month:Int
  day:Int
deriving DecidableEq,Inhabited
def ADate.cells (x:ADate):List Value:=[I x.year,I x.month,I x.day]
def ADate.wf (x:ADate):Prop:=I64 x.year∧I64 x.month∧I64 x.day
structure APad where
  digits:ByteArray
  bad:Bool
deriving DecidableEq,Inhabited
def APad.cells (x:APad):List Value:=[.string x.digits,.bool x.bad]
def APad.wf (x:APad):Prop:=Str x.digits∧True
structure AReport where
  taken:Int
  open_:Int
  lost:Int
  strange:Int
  u0:Int
  u1:Int
  u2:Int
deriving DecidableEq,Inhabited
def AReport.cells (x:AReport):List Value:=[I x.taken,I x.open_,I x.lost,I x.strange,I x.u0,I x.u1,I x.u2]
def AReport.wf (x:AReport):Prop:=I64 x.taken∧I64 x.open_∧I64 x.lost∧I64 x.strange∧I64 x.u0∧I64 x.u1∧I64 x.u2
structure AShown where
  me:Int
  credit:Int
  high:Int
deriving DecidableEq,Inhabited
def AShown.cells (x:AShown):List Value:=[I x.me,I x.credit,I x.high]
def AShown.wf (x:AShown):Prop:=I64 x.me∧I64 x.credit∧I64 x.high
structure AReceipt where
  meter:Int
  bill:ABill
  token:ByteArray
deriving DecidableEq,Inhabited
def AReceipt.cells (x:AReceipt):List Value:=[I x.meter,I x.bill.id,I x.bill.tender,I x.bill.debt,I x.bill.fee,I x.bill.price,I x.bill.change,I x.bill.units,.string x.token]
def AReceipt.wf (x:AReceipt):Prop:=I64 x.meter∧I64 x.bill.id∧I64 x.bill.tender∧I64 x.bill.debt∧I64 x.bill.fee∧I64 x.bill.price∧I64 x.bill.change∧I64 x.bill.units∧Str x.token
theorem getD_flat {α:Type} [Inhabited α] (f:α→List Value) (sz:Nat) (hf:∀ x,(f x).length=sz):∀ (xs:List α) (k j:Nat),k < xs.length→j < sz→(xs.flatMap f).getD (k*sz+j) undef=(f (xs.getD k default)).getD j undef
  | [],k,j,hk,_=>by simp at hk
  | x::xs,0,j,_,hj=>by
    have:=hf x
    simp [List.getD_eq_getElem?_getD,List.getElem?_append_left (show j < (f x).length by omega)]
  | x::xs,k+1,j,hk,hj=>by
    have h:=hf x
    have ih:=getD_flat f sz hf xs k j (by simpa using hk) hj
    rw [List.flatMap_cons,List.getD_eq_getElem?_getD,List.getElem?_append_right (by rw [h,Nat.succ_mul];omega),h]
    rw [show (k+1)*sz+j-sz=k*sz+j by rw [Nat.succ_mul];omega]
    simpa [List.getD_eq_getElem?_getD] using ih

theorem length_flat {α:Type} (f:α→List Value) (sz:Nat) (hf:∀ x,(f x).length=sz) (xs:List α):(xs.flatMap f).length=xs.length*sz:=by
  induction xs with
  | nil=>simp
  | cons x xs ih=>rw [List.flatMap_cons,List.length_append,ih,hf,List.length_cons,Nat.succ_mul];omega

end
end Go.Proofs.YtfhmcahfjoliiaaGreatDoor
