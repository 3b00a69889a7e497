/- the plain types of package api as Lean structures, and the cells that hold them (made by wip/bin/gen_api.py) · An argument of any of the law's types, opened at once: 'shape' reckons, off the program's own tables, which cells a type has; 'plains_of_trod': what can be read as data has just these. · what an argument's cells say, type by type (made by wip/bin/gen_api.py) · arguments that hold a list: accounts, terms, oracles · a region that draws its order and holds recover: every order that can be drawn · 'In' and its twins: is a number from low to high? -/
import Derived.Test.YtdjgcenjonegjaaGreatPk00
import Derived.ProofKit
import Derived.OpenShut
import Derived.SizedLaws
import Derived.Deep.Slices
import Derived.Recover
import Derived.Orders
namespace Go.Proofs.YtdjgcenjonegjaaGreat
set_option linter.unusedSimpArgs false
set_option linter.unusedVariables false
open Go.RowKit
set_option maxRecDepth 20000

instance:Inhabited ByteArray:=⟨ByteArray.empty⟩
/-- a uint64 -/
abbrev U64 (n:Int):Value:=.int .u64 n

/-- an int, a uint32, a uint64, within its kind -/
def I64 (n:Int):Prop:=-9223372036854775808≤n∧n≤9223372036854775807
def W32 (n:Int):Prop:=0≤n∧n≤4294967295
def W64 (n:Int):Prop:=0≤n∧n≤18446744073709551615
def Str (s:ByteArray):Prop:=s.size≤140737488351232

structure AWrite where
  at_:Int
  word:Int
deriving DecidableEq,Inhabited
def AWrite.cells (x:AWrite):List Value:=[I x.at_,U32 x.word]
def AWrite.wf (x:AWrite):Prop:=I64 x.at_∧W32 x.word
theorem AWrite.cells_len (x:AWrite):x.cells.length=2:=rfl

structure AStep where
  upto:Int
  price:Int
deriving DecidableEq,Inhabited
def AStep.cells (x:AStep):List Value:=[I x.upto,I x.price]
def AStep.wf (x:AStep):Prop:=I64 x.upto∧I64 x.price
theorem AStep.cells_len (x:AStep):x.cells.length=2:=rfl

structure ALine where
  units:Int
  price:Int
  cost:Int
deriving DecidableEq,Inhabited
def ALine.cells (x:ALine):List Value:=[I x.units,I x.price,I x.cost]
def ALine.wf (x:ALine):Prop:=I64 x.units∧I64 x.price∧I64 x.cost
structure ADebt where
  owed:Int
  bp:Int
deriving DecidableEq,Inhabited
def ADebt.cells (x:ADebt):List Value:=[I x.owed,I x.bp]
def ADebt.wf (x:ADebt):Prop:=I64 x.owed∧I64 x.bp
theorem ADebt.cells_len (x:ADebt):x.cells.length=2:=rfl

structure APair where
  meter:Int
  rev:Int
  body:Int
  tag:Int
deriving DecidableEq,Inhabited
def APair.cells (x:APair):List Value:=[I x.meter,I x.rev,I x.body,I x.tag]
def APair.wf (x:APair):Prop:=I64 x.meter∧I64 x.rev∧I64 x.body∧I64 x.tag
theorem APair.cells_len (x:APair):x.cells.length=4:=rfl

structure AEntry where
  text:ByteArray
  code:Int
deriving DecidableEq,Inhabited
def AEntry.cells (x:AEntry):List Value:=[.string x.text,I x.code]
def AEntry.wf (x:AEntry):Prop:=Str x.text∧I64 x.code
structure ASold where
  id:Int
  class_:Int
  amount:Int
  tag:Int
  rev:Int
deriving DecidableEq,Inhabited
def ASold.cells (x:ASold):List Value:=[I x.id,I x.class_,I x.amount,I x.tag,I x.rev]
def ASold.wf (x:ASold):Prop:=I64 x.id∧I64 x.class_∧I64 x.amount∧I64 x.tag∧I64 x.rev
structure ABill where
  id:Int
  tender:Int
  debt:Int
  fee:Int
  price:Int
  change:Int
  units:Int
deriving DecidableEq,Inhabited
def ABill.cells (x:ABill):List Value:=[I x.id,I x.tender,I x.debt,I x.fee,I x.price,I x.change,I x.units]
def ABill.wf (x:ABill):Prop:=I64 x.id∧I64 x.tender∧I64 x.debt∧I64 x.fee∧I64 x.price∧I64 x.change∧I64 x.units
structure AEvent where
  kind:Int
  meter:Int
  month:Int
  bill:ABill
  tag:Int
  debt:ADebt
deriving DecidableEq,Inhabited
def AEvent.cells (x:AEvent):List Value:=[I x.kind,I x.meter,I x.month,I x.bill.id,I x.bill.tender,I x.bill.debt,I x.bill.fee,I x.bill.price,I x.bill.change,I x.bill.units,I x.tag,I x.debt.owed,I x.debt.bp]
def AEvent.wf (x:AEvent):Prop:=I64 x.kind∧I64 x.meter∧I64 x.month∧I64 x.bill.id∧I64 x.bill.tender∧I64 x.bill.debt∧I64 x.bill.fee∧I64 x.bill.price∧I64 x.bill.change∧I64 x.bill.units∧I64 x.tag∧I64 x.debt.owed∧I64 x.debt.bp
theorem AEvent.cells_len (x:AEvent):x.cells.length=13:=rfl

structure AAct where
  kind:Int
  meter:Int
  a:Int
  b:Int
  c:Int
  text:ByteArray
  cut:Int
deriving DecidableEq,Inhabited
def AAct.cells (x:AAct):List Value:=[I x.kind,I x.meter,I x.a,I x.b,I x.c,.string x.text,I x.cut]
def AAct.wf (x:AAct):Prop:=I64 x.kind∧I64 x.meter∧I64 x.a∧I64 x.b∧I64 x.c∧Str x.text∧I64 x.cut
structure ATold where
  code:Int
  added:Int
  text:ByteArray
  bill:ABill
  dead:Bool
deriving DecidableEq,Inhabited
def ATold.cells (x:ATold):List Value:=[I x.code,I x.added,.string x.text,I x.bill.id,I x.bill.tender,I x.bill.debt,I x.bill.fee,I x.bill.price,I x.bill.change,I x.bill.units,.bool x.dead]
def ATold.wf (x:ATold):Prop:=I64 x.code∧I64 x.added∧Str x.text∧I64 x.bill.id∧I64 x.bill.tender∧I64 x.bill.debt∧I64 x.bill.fee∧I64 x.bill.price∧I64 x.bill.change∧I64 x.bill.units∧True
structure AWindow where
  high:Int
  bits:Int
deriving DecidableEq,Inhabited
def AWindow.cells (x:AWindow):List Value:=[I x.high,U64 x.bits]
def AWindow.wf (x:AWindow):Prop:=I64 x.high∧W64 x.bits
structure AMeter where
  me:Int
  rev:Int
  credit:Int
  window:AWindow
  bad:Int
  lock:Int
deriving DecidableEq,Inhabited
def AMeter.cells (x:AMeter):List Value:=[I x.me,I x.rev,I x.credit,I x.window.high,U64 x.window.bits,I x.bad,I x.lock]
def AMeter.wf (x:AMeter):Prop:=I64 x.me∧I64 x.rev∧I64 x.credit∧I64 x.window.high∧W64 x.window.bits∧I64 x.bad∧I64 x.lock
structure AToken where
  class_:Int
  id:Int
  amount:Int
  tag:Int
deriving DecidableEq,Inhabited
def AToken.cells (x:AToken):List Value:=[I x.class_,I x.id,I x.amount,I x.tag]
def AToken.wf (x:AToken):Prop:=I64 x.class_∧I64 x.id∧I64 x.amount∧I64 x.tag
structure ADate where
  year:Int
  month:Int
  day:Int
deriving DecidableEq,Inhabited
def ADate.cells (x:ADate):List Value:=[I x.year,I x.month,I x.day]
def ADate.wf (x:ADate):Prop:=I64 x.year∧I64 x.month∧I64 x.day
structure APad where
  digits:ByteArray
  bad:Bool
deriving DecidableEq,Inhabited
def APad.cells (x:APad):List Value:=[.string x.digits,.bool x.bad]
def APad.wf (x:APad):Prop:=Str x.digits∧True
structure AReport where
  taken:Int
  open_:Int
  lost:Int
  strange:Int
  u0:Int
  u1:Int
  u2:Int
deriving DecidableEq,Inhabited
def AReport.cells (x:AReport):List Value:=[I x.taken,I x.open_,I x.lost,I x.strange,I x.u0,I x.u1,I x.u2]
def AReport.wf (x:AReport):Prop:=I64 x.taken∧I64 x.open_∧I64 x.lost∧I64 x.strange∧I64 x.u0∧I64 x.u1∧I64 x.u2
structure AShown where
  me:Int
  credit:Int
  high:Int
deriving DecidableEq,Inhabited
def AShown.cells (x:AShown):List Value:=[I x.me,I x.credit,I x.high]
def AShown.wf (x:AShown):Prop:=I64 x.me∧I64 x.credit∧I64 x.high
structure AReceipt where
  meter:Int
  bill:ABill
  token:ByteArray
deriving DecidableEq,Inhabited
def AReceipt.cells (x:AReceipt):List Value:=[I x.meter,I x.bill.id,I x.bill.tender,I x.bill.debt,I x.bill.fee,I x.bill.price,I x.bill.change,I x.bill.units,.string x.token]
def AReceipt.wf (x:AReceipt):Prop:=I64 x.meter∧I64 x.bill.id∧I64 x.bill.tender∧I64 x.bill.debt∧I64 x.bill.fee∧I64 x.bill.price∧I64 x.bill.change∧I64 x.bill.units∧Str x.token
theorem getD_flat {α:Type} [Inhabited α] (f:α→List Value) (sz:Nat) (hf:∀ x,(f x).length=sz):∀ (xs:List α) (k j:Nat),k < xs.length→j < sz→(xs.flatMap f).getD (k*sz+j) undef=(f (xs.getD k default)).getD j undef
  | [],k,j,hk,_=>by simp at hk
  | x::xs,0,j,_,hj=>by
    have:=hf x
    simp [List.getD_eq_getElem?_getD,List.getElem?_append_left (show j < (f x).length by omega)]
  | x::xs,k+1,j,hk,hj=>by
    have h:=hf x
    have ih:=getD_flat f sz hf xs k j (by simpa using hk) hj
    rw [List.flatMap_cons,List.getD_eq_getElem?_getD,List.getElem?_append_right (by rw [h,Nat.succ_mul];omega),h]
    rw [show (k+1)*sz+j-sz=k*sz+j by rw [Nat.succ_mul];omega]
    simpa [List.getD_eq_getElem?_getD] using ih

theorem getD_map' {f:Int→Value} (xs:List Int) (k:Nat) (h:k < xs.length):(xs.map f).getD k undef=f (xs.getD k 0):=by
  simp [List.getD_eq_getElem?_getD,h]

theorem length_flat {α:Type} (f:α→List Value) (sz:Nat) (hf:∀ x,(f x).length=sz) (xs:List α):(xs.flatMap f).length=xs.length*sz:=by
  induction xs with
  | nil=>simp
  | cons x xs ih=>rw [List.flatMap_cons,List.length_append,ih,hf,List.length_cons,Nat.succ_mul];omega

theorem pos_lt {k n sz j:Nat} (hk:k < n) (hj:j < sz):k*sz+j < n*sz:=by
  have:(k+1)*sz≤n*sz:=Nat.mul_le_mul_right _ hk;rw [Nat.succ_mul] at this;omega

theorem take_succ_of {α:Type} [Inhabited α] {xs ys:List α} {k:Nat} (hx:k < xs.length) (hy:k < ys.length) (h:xs.take k=ys.take k) (he:xs.getD k default=ys.getD k default):xs.take (k+1)=ys.take (k+1):=by
  rw [List.take_add_one,List.take_add_one,h];simp only [List.getD_eq_getElem?_getD,List.getElem?_eq_getElem hx,List.getElem?_eq_getElem hy,Option.getD_some] at he ⊢;rw [he]
theorem ne_of_getD' {α:Type} [Inhabited α] {xs ys:List α} {k:Nat} (h:xs.getD k default≠ys.getD k default):xs≠ys:=fun e=>h (by rw [e])
end Go.Proofs.YtdjgcenjonegjaaGreat
namespace Go.Proofs.YtdjgcenjonegjaaGreat
set_option linter.unusedSimpArgs false
set_option linter.unusedVariables false
open Go.ChangeShapes Go.WideShapes Go.ChangeAt Go.RowKit Go.Deep
set_option maxRecDepth 20000

inductive Sh where
  | int (k:IntKind)
  | str
  | bool
  | slice (bytes:Nat) (ks:List Sh)

mutual
/-- a cell of a shape -/
def Plain (w:World):Sh→Value→Prop
  | .int k,v=>∃ n,v=.int k n∧(Lit.int k n).wf=true
  | .str,v=>∃ s:ByteArray,v=.string s∧s.size≤reachBytes
  | .bool,v=>∃ b,v=.bool b
  | .slice by' ks,v=>∃ n cs,Sl w v ks.length n cs∧n*by'≤reachBytes∧∀ i,i < n→Plains w ks ((cs.drop (i*ks.length)).take ks.length)
/-- cells of shapes -/
def Plains (w:World):List Sh→List Value→Prop
  | [],cs=>cs=[]
  | s::ss,cs=>∃ v r,cs=v::r∧Plain w s v∧Plains w ss r
end

theorem Plains.append {w:World}:∀ {ks:List Sh} {cs:List Value} {ks':List Sh} {cs':List Value},Plains w ks cs→Plains w ks' cs'→Plains w (ks++ks') (cs++cs')
  | [],_,_,_,h,h'=>by simp only [Plains] at h;subst h;exact h'
  | _::_,_,_,_,h,h'=>by
    simp only [Plains] at h
    obtain ⟨v,r,rfl,h0,h⟩:=h
    simp only [List.cons_append,Plains]
    exact ⟨v,_,rfl,h0,Plains.append h h'⟩

/-- the shape of a struct's fields, laid one behind the other -/
def fieldsShape (g:TypeId→Option (List Sh)) (P:Program):List Field→Nat→Option (List Sh)
  | [],_=>some []
  | fd::r,off=>if fd.offset=off then (g fd.type).bind fun ks=>if ks.length=P.cellsOf fd.type then (fieldsShape g P r (off+ks.length)).map (ks++·) else none else none

def shape (P : Program) : Nat → TypeId → Option (List Sh)
  | 0,_=>none
  | f+1,t=>match P.underlying t with
    | some .bool=>some [.bool]
    | some (.int k)=>some [.int k]
    | some .string=>some [.str]
    | some (.slice e)=>(shape P f e).bind fun ks=>if ks.length=P.cellsOf e∧1≤ks.length∧1≤P.bytesOf e then some [.slice (P.bytesOf e) ks] else none
    | some (.struct fs)=>(fieldsShape (shape P f) P fs.toList 0).bind fun ks=>if ks.length=P.cellsOf t then some ks else none
    | some (.array n e)=>(shape P f e).bind fun ks=>if ks.length=P.cellsOf e∧P.cellsOf t=n*ks.length then some (List.replicate n ks).flatten else none
    | _=>none

theorem chunk_flat {α:Type} [Inhabited α] (f:α→List Value) (sz:Nat) (hf:∀ x,(f x).length=sz):∀ (xs:List α) (i:Nat),i < xs.length→((xs.flatMap f).drop (i*sz)).take sz=f (xs.getD i default)
  | [],i,h=>by simp at h
  | x::xs,0,_=>by rw [List.flatMap_cons,Nat.zero_mul,List.drop_zero,List.take_left' (hf x)];rfl
  | x::xs,i+1,h=>by
    have ih:=chunk_flat f sz hf xs i (by simpa using h)
    rw [List.flatMap_cons,show (i+1)*sz=(f x).length+i*sz by rw [hf,Nat.succ_mul];omega,← List.drop_drop,List.drop_left,ih]
    rfl

section
variable {H:Type} {enc:TypeId×Value→H} {P:Program} {w:World} {base:Nat} {held:Bool}

/-- what is claimed of one type -/
def OpensAt (enc : TypeId × Value → H) (P : Program) (w : World) (base : Nat) (held : Bool) (g : TypeId → Option (List Sh)) : Prop :=
  ∀ (t:TypeId) (ks:List Sh) (fuel:Nat) (cs:List Value) (x:DataW H×List MemPlace),g t=some ks→DataW.trod enc P w base (fun _=>true) held fuel t cs=some x →
    (x.1.weights P t).all (·≤reachBytes)=true→Plains w ks cs

theorem opens_fields {g : TypeId → Option (List Sh)} (hg : OpensAt enc P w base held g) (n : Nat) :
    ∀ (fs:List Field) (off:Nat) (ks:List Sh) (cs:List Value) (xs:List (DataW H×List MemPlace)),fieldsShape g P fs off=some ks→off+ks.length=cs.length→xs.length=fs.length →
      (∀ (i:Nat) (f:Field),fs[i]?=some f→DataW.trod enc P w base (fun _=>true) held n f.type ((cs.drop f.offset).take (P.cellsOf f.type))=xs[i]?) →
      ((DataW.weightsEach P (fs.map (·.type)) (xs.map (·.1))).all (·≤reachBytes)=true)→Plains w ks (cs.drop off)
  | [],off,ks,cs,xs,hs,hl,_,_,_=>by
    simp only [fieldsShape,Option.some.injEq] at hs
    subst hs
    simp only [List.length_nil,Nat.add_zero] at hl
    simp [Plains,hl]
  | fd :: r, off, ks, cs, xs, hs, hl, hx, hall, hw => by
    simp only [fieldsShape] at hs
    split at hs
    · rename_i ho
      cases hk:g fd.type with
      | none=>simp [hk] at hs
      | some k0=>
        simp only [hk,Option.bind_some] at hs
        split at hs
        · rename_i hc
          simp only [Option.map_eq_some_iff] at hs
          obtain ⟨k1,h1,rfl⟩:=hs
          match xs,hx with
          | x0::xs,hx=>
            have h0:=hall 0 fd rfl
            simp only [List.getElem?_cons_zero] at h0
            simp only [List.map_cons,DataW.weightsEach,List.all_append,Bool.and_eq_true] at hw
            rw [ho] at h0
            have p0:=hg fd.type k0 n _ x0 hk h0 hw.1
            have ih:=opens_fields hg n r (off+k0.length) k1 cs xs h1 (by simp only [List.length_append] at hl;omega) (by simpa using hx) (fun i f hf=>by simpa using hall (i+1) f (by simpa using hf)) hw.2
            rw [← hc] at p0
            have:cs.drop off=(cs.drop off).take k0.length++cs.drop (off+k0.length):=by rw [← List.drop_drop,List.take_append_drop]
            rw [this]
            exact Plains.append p0 ih
        · cases hs
    · cases hs

theorem weightsAll_mem {P:Program} {e:TypeId}:∀ {ds:List (DataW H)},(DataW.weightsAll P e ds).all (·≤reachBytes)=true→∀ d∈ds,(d.weights P e).all (·≤reachBytes)=true
  | [],_,_,hd=>by cases hd
  | d0::ds,h,d,hd=>by
    simp only [DataW.weightsAll,List.all_append,Bool.and_eq_true] at h
    rcases List.mem_cons.1 hd with rfl | hd
    · exact h.1
    · exact weightsAll_mem h.2 d hd

theorem plains_chunks {w:World} {ks:List Sh}:∀ (n:Nat) (cs:List Value),cs.length=n*ks.length→(∀ i,i < n→Plains w ks ((cs.drop (i*ks.length)).take ks.length))→Plains w (List.replicate n ks).flatten cs
  | 0,cs,hl,_=>by simp only [Nat.zero_mul,List.length_eq_zero_iff] at hl;subst hl;simp [Plains]
  | n + 1, cs, hl, h => by
    rw [List.replicate_succ,List.flatten_cons]
    have h0:=h 0 (by omega)
    rw [Nat.zero_mul,List.drop_zero] at h0
    have ih:=plains_chunks (w:=w) (ks:=ks) n (cs.drop ks.length) (by rw [List.length_drop,hl,Nat.succ_mul];omega) (fun i hi=>by
      have:=h (i+1) (by omega)
      rw [List.drop_drop,show ks.length+i*ks.length=(i+1)*ks.length by rw [Nat.succ_mul];omega]
      exact this)
    have:=Plains.append h0 ih
    rwa [List.take_append_drop] at this

theorem opens : ∀ (f : Nat), OpensAt enc P w base held (shape P f)
  | 0=>by intro t ks fuel cs x hs;cases hs
  | f + 1 => by
    have ih:=opens f
    intro t ks fuel cs x hs hx hw
    unfold shape at hs
    cases ht:P.underlying t with
    | none=>rw [ht] at hs;cases hs
    | some d=>
      rw [ht] at hs
      cases d with
      | bool=>
        simp only [Option.some.injEq] at hs
        subst hs
        obtain ⟨b,rfl,_⟩:=DataW.trod_bool ht hx
        exact ⟨_,[],rfl,⟨b,rfl⟩,rfl⟩
      | int k=>
        simp only [Option.some.injEq] at hs
        subst hs
        obtain ⟨n,rfl,_,hwf⟩:=DataW.trod_int ht hx
        exact ⟨_,[],rfl,⟨n,rfl,hwf⟩,rfl⟩
      | string=>
        simp only [Option.some.injEq] at hs
        subst hs
        obtain ⟨s,rfl,rfl,hsz⟩:=DataW.trod_string ht hx
        refine ⟨_,[],rfl,⟨s,rfl,?_⟩,rfl⟩
        simpa [DataW.weights] using hw
      | slice e =>
        cases hk:shape P f e with
        | none=>simp [hk] at hs
        | some k0 =>
          simp only [hk,Option.bind_some] at hs
          split at hs
          · rename_i hc
            simp only [Option.some.injEq] at hs
            subst hs
            rcases open_slice ht hx with ⟨rfl,rfl⟩ | ⟨a,len,cap,m,n,D,Pl,rfl,hb,hlc,hm,rfl,rfl,hel⟩
            · exact ⟨_,[],rfl,⟨0,[],Sl.nil _ _,by omega,fun i hi=>by omega⟩,rfl⟩
            · simp only at hel hw
              simp only [DataW.weights,ht,List.all_cons,Bool.and_eq_true,decide_eq_true_eq,List.length_map,List.length_range,List.all_append] at hw
              obtain ⟨hsz,hwe,_⟩:=hw
              have hsz':len*P.bytesOf e≤reachBytes:=Nat.le_trans (Nat.mul_le_mul_right _ (by omega)) hsz
              -- the cells
              have hcell:∀ i,i < len→∃ cs',cs'.length=k0.length∧(∀ j,j < k0.length→w.cell? (a.add (i*k0.length+j))=cs'[j]?)∧Plains w k0 cs':=by
                intro i hi;obtain ⟨cs',h1,h2⟩:=hel i (by omega);obtain ⟨_,hl',hcs⟩:=World.cells?_some h1;refine ⟨cs',by rw [hl',hc.1],fun j hj=>?_,ih e k0 n cs' _ hk h2 (weightsAll_mem hwe _ (by simp only [List.mem_map,List.mem_range];exact ⟨i,hi,rfl⟩))⟩;rw [← hcs j (by omega),← hc.1]
                congr 1
                unfold Addr.add
                split<;>split<;>split<;>simp_all [Nat.add_assoc]<;>omega
              obtain ⟨hc1,hk1,hb1⟩:=hc
              obtain ⟨C,hC⟩:∃ C:Nat→List Value,∀ i,(C i).length=k0.length∧(i < len→(∀ j,j < k0.length→w.cell? (a.add (i*k0.length+j))=(C i)[j]?)∧Plains w k0 (C i)):=by
                refine ⟨fun i=>if h:i < len then (hcell i h).choose else List.replicate k0.length undef,fun i=>?_⟩
                by_cases h:i < len
                · simp only [h,dif_pos,forall_const]
                  exact (hcell i h).choose_spec
                · simp [h]
              have hlenC:=length_flat C k0.length (fun i=>(hC i).1) (List.range len);rw [List.length_range] at hlenC;have hle:len≤len*P.bytesOf e:=Nat.le_mul_of_pos_right _ hb1
              have hget:∀ i j,i < len→j < k0.length→((List.range len).flatMap C).getD (i*k0.length+j) undef=(C i).getD j undef:=by
                intro i j hi hj;have:=getD_flat C k0.length (fun i=>(hC i).1) (List.range len) i j (by simpa using hi) hj
                rwa [show (List.range len).getD i default=i by simp [List.getD_eq_getElem?_getD,hi]] at this
              have hcl:∀ j,j < len*k0.length→w.cell? (a.add j)=some (((List.range len).flatMap C).getD j undef):=by
                intro j hj;have hq:j / k0.length < len:=Nat.div_lt_of_lt_mul (by rw [Nat.mul_comm];exact hj);have hr:j%k0.length < k0.length:=Nat.mod_lt _ hk1;have e1:=((hC (j / k0.length)).2 hq).1 _ hr;have e2:=hget _ _ hq hr;rw [show j / k0.length*k0.length+j%k0.length=j by rw [Nat.mul_comm];exact Nat.div_add_mod _ _] at e1 e2;rw [e1,e2,List.getD_eq_getElem?_getD,List.getElem?_eq_getElem (by rw [(hC _).1];exact hr)]
                rfl
              refine ⟨_,[],rfl,⟨len,(List.range len).flatMap C,⟨some a,_,rfl,?_,hlenC,(fun h=>by cases h),?_⟩,hsz',fun i hi=>?_⟩,rfl⟩
              · have:reachBytes≤281474976710656:=by decide
                exact ⟨by omega,by omega⟩
              · by_cases h0:len=0
                · exact .inl h0
                · right
                  have hp:0 < len*k0.length:=Nat.mul_pos (by omega) hk1;obtain ⟨b,off,spot⟩:=a;have hspot:spot=none:=by simpa [Addr.add] using World.cell?_spot (hcl 0 hp)
                  subst hspot;refine ⟨b,off,rfl,?_,fun j hj=>?_⟩
                  · have:=World.block_lt_of_cell? w _ (hcl 0 hp)
                    simpa [Addr.add] using this
                  · rw [← Go.WideShapes.add_plain]
                    exact hcl j (by omega)
              · rw [chunk_flat C k0.length (fun i=>(hC i).1) _ _ (by simpa using hi),show (List.range len).getD i default=i by simp [List.getD_eq_getElem?_getD,hi]]
                exact ((hC i).2 hi).2
          · cases hs
      | struct fs=>
        cases hk:fieldsShape (shape P f) P fs.toList 0 with
        | none=>simp [hk] at hs
        | some k0=>
          simp only [hk,Option.bind_some] at hs
          split at hs
          · rename_i hc
            simp only [Option.some.injEq] at hs;subst hs;obtain ⟨xs,n,rfl,rfl,hl,hlen,hall⟩:=DataW.trod_struct ht hx;simp only [DataW.weights,ht] at hw;have:=opens_fields ih n fs.toList 0 k0 cs xs hk (by rw [hl,hc];omega) (by simpa using hlen) (fun i f hf=>hall i f (by simpa using hf)) hw;simpa using this
          · cases hs
      | array n e=>
        cases hk:shape P f e with
        | none=>simp [hk] at hs
        | some k0=>
          simp only [hk,Option.bind_some] at hs
          split at hs
          · rename_i hc
            simp only [Option.some.injEq] at hs;subst hs;obtain ⟨xs,m,rfl,rfl,hl,hlen,hall⟩:=DataW.trod_array ht hx;simp only [DataW.weights,ht] at hw;refine plains_chunks n cs (by rw [hl,hc.2]) (fun i hi=>?_);have h1:=hall i hi;rw [← hc.1] at h1;have hi':i < xs.length:=by omega
            rw [List.getElem?_eq_getElem hi'] at h1;exact ih e k0 m _ _ hk h1 (weightsAll_mem hw _ (by simp only [List.mem_map];exact ⟨xs[i],List.getElem_mem hi',rfl⟩))
          · cases hs
      | _=>cases hs
end
end Go.Proofs.YtdjgcenjonegjaaGreat
namespace Go.Proofs.YtdjgcenjonegjaaGreat
set_option linter.unusedSimpArgs false
set_option linter.unusedVariables false
open Go.ChangeShapes Go.WideShapes Go.ChangeAt Go.RowKit
set_option maxRecDepth 20000

theorem wf_I64 {n:Int} (h:(Lit.int .i64 n).wf=true):I64 n:=by simp [Lit.wf,IntKind.min,IntKind.max,IntKind.signed,IntKind.bits] at h;exact h
theorem wf_W32 {n:Int} (h:(Lit.int .u32 n).wf=true):W32 n:=by simp [Lit.wf,IntKind.min,IntKind.max,IntKind.signed,IntKind.bits] at h;exact h
theorem plain_i64 {w:World} {v:Value} (h:Plain w (.int .i64) v):∃ n,v=I n∧I64 n:=by simp only [Plain] at h;obtain ⟨n,rfl,h⟩:=h;exact ⟨n,rfl,wf_I64 h⟩
theorem plain_u32 {w:World} {v:Value} (h:Plain w (.int .u32) v):∃ n,v=U32 n∧W32 n:=by simp only [Plain] at h;obtain ⟨n,rfl,h⟩:=h;exact ⟨n,rfl,wf_W32 h⟩
/-- a slice whose elements decode -/
theorem plain_slice {α : Type} [Inhabited α] (f : α → List Value) (sz : Nat) (wf : α → Prop) (ks : List Sh) (hk : ks.length = sz) (hf : ∀ x, (f x).length = sz) {w : World} {by' : Nat} {v : Value}
    (hdec:∀ cs,Plains w ks cs→∃ x,cs=f x∧wf x) (h:Plain w (.slice by' ks) v):
    ∃ xs:List α,Sl w v sz xs.length (xs.flatMap f)∧(∀ x∈xs,wf x)∧xs.length*by'≤140737488351232:=by
  subst hk;simp only [Plain] at h;obtain ⟨n,cs,hS,hn,hel⟩:=h
  have key:∀ (n:Nat) (cs:List Value),cs.length=n*ks.length→(∀ i,i < n→Plains w ks ((cs.drop (i*ks.length)).take ks.length))→∃ xs:List α,xs.length=n∧cs=xs.flatMap f∧∀ x∈xs,wf x:=by
    intro n
    induction n with
    | zero=>intro cs hl _;exact ⟨[],rfl,by simpa using hl,by simp⟩
    | succ n ih=>
      intro cs hl h;have h0:=h 0 (by omega);rw [Nat.zero_mul,List.drop_zero] at h0;obtain ⟨x,hx,hw⟩:=hdec _ h0
      obtain ⟨xs,hxl,hxs,hxw⟩:=ih (cs.drop ks.length) (by rw [List.length_drop,hl,Nat.succ_mul];omega) (fun i hi=>by
        have:=h (i+1) (by omega);rw [List.drop_drop,show ks.length+i*ks.length=(i+1)*ks.length by rw [Nat.succ_mul];omega];exact this)
      refine ⟨x::xs,by simp [hxl],?_,?_⟩
      · rw [List.flatMap_cons,← hx,← hxs,List.take_append_drop]
      · intro y hy
        rcases List.mem_cons.1 hy with rfl | hy
        · exact hw
        · exact hxw y hy
  have hl:cs.length=n*ks.length:=by obtain ⟨_,_,_,_,h,_⟩:=hS;exact h
  obtain ⟨xs,rfl,rfl,hw⟩:=key n cs hl hel;exact ⟨xs,hS,hw,hn⟩

theorem plain_words {w:World} {by':Nat} {v:Value} (h:Plain w (.slice by' [.int .u32]) v):∃ xs:List Int,Sl w v 1 xs.length (xs.map U32)∧(∀ x∈xs,W32 x)∧xs.length*by'≤140737488351232:=by
  obtain ⟨xs,h1,h2,h3⟩:=plain_slice (fun x=>[U32 x]) 1 W32 [.int .u32] rfl (fun _=>rfl) (fun cs h=>by simp only [Plains] at h;obtain ⟨v,r,rfl,h0,rfl⟩:=h;obtain ⟨n,rfl,hn⟩:=plain_u32 h0;exact ⟨n,rfl,hn⟩) h;rw [show xs.flatMap (fun x=>[U32 x])=xs.map U32 by rw [List.map_eq_flatMap]] at h1;exact ⟨xs,h1,h2,h3⟩

theorem decodeStep {w:World} (cs:List Value) (h:Plains w [.int .i64,.int .i64] cs):∃ x:AStep,cs=x.cells∧x.wf:=by
  simp only [Plains] at h;obtain ⟨v0,r0,rfl,h0,v1,r1,rfl,h1,rfl⟩:=h;obtain ⟨n0,rfl,w0⟩:=plain_i64 h0;obtain ⟨n1,rfl,w1⟩:=plain_i64 h1;exact ⟨⟨n0,n1⟩,rfl,⟨w0,w1⟩⟩
theorem plainSteps {w:World} {by':Nat} {v:Value} (h:Plain w (.slice by' [.int .i64,.int .i64]) v):∃ xs:List AStep,Sl w v 2 xs.length (xs.flatMap AStep.cells)∧(∀ x∈xs,x.wf)∧xs.length*by'≤140737488351232:=
  plain_slice AStep.cells 2 AStep.wf _ rfl AStep.cells_len decodeStep h

theorem decodePair {w:World} (cs:List Value) (h:Plains w [.int .i64,.int .i64,.int .i64,.int .i64] cs):∃ x:APair,cs=x.cells∧x.wf:=by
  simp only [Plains] at h;obtain ⟨v0,r0,rfl,h0,v1,r1,rfl,h1,v2,r2,rfl,h2,v3,r3,rfl,h3,rfl⟩:=h;obtain ⟨n0,rfl,w0⟩:=plain_i64 h0;obtain ⟨n1,rfl,w1⟩:=plain_i64 h1;obtain ⟨n2,rfl,w2⟩:=plain_i64 h2;obtain ⟨n3,rfl,w3⟩:=plain_i64 h3;exact ⟨⟨n0,n1,n2,n3⟩,rfl,⟨w0,w1,w2,w3⟩⟩
theorem plainPairs {w:World} {by':Nat} {v:Value} (h:Plain w (.slice by' [.int .i64,.int .i64,.int .i64,.int .i64]) v):∃ xs:List APair,Sl w v 4 xs.length (xs.flatMap APair.cells)∧(∀ x∈xs,x.wf)∧xs.length*by'≤140737488351232:=
  plain_slice APair.cells 4 APair.wf _ rfl APair.cells_len decodePair h

section
variable {H:Type} {enc:TypeId×Value→H} {P:Program} {W:World} {t:TypeId} {ks:List Sh} {v:Value} {d:DataW H} {p:List MemPlace}
theorem arg_plains (hs:shape P 9 t=some ks) (h:DataW.Trod enc P W 0 (fun _=>true) true t v d p) (hw:(d.weights P t).all (·≤reachBytes)=true):Plains W ks v.cells.toList:=by
  obtain ⟨fuel,hf⟩:=h;exact opens 9 t ks fuel _ _ hs hf hw
theorem arg_weights {ts:List TypeId} {ds:List (DataW H)} {j:Nat} (h:(DataW.weightsEach P ts ds).all (·≤reachBytes)=true) (ht:ts[j]?=some t) (hd:ds[j]?=some d):(d.weights P t).all (·≤reachBytes)=true:=
  List.all_eq_true.2 fun n hn=>List.all_eq_true.1 h n (DataW.weights_mem_each ht hd n hn)
theorem arg_slice {e:TypeId} {r:Reach} {base b:Nat} (ht:P.underlying t=some (.slice e)) (hval:Value.okWide P W r base t v) (h:Plains W [.slice b ks] v.cells.toList):Plain W (.slice b ks) v:=by
  obtain ⟨a,len,cap,rfl⟩:=okWide_slice ht hval;simp only [Plains,Value.cells] at h;obtain ⟨v',r',hv,hp,hr⟩:=h;simp only [List.cons.injEq] at hv;obtain ⟨rfl,_⟩:=hv;exact hp
theorem arg_struct {fs:Array Field} {r:Reach} {base:Nat} (ht:P.underlying t=some (.struct fs)) (hval:Value.okWide P W r base t v) (h:Plains W ks v.cells.toList):∃ cs:List Value,v=.agg cs.toArray∧Plains W ks cs:=by
  unfold Value.okWide at hval;rw [ht] at hval;obtain ⟨cs,rfl,_⟩:=hval;exact ⟨cs.toList,by simp,h⟩
end
end Go.Proofs.YtdjgcenjonegjaaGreat
namespace Go.Proofs.YtdjgcenjonegjaaGreat
set_option linter.unusedSimpArgs false
set_option linter.unusedVariables false
open Go.RowKit Go.ChangeShapes Go.WideShapes Go.ChangeAt
set_option maxRecDepth 20000

/-- an account but for its debts -/
structure AAcc where
  meter:Int
  rev:Int
  next:Int
  month:Int
  bought:Int
  free:Int
deriving DecidableEq,Inhabited
def AAcc.wf (x:AAcc):Prop:=I64 x.meter∧I64 x.rev∧I64 x.next∧I64 x.month∧I64 x.bought∧I64 x.free
/-- terms but for the tariff -/
structure ATerms where
  feeFix:Int
  feeBp:Int
  debtBp:Int
  allow:Int
deriving DecidableEq,Inhabited
def ATerms.wf (x:ATerms):Prop:=I64 x.feeFix∧I64 x.feeBp∧I64 x.debtBp∧I64 x.allow

theorem decodeTerms {w:World} {by':Nat} (cs:List Value) (h:Plains w [.slice by' [.int .i64,.int .i64],.int .i64,.int .i64,.int .i64,.int .i64] cs):
    ∃ (x:ATerms) (v:Value) (xs:List AStep),cs=[v,I x.feeFix,I x.feeBp,I x.debtBp,I x.allow]∧x.wf∧Sl w v 2 xs.length (xs.flatMap AStep.cells)∧(∀ x∈xs,x.wf)∧xs.length*by'≤140737488351232:=by
  simp only [Plains] at h;obtain ⟨v0,r0,rfl,h0,v1,r1,rfl,h1,v2,r2,rfl,h2,v3,r3,rfl,h3,v4,r4,rfl,h4,rfl⟩:=h;obtain ⟨xs,hS,hw,hb⟩:=plainSteps h0;obtain ⟨n1,rfl,w1⟩:=plain_i64 h1;obtain ⟨n2,rfl,w2⟩:=plain_i64 h2;obtain ⟨n3,rfl,w3⟩:=plain_i64 h3;obtain ⟨n4,rfl,w4⟩:=plain_i64 h4;exact ⟨⟨n1,n2,n3,n4⟩,v0,xs,rfl,⟨w1,w2,w3,w4⟩,hS,hw,hb⟩

theorem decodeOracle {w:World} {by':Nat} (cs:List Value) (h:Plains w [.slice by' [.int .i64,.int .i64,.int .i64,.int .i64]] cs):
    ∃ (v:Value) (xs:List APair),cs=[v]∧Sl w v 4 xs.length (xs.flatMap APair.cells)∧(∀ x∈xs,x.wf)∧xs.length*by'≤140737488351232:=by
  simp only [Plains] at h;obtain ⟨v0,r0,rfl,h0,rfl⟩:=h;obtain ⟨xs,hS,hw,hb⟩:=plainPairs h0;exact ⟨v0,xs,rfl,hS,hw,hb⟩
end Go.Proofs.YtdjgcenjonegjaaGreat
namespace Go.Proofs.YtdjgcenjonegjaaGreat
set_option linter.unusedSimpArgs false
set_option linter.unusedVariables false
open Go
set_option maxRecDepth 20000

/-- all orders that can be drawn from here on -/
def allOrders (md:Region.Mode) (ops:Array Oper):Nat→Array Bool→List (List Nat)
  | 0,_=>[[]]
  | fuel+1,listed=>if Region.ready md ops listed=[] then [[]] else (Region.ready md ops listed).flatMap fun i=>(allOrders md ops fuel (listed.setIfInBounds i true)).map (i::·)

theorem order_mem (md : Region.Mode) (ops : Array Oper) : ∀ (fuel t : Nat) (listed : Array Bool), Region.linearise.go md ops fuel t listed [] ∈ allOrders md ops fuel listed := by
  intro fuel
  induction fuel with
  | zero=>intro t listed;simp [Region.linearise.go,allOrders]
  | succ fuel ih=>
    intro t listed;simp only [Region.linearise.go,allOrders]
    change (match (Region.ready md ops listed)[t%(Region.ready md ops listed).length]? with
      | some i=>Region.linearise.go md ops fuel (t / (Region.ready md ops listed).length) (listed.setIfInBounds i true) [i]
      | none=>[].reverse)∈_
    cases hi:(Region.ready md ops listed)[t%(Region.ready md ops listed).length]? with
    | none=>
      have hnil:Region.ready md ops listed=[]:=by
        cases hr:Region.ready md ops listed with
        | nil=>rfl
        | cons x xs=>
          rw [hr] at hi;have hlt:t%(x::xs).length < (x::xs).length:=Nat.mod_lt _ (by simp);simp at hi;simp at hlt;omega
      simp [hnil]
    | some i=>
      have hne:Region.ready md ops listed≠[]:=fun h=>by rw [h] at hi;simp at hi
      simp only [if_neg hne];rw [linearise_go_acc,List.reverse_singleton,List.singleton_append];exact List.mem_flatMap.2 ⟨i,List.mem_of_getElem? hi,List.mem_map.2 ⟨_,ih _ _,rfl⟩⟩

section
variable {P:Program} {ops:Array Oper} {Q:Exit→Act→List Frame→World→Prop} {a:Act} {cs:List Frame} {w:World}
theorem wpS_draw {id:Nat} (L:List (List Nat)) (hm:P.follows .mixedOrders=true) (hL:allOrders .any ops ops.size (Array.replicate ops.size false)=L)
    (h:∀ l∈L,wpOpsS P ops Q l a cs { w with drawn:=w.drawn+1 }):(Code.region id ops true).wpS P Q a cs w:=by
  intro b k hb hr
  have hl:Region.schedule (P.follows .mixedOrders) ops (w.tape w.drawn (.order b.fn id))∈L:=by
    rw [← hL];simp only [Region.schedule,hm,Bool.true_or,if_true];exact order_mem _ _ _ _ _
  obtain ⟨e,a',cs',w',q,r⟩:=wp_opsS _ a cs _ (h _ hl) b k hb hr;exact ⟨e,a',cs',w',q,.of_steps (.one step_region_draw) r⟩
end
end Go.Proofs.YtdjgcenjonegjaaGreat
namespace Go.Proofs.YtdjgcenjonegjaaGreat
set_option linter.unusedSimpArgs false
set_option linter.unusedVariables false
open Go.RowKit
set_option maxRecDepth 20000
def inB (n lo hi:Int):Bool:=decide (lo≤n)&&decide (n≤hi)
theorem inB_true {n lo hi:Int}:inB n lo hi=true↔lo≤n∧n≤hi:=by simp [inB]
theorem inB_false {n lo hi:Int}:inB n lo hi=false↔¬ (lo≤n∧n≤hi):=by rw [← inB_true];simp

theorem In_any (n low high:Int) (w:World):
    Calls Tryz.prog 57 #[.int .i64 n,.int .i64 low,.int .i64 high] w (Pure (.bool (inB n low high)) w):=by
  go_enter Tryz.func57,Tryz.ntmps57;go_wp2
  all_goals
    go_ret;refine Pure.intro ?_;simp only [inB];simp [*]
    try omega
end Go.Proofs.YtdjgcenjonegjaaGreat
