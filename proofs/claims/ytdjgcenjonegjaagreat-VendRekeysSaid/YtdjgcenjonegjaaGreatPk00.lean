/- From a walk ("the law returns true, nothing below the old heap's end has turned") to the given row's contract: one lemma for every law, whatever its parameters. · Words of our own for contracts: what a call returns, behind a name, so that the walk leaves it alone. · a slice that reads as a list of cells -/
import Derived.Test.YtdjgcenjonegjaaGreatRows
import Derived.WalkKit
import Derived.ProofKit
import Derived.OpenShut
import Derived.SizedLaws
import Derived.Carry
import Derived.Test.YtdjgcenjonegjaaGreatProg
import Derived.Lib.Hide
import Derived.WalkSpells
import Derived.WalkLawsBesides
import Derived.BigQuiet
import Derived.Deep.QuietTactic
import Derived.Laws.AppendOwnNone
set_option maxRecDepth 20000
set_option maxHeartbeats 8000000
set_option linter.unusedSimpArgs false
set_option linter.unusedVariables false
namespace Go.Proofs.YtdjgcenjonegjaaGreat
section
open Go.ChangeShapes Go.WideShapes Go.ChangeAt Go.RowKit

theorem own:ownKnob Tryz.prog.godebug=none:=by kernel_rfl
theorem laidOut:laidOutB Tryz.prog=true:=by kernel_rfl

/-- every parameter's type can be read and is a row of the table -/
def rowed (P:Program) (ts:List TypeId):Bool:=ts.all fun t=>P.readableRec t&&decide (t < P.types.size)

theorem trodAll_below {H:Type} {enc:TypeId×Value→H} {P:Program} (hl:laidOutB P=true) {W W':World} (hb:Below W.heap.size W W'):
    ∀ {ts:List TypeId} {vs:List Value} {ds:List (DataW H)} {ps:List MemPlace},rowed P ts=true→(∀ x∈ps,x.block < W.heap.size) →
      DataW.TrodAll enc P W 0 (fun _=>true) true ts vs ds ps→DataW.TrodAll enc P W' 0 (fun b=>decide (b < W.heap.size)) true ts vs ds ps
  | [],_,_,_,_,_,h=>by
    obtain ⟨rfl,rfl,rfl⟩:=trodAll_nil h
    exact trodAll_mk0
  | t::ts,_,_,_,hr,hlt,h=>by
    obtain ⟨v,vs1,d,ds1,p,q,rfl,rfl,rfl,h1,h2⟩:=trodAll_cons h
    simp only [rowed,List.all_cons,Bool.and_eq_true,decide_eq_true_eq] at hr
    refine ⟨p,q,Below.trod hl hr.1.1 hr.1.2 h1 hb (fun x hx=>hlt x (by simp [hx])),?_,rfl⟩
    exact trodAll_below hl hb (by simpa [rowed] using hr.2) (fun x hx=>hlt x (by simp [hx])) h2

theorem trodAll_len {H:Type} {enc:TypeId×Value→H} {P:Program} {W:World} {b:Nat} {sp:Nat→Bool} {hd:Bool}:
    ∀ {ts:List TypeId} {vs:List Value} {ds:List (DataW H)} {ps:List MemPlace},DataW.TrodAll enc P W b sp hd ts vs ds ps→ds.length=ts.length
  | [],_,_,_,h=>by
    obtain ⟨rfl,rfl,rfl⟩:=trodAll_nil h
    rfl
  | _::_,_,_,_,h=>by
    obtain ⟨v,vs1,d,ds1,p,q,rfl,rfl,rfl,h1,h2⟩:=trodAll_cons h
    simp [trodAll_len h2]

/-- The law's call returned true and nothing that was there has turned: so the row's 'post' holds. -/
theorem post_true {H:Type} {enc:TypeId×Value→H} {P:Program} {fn:Func} {s:ChangeSpec} {bt:TypeId}
    (hv:s.vars=[]) (hl:laidOutB P=true) (hr:rowed P fn.params.toList=true)
    (hb:P.underlying bt=some .bool) (hrt:fn.resultTypes=#[bt])
    (hfn:∀ ds:List (DataW H),ds.length=fn.params.size→s.fn H ds={ results:=[.lit (.bool true)],args:=ds })
    {W W':World} {args:Array Value} {ds gs:List (DataW H)} {before:List MemPlace} (hwhole:DataW.Whole enc P fn.params.toList s.vars false W args.toList ds gs before)
    (hbel:Below W.heap.size W W'):s.post enc P fn false true false false W args (.bool true) W':=by
  have hlt:=hwhole.lt;have hwhole0:=hwhole;obtain ⟨p,q,hA,hV,rfl,hfz,hnd⟩:=hwhole;rw [hv] at hV;obtain ⟨rfl,rfl⟩:=trodVars_none hV;have hds:ds.length=fn.params.size:=by simpa using trodAll_len hA
  have hs:s.fn H (ds++[])={ results:=[.lit (.bool true)],args:=ds }:=by rw [List.append_nil];exact hfn ds hds
  refine ⟨ds,[],p++[],[],p,[],hwhole0,?_,?_,?_,hbel.frame _,fun h=>by cases h⟩
  · rw [hs,hrt]
    exact trodAll_mk1 (shut_bool hb true)
  · rw [hs]
    exact trodAll_below hl hbel hr (fun x hx=>hlt x (by simp [hx])) hA
  · rw [hs,hv]
    exact rfl

end
section
open Go.RowKit

/-- the call returns v; the world is as it was -/
def Pure (v:Value) (w:World) (e:Ending) (w':World):Prop:=e=.returned v∧w=w'
theorem Pure.intro {v v':Value} {w:World} (h:v'=v):Pure v w (.returned v') w:=⟨by rw [h],rfl⟩

/-- the call returns v; what was there is as it was -/
def Grew (v:Value) (w:World) (e:Ending) (w':World):Prop:=e=.returned v∧Below w.heap.size w w'
theorem Grew.intro {v v':Value} {w w':World} (h:v'=v) (hb:Below w.heap.size w w'):Grew v w (.returned v') w':=⟨by rw [h],hb⟩
theorem drewN_below {B:Nat} {a w:World} (h:Below B a w) (n:Nat):Below B a (w.drewN n):=⟨h.os,h.tape,h.output,h.size,h.block⟩

theorem Grew.grew {v:Value} {w w':World} {e:Ending} (h:Grew v w e w'):Grew v w e w':=h

theorem Pure.quiet2 {P:Program} {f:FuncId} {args:Array Value} {w:World} {a n:Nat} {v:Value} (h:Calls P f args (w.drewN (a+n)) (Pure v (w.drewN (a+n)))):
    Calls P f args (w.drewN (a+n)) fun e w''=>e=.returned v∧∃ m,w''=w.drewN (a+m):=h.mono fun _ _ ⟨he,hm⟩=>⟨he,n,hm.symm⟩
theorem boxed_below (w:World) (o:Obj):Below w.heap.size w (w.alloc o):=(Below.refl _ _).alloc (Nat.le_refl _) _

theorem below_box {w w1:World} {o:Obj} (h:Below (w.alloc o).heap.size (w.alloc o) w1):Below w.heap.size w w1:=(boxed_below w o).trans (h.mono (by simp))

/-- an int -/
abbrev I (n:Int):Value:=.int .i64 n
/-- two, three, four results -/
abbrev T2 (a b:Value):Value:=.tuple #[a,b]
abbrev T3 (a b c:Value):Value:=.tuple #[a,b,c]
abbrev T4 (a b c d:Value):Value:=.tuple #[a,b,c,d]

theorem eI {a b:Int} (h:a=b):I a=I b:=by rw [h]
theorem eI2 {a b a' b':Int} (h:a=a') (k:b=b'):T2 (I a) (I b)=T2 (I a') (I b'):=by rw [h,k]
theorem eB {a b:Bool} (h:a=b):Value.bool a=Value.bool b:=by rw [h]

theorem below_auto {B:Nat} {a w:World} (h:Below B a w:=by repeat first | exact Below.refl _ _ | assumption | refine drewN_below ?_ _ | refine Below.alloc ?_ (by first | exact Nat.le_refl _ | exact Below.size (by assumption) | (simp;done) | (simp;omega) | omega) _ | refine Below.setCell ?_ (by first | exact Nat.le_refl _ | (simp;done) | (simp;omega) | omega) _):Below B a w:=h
theorem below_autor {B:Nat} {a w:World} (h:Below B a w:=by repeat first | with_reducible assumption | with_reducible exact Below.refl _ _ | with_reducible refine Below.setCell ?_ (by first | exact Nat.le_refl _ | exact Below.size (by assumption) | (simp;done) | (simp;omega) | omega) _ | with_reducible refine Below.alloc ?_ (by first | exact Nat.le_refl _ | exact Below.size (by assumption) | (simp;done) | (simp;omega) | omega) _ | with_reducible refine drewN_below ?_ _ | with_reducible refine Below.drew ?_):Below B a w:=h
end
section
open Go.RowKit

/-- v is a slice of n elements of sz cells each, which are cs -/
def Sl (w : World) (v : Value) (sz n : Nat) (cs : List Value) : Prop :=
  ∃ a cap,v=.slice a n cap∧(n≤281474976710656∧n≤cap)∧cs.length=n*sz∧(a=none→n=0∧cap=0) ∧
    (n=0∨∃ b off,a=some ⟨b,off,none⟩∧b < w.heap.size∧∀ j,j < cs.length→w.cell? ⟨b,off+j,none⟩=some (cs.getD j undef))

theorem Sl.below {w w':World} {v:Value} {sz n:Nat} {cs:List Value} (h:Sl w v sz n cs) (hb:Below w.heap.size w w'):Sl w' v sz n cs:=by
  obtain ⟨a,cap,hv,hn,hl,h0,h⟩:=h;refine ⟨a,cap,hv,hn,hl,h0,h.imp id ?_⟩;rintro ⟨b,off,ha,hlt,hc⟩;exact ⟨b,off,ha,Nat.lt_of_lt_of_le hlt hb.size,fun j hj=>(hb.cell (p:=⟨b,off+j,none⟩) hlt).trans (hc j hj)⟩

theorem Sl.drew {w:World} {v:Value} {sz n:Nat} {cs:List Value} (h:Sl w v sz n cs):Sl w.drew v sz n cs:=h
theorem Sl.nil (w:World) (sz:Nat):Sl w (.slice none 0 0) sz 0 []:=⟨none,0,rfl,⟨by omega,by omega⟩,by simp,fun _=>⟨rfl,rfl⟩,.inl rfl⟩

theorem cell_of_cells {w:World} {g:Nat} {cur:Array Value} {e:TypeId} {fz:Nat×Nat} (h:w.heap[g]?=some (.cells cur e fz)) (j:Nat):w.cell? ⟨g,j,none⟩=cur[j]?:=cell_of_row w g j cur e fz h

theorem Sl.of_owns {w:World} {base e sz n:Nat} {v:Value} {cs:List Value} (h:w.ownsRow base e sz v n cs) (hn:n≤281474976710656):Sl w v sz n cs:=by
  obtain ⟨hl,h⟩:=h;rcases h with ⟨rfl,rfl⟩ | ⟨g,cap,cur,rfl,hb,hg,hc,hm,hs,ht⟩
  · exact ⟨none,0,rfl,⟨by omega,by omega⟩,hl,fun _=>⟨rfl,rfl⟩,.inl rfl⟩
  · refine ⟨_,cap,rfl,⟨hn,hc⟩,hl,(fun h=>by cases h),.inr ⟨g,0,rfl,(Array.getElem?_eq_some_iff.1 hg).1,fun j hj=>?_⟩⟩
    rw [Nat.zero_add,cell_of_cells hg];rw [← ht,List.getD_eq_getElem?_getD,List.getElem?_take,if_pos (by omega),Array.getElem?_toList];rw [Array.getElem?_eq_getElem (by rw [hs];have:=Nat.mul_le_mul_right sz hc;omega)]
    rfl

theorem Sl.news {w:World} {ad:Addr} {sz n cap:Nat} {cs:List Value} (h:Sl w (.slice (some ad) n cap) sz n cs):∀ j u,cs[j]?=some u→w.cell? (ad.add j)=some u:=by
  obtain ⟨a,cap',hv,hn,hl,h0,h⟩:=h;simp only [Value.slice.injEq] at hv;obtain ⟨rfl,_,rfl⟩:=hv;intro j u hu;have hj:=(List.getElem?_eq_some_iff.1 hu).1;rcases h with rfl | ⟨b,off,he,hlt,hc⟩
  · simp at hl;subst hl;simp at hj
  · obtain rfl:=Option.some.inj he
    have:=hc j hj;rw [List.getD_eq_getElem?_getD,hu] at this;unfold Addr.add
    split
    · subst_vars;simpa using this
    · exact this

theorem Sl.of_owns' {w:World} {base e sz n n':Nat} {v:Value} {cs:List Value} (h:w.ownsRow base e sz v n' cs) (he:n'=n) (hn:n≤281474976710656):Sl w v sz n cs:=by
  subst he;exact Sl.of_owns h hn

/-- each value is one cell -/
def oneCells (cs:List Value):Prop:=∀ u∈cs,u.oneCell'=true
theorem oneCells_map {α:Type} {f:α→Value} (h:∀ x,(f x).oneCell'=true) (xs:List α):oneCells (xs.map f):=by
  intro u hu;simp only [List.mem_map] at hu;obtain ⟨x,_,rfl⟩:=hu;exact h x
theorem oneCells_flat {α:Type} {f:α→List Value} (h:∀ x,oneCells (f x)) (xs:List α):oneCells (xs.flatMap f):=by
  intro u hu;simp only [List.mem_flatMap] at hu;obtain ⟨x,_,hx⟩:=hu;exact h x u hx

/-- the call returns a slice that reads as cs, in new memory -/
def GrewSl (sz n:Nat) (cs:List Value) (w:World) (e:Ending) (w':World):Prop:=∃ v,e=.returned v∧Sl w' v sz n cs∧Below w.heap.size w w'

/-- the call returns a slice of its own, in new memory -/
def GrewOw (t sz n:Nat) (cs:List Value) (w:World) (e:Ending) (w':World):Prop:=∃ v,e=.returned v∧w'.ownsRow w.heap.size t sz v n cs∧Below w.heap.size w w'
/-- the call returns a slice that reads as cs, in new memory, and a number -/
def GrewSl2 (sz n:Nat) (cs:List Value) (k:Int) (w:World) (e:Ending) (w':World):Prop:=∃ v,e=.returned (T2 v (I k))∧Sl w' v sz n cs∧Below w.heap.size w w'
theorem grown_below {w0 w w':World} {v:Value} {base e sz n:Nat} {cs:List Value} (h:Below w0.heap.size w0 w) (ho:w.ownsRow base e sz v n cs) (hb:w0.heap.size≤base) (hg:w.grownBy w' v.ownBlock):Below w0.heap.size w0 w':=
  h.grown hg h.size (fun k hk=>Nat.le_trans hb (ho.lt k hk).1)
theorem cell_one (w:World) (x:Value) (e:TypeId):(w.alloc (.cells #[x] e)).cell? ⟨w.heap.size,0,none⟩=some x:=by
  rw [cell_of_cells (heap_alloc_new w _)];rfl
theorem news_lit (w:World) (cs:List Value) (e:TypeId):∀ (j:Nat) (u:Value),cs[j]?=some u→(w.alloc (.cells cs.toArray e)).cell? ((⟨w.heap.size,0,none⟩:Addr).add j)=some u:=by
  intro j u hj;have h:(w.alloc (.cells cs.toArray e)).cell? ⟨w.heap.size,j,none⟩=some u:=by rw [cell_of_cells (heap_alloc_new w _)];simpa using hj
  unfold Addr.add
  split
  · subst_vars;exact h
  · simpa using h
theorem oneCells_lit {cs:List Value} (h:cs.all Value.oneCell'=true):∀ u∈cs,u.oneCell'=true:=by simpa using h
theorem made_one (x:Value) (n:Nat):(madeCells #[x] (n*1)).toList=List.replicate n x:=by
  apply List.ext_getElem
  · simp [madeCells]
  · intro i h1 h2
    simp [madeCells,Nat.mod_one]

theorem made_int {w:World} {b e n:Nat} {v:Value} {k:IntKind} {z:Int} (h:w.ownsRow b e 1 v n (madeCells (Value.int k z).cells (n*1)).toList):w.ownsRow b e 1 v n (List.replicate n (.int k z)):=by
  rw [← made_one];exact h

theorem owns_mono {w:World} {b b' e sz n:Nat} {v:Value} {cs:List Value} (h:w.ownsRow b e sz v n cs) (hb:b'≤b):w.ownsRow b' e sz v n cs:=by
  obtain ⟨hl,h⟩:=h;refine ⟨hl,h.imp id ?_⟩;rintro ⟨g,cap,cur,hv,hg,r⟩;exact ⟨g,cap,cur,hv,Nat.le_trans hb hg,r⟩
theorem owns_pos {w:World} {base e sz n:Nat} {v:Value} {cs:List Value} (h:w.ownsRow base e sz v n cs) (hn:0 < n):∃ g cap,v=.slice (some ⟨g,0,none⟩) n cap∧base≤g∧g < w.heap.size:=by
  obtain ⟨hl,h⟩:=h;rcases h with ⟨rfl,rfl⟩ | ⟨g,cap,cur,rfl,hb,hg,_⟩
  · omega
  · exact ⟨g,cap,rfl,hb,(Array.getElem?_eq_some_iff.1 hg).1⟩
/-- its length, for a loop's measure -/
def lenOf:Value→Nat | .slice _ n _=>n | _=>0
/-- a slice literal of plain cells -/
theorem owns_lit (w:World) (cs:List Value) (e sz n:Nat) (hl:cs.length=n*sz) (hn:n≤maxLen):(w.alloc (.cells cs.toArray e)).ownsRow w.heap.size e sz (.slice (some ⟨w.heap.size,0,none⟩) n n) n cs:=
  ⟨hl,.inr ⟨w.heap.size,n,cs.toArray,rfl,Nat.le_refl _,heap_alloc_new w _,Nat.le_refl _,hn,by simpa using hl,by rw [← hl];simp⟩⟩

/-- numbers as cells -/
abbrev U32 (n:Int):Value:=.int .u32 n

end
end Go.Proofs.YtdjgcenjonegjaaGreat
