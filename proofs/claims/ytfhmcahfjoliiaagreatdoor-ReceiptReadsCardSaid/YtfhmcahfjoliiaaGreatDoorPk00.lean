/- From a walk ("the law returns true, nothing below the old heap's end has turned") to the given row's contract: one lemma for every law, whatever its parameters. · The wrap of a row that lists variables: the contract is handed what they hold, the arguments' reach and the world's shape. · Words of our own for contracts: what a call returns, behind a name, so that the walk leaves it alone. -/
import Derived.Test.YtfhmcahfjoliiaaGreatDoorRows
import Derived.WalkKit
import Derived.ProofKit
import Derived.OpenShut
import Derived.SizedLaws
import Derived.Carry
import Derived.LaidMore
import Derived.Lay
import Derived.SevenTiedAt
import Derived.Stop.Joined
import Derived.HandedShaped
import Derived.Test.YtfhmcahfjoliiaaGreatDoorProg
import Derived.Lib.Hide
import Derived.WalkSpells
import Derived.WalkLawsBesides
import Derived.BigQuiet
import Derived.Deep.QuietTactic
set_option maxRecDepth 20000
set_option maxHeartbeats 8000000
set_option linter.unusedSimpArgs false
set_option linter.unusedVariables false
namespace Go.Proofs.YtfhmcahfjoliiaaGreatDoor
section
open Go.ChangeShapes Go.WideShapes Go.ChangeAt Go.RowKit

theorem own:ownKnob Tryz.prog.godebug=none:=by kernel_rfl
theorem laidOut:laidOutB Tryz.prog=true:=by kernel_rfl

/-- every parameter's type can be read and is a row of the table -/
def rowed (P:Program) (ts:List TypeId):Bool:=ts.all fun t=>P.readableRec t&&decide (t < P.types.size)

theorem trodAll_below {H:Type} {enc:TypeId×Value→H} {P:Program} (hl:laidOutB P=true) {W W':World} (hb:Below W.heap.size W W'):
    ∀ {ts:List TypeId} {vs:List Value} {ds:List (DataW H)} {ps:List MemPlace},rowed P ts=true→(∀ x∈ps,x.block < W.heap.size) →
      DataW.TrodAll enc P W 0 (fun _=>true) true ts vs ds ps→DataW.TrodAll enc P W' 0 (fun b=>decide (b < W.heap.size)) true ts vs ds ps
  | [],_,_,_,_,_,h=>by
    obtain ⟨rfl,rfl,rfl⟩:=trodAll_nil h
    exact trodAll_mk0
  | t::ts,_,_,_,hr,hlt,h=>by
    obtain ⟨v,vs1,d,ds1,p,q,rfl,rfl,rfl,h1,h2⟩:=trodAll_cons h
    simp only [rowed,List.all_cons,Bool.and_eq_true,decide_eq_true_eq] at hr
    refine ⟨p,q,Below.trod hl hr.1.1 hr.1.2 h1 hb (fun x hx=>hlt x (by simp [hx])),?_,rfl⟩
    exact trodAll_below hl hb (by simpa [rowed] using hr.2) (fun x hx=>hlt x (by simp [hx])) h2

theorem trodAll_len {H:Type} {enc:TypeId×Value→H} {P:Program} {W:World} {b:Nat} {sp:Nat→Bool} {hd:Bool}:
    ∀ {ts:List TypeId} {vs:List Value} {ds:List (DataW H)} {ps:List MemPlace},DataW.TrodAll enc P W b sp hd ts vs ds ps→ds.length=ts.length
  | [],_,_,_,h=>by
    obtain ⟨rfl,rfl,rfl⟩:=trodAll_nil h
    rfl
  | _::_,_,_,_,h=>by
    obtain ⟨v,vs1,d,ds1,p,q,rfl,rfl,rfl,h1,h2⟩:=trodAll_cons h
    simp [trodAll_len h2]

/-- The law's call returned true and nothing that was there has turned: so the row's 'post' holds. -/
theorem post_true {H:Type} {enc:TypeId×Value→H} {P:Program} {fn:Func} {s:ChangeSpec} {bt:TypeId}
    (hv:s.vars=[]) (hl:laidOutB P=true) (hr:rowed P fn.params.toList=true)
    (hb:P.underlying bt=some .bool) (hrt:fn.resultTypes=#[bt])
    (hfn:∀ ds:List (DataW H),ds.length=fn.params.size→s.fn H ds={ results:=[.lit (.bool true)],args:=ds })
    {W W':World} {args:Array Value} {ds gs:List (DataW H)} {before:List MemPlace} (hwhole:DataW.Whole enc P fn.params.toList s.vars false W args.toList ds gs before)
    (hbel:Below W.heap.size W W'):s.post enc P fn false true false false W args (.bool true) W':=by
  have hlt:=hwhole.lt;have hwhole0:=hwhole;obtain ⟨p,q,hA,hV,rfl,hfz,hnd⟩:=hwhole;rw [hv] at hV;obtain ⟨rfl,rfl⟩:=trodVars_none hV;have hds:ds.length=fn.params.size:=by simpa using trodAll_len hA
  have hs:s.fn H (ds++[])={ results:=[.lit (.bool true)],args:=ds }:=by rw [List.append_nil];exact hfn ds hds
  refine ⟨ds,[],p++[],[],p,[],hwhole0,?_,?_,?_,hbel.frame _,fun h=>by cases h⟩
  · rw [hs,hrt]
    exact trodAll_mk1 (shut_bool hb true)
  · rw [hs]
    exact trodAll_below hl hbel hr (fun x hx=>hlt x (by simp [hx])) hA
  · rw [hs,hv]
    exact rfl

end
section
open Go.ChangeShapes Go.WideShapes Go.ChangeAt Go.RowKit

theorem handed_all {H:Type} {enc:TypeId×Value→H} {C:Checked} {os:Os} {f:FuncId} {fn:Func} {s:ChangeSpec} {conds:List PathCond} {X:World→Prop}
    (hX:∀ w w':World,w.heap=w'.heap→X w→X w')
    (own:ownKnob C.prog.godebug=none) (started:os.Started) (noInit:C.prog.inits.idxOf? f=none) (hfn:C.prog.funcs[f]?=some fn)
    (witness:∃ (w:World) (tape:Tape) (i:Input),w.os=os∧(w.forCall tape i).Shaped C.prog∧i.vars=[]∧Input.okWide C.prog (w.forCall tape i) .any w.heap.size f i ∧
      ((s.pre enc C.prog fn conds false (w.forCall tape i).memory i.args∧X (w.forCall tape i).memory)∧sizedMet enc C.prog fn (OpenSpec.ofChange s) false (w.forCall tape i).memory i.args) ∧
      Assume.holds {} C.prog (lone (Frame.enter C.prog f i.args .normal) [] (w.forCall tape i)))
    (walk:∀ (W:World) (base:Nat) (args:Array Value) (ds gs:List (DataW H)) (before:List MemPlace),
      (∀ (j:Nat) t v,fn.params[j]?=some t→args[j]?=some v→Value.okWide C.prog W .any base t v) →
      DataW.Whole enc C.prog fn.params.toList s.vars false W args.toList ds gs before →
      (DataW.weightsEach C.prog (fn.params.toList++s.plain.varTypes C.prog) (ds++gs)).all (·≤reachBytes)=true→X W→W.ShapedOpen C.prog →
      Calls C.prog f args W fun e W'=>∃ v,e=.returned v∧s.post enc C.prog fn false true false false W args v W'):
    ReturnsInHanded {} C os f .any (fun w args=>(s.pre enc C.prog fn conds false w args∧X w)∧sizedMet enc C.prog fn (OpenSpec.ofChange s) false w args) (s.post enc C.prog fn false true false false):=by
  refine returnsInHanded_of_calls own started noInit witness fun w tape i _ hsh _ hok hpre _=>?_
  obtain ⟨_,_,_,fn',hfn',_,_,_,_,hval⟩:=hok;obtain rfl:fn'=fn:=Option.some.inj (hfn'.symm.trans hfn);have hq:(w.forCall tape i).memory.heap=(w.forCall tape i).heap:=rfl;refine (walk _ w.heap.size i.args _ _ _ hval (DataW.Whole.of_heap hq hpre.1.1.choose_spec.choose_spec.choose_spec.1) (hpre.2.weights hpre.1.1.choose_spec.choose_spec.choose_spec.1) (hX _ _ hq hpre.1.2) hsh).mono ?_;rintro _ W' ⟨v,rfl,hp⟩;exact ChangeSpec.post_blind hp
end
section
open Go.RowKit

/-- the call returns v; the world is as it was -/
def Pure (v:Value) (w:World) (e:Ending) (w':World):Prop:=e=.returned v∧w=w'
theorem Pure.intro {v v':Value} {w:World} (h:v'=v):Pure v w (.returned v') w:=⟨by rw [h],rfl⟩

/-- the call returns v; what was there is as it was -/
def Grew (v:Value) (w:World) (e:Ending) (w':World):Prop:=e=.returned v∧Below w.heap.size w w'
theorem Grew.intro {v v':Value} {w w':World} (h:v'=v) (hb:Below w.heap.size w w'):Grew v w (.returned v') w':=⟨by rw [h],hb⟩
theorem drewN_below {B:Nat} {a w:World} (h:Below B a w) (n:Nat):Below B a (w.drewN n):=⟨h.os,h.tape,h.output,h.size,h.block⟩

theorem Grew.grew {v:Value} {w w':World} {e:Ending} (h:Grew v w e w'):Grew v w e w':=h

theorem boxed_below (w:World) (o:Obj):Below w.heap.size w (w.alloc o):=(Below.refl _ _).alloc (Nat.le_refl _) _

theorem below_box {w w1:World} {o:Obj} (h:Below (w.alloc o).heap.size (w.alloc o) w1):Below w.heap.size w w1:=(boxed_below w o).trans (h.mono (by simp))

/-- an int -/
abbrev I (n:Int):Value:=.int .i64 n
/-- two, three, four results -/
abbrev T2 (a b:Value):Value:=.tuple #[a,b]
abbrev T3 (a b c:Value):Value:=.tuple #[a,b,c]
abbrev T4 (a b c d:Value):Value:=.tuple #[a,b,c,d]

theorem eI {a b:Int} (h:a=b):I a=I b:=by rw [h]
theorem eI2 {a b a' b':Int} (h:a=a') (k:b=b'):T2 (I a) (I b)=T2 (I a') (I b'):=by rw [h,k]
theorem eB {a b:Bool} (h:a=b):Value.bool a=Value.bool b:=by rw [h]

theorem below_auto {B:Nat} {a w:World} (h:Below B a w:=by repeat first | exact Below.refl _ _ | assumption | refine drewN_below ?_ _ | refine Below.alloc ?_ (by first | exact Nat.le_refl _ | exact Below.size (by assumption) | (simp;done) | (simp;omega) | omega) _ | refine Below.setCell ?_ (by first | exact Nat.le_refl _ | (simp;done) | (simp;omega) | omega) _):Below B a w:=h
theorem below_autor {B:Nat} {a w:World} (h:Below B a w:=by repeat first | with_reducible assumption | with_reducible exact Below.refl _ _ | with_reducible refine Below.setCell ?_ (by first | exact Nat.le_refl _ | exact Below.size (by assumption) | (simp;done) | (simp;omega) | omega) _ | with_reducible refine Below.alloc ?_ (by first | exact Nat.le_refl _ | exact Below.size (by assumption) | (simp;done) | (simp;omega) | omega) _ | with_reducible refine drewN_below ?_ _ | with_reducible refine Below.drew ?_):Below B a w:=h
end
end Go.Proofs.YtfhmcahfjoliiaaGreatDoor
