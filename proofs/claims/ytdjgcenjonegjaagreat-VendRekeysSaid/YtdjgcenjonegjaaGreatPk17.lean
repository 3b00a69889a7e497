/- account.Open and its reference · the book that events make: plain -/
import Derived.Test.YtdjgcenjonegjaaGreatPk06
import Derived.Test.YtdjgcenjonegjaaGreatPk02
import Derived.Test.YtdjgcenjonegjaaGreatPk05
import Derived.Test.YtdjgcenjonegjaaGreatSoldT
import Derived.Test.YtdjgcenjonegjaaGreatPk07
set_option maxRecDepth 20000
set_option maxHeartbeats 8000000
set_option linter.unusedSimpArgs false
set_option linter.unusedVariables false
namespace Go.Proofs.YtdjgcenjonegjaaGreat
section
open Go.RowKit

def openE (me:Int):Int:=if inB me 0 49 then 0 else 2
def openX (me:Int):AAcc:=if inB me 0 49 then ⟨me,0,1,0,0,-1⟩ else ⟨0,0,0,0,0,0⟩
theorem open_may (me:Int):accMay ⟨me,0,1,0,0,-1⟩ []=inB me 0 49:=by
  simp [accMay,debtE,inB]
theorem Open_any (me:Int) (w:World):Calls Tryz.prog 123 #[I me] w (GrewAcc (openX me) [] (openE me) w):=by
  have M:=Lib.hid (fun W=>may_any ⟨me,0,1,0,0,-1⟩ (.slice none 0 0) [] W (Sl.nil _ _));rw [open_may] at M;simp only at M;cases hi:inB me 0 49
  · have e1:openX me=⟨0,0,0,0,0,0⟩:=by simp [openX,hi]
    have e2:openE me=2:=by simp [openE,hi]
    rw [e1,e2];rw [hi] at M;clear e1 e2 hi;go_enter Tryz.func123,Tryz.ntmps123
    go_wp2_with fail
    refine (M.out _).mono ?_;rintro e w1 ⟨rfl,k1⟩;have dO:=((Own.new rfl [I 0,I 0,I 0,I 0,I 0,I 0,.slice none 0 0] 64).alloc _).below k1;have dA:=dO.s7;clear dO;have k:=below_box (below_box k1);clear k1;have r1:=set_same;have r2:=set_off;have r3:=set_blk;go_wp2;exact bodyPost_ret (v:=T2 (.agg #[I 0,I 0,I 0,I 0,I 0,I 0,.slice none 0 0]) (I 2)) (by simp [results,Tryz.results123,go_sem, *];try omega) rfl (⟨_,rfl,Sl.nil _ _,below_autor⟩)
  · have e1:openX me=⟨me,0,1,0,0,-1⟩:=by simp [openX,hi]
    have e2:openE me=0:=by simp [openE,hi]
    rw [e1,e2];rw [hi] at M;clear e1 e2 hi;go_enter Tryz.func123,Tryz.ntmps123
    go_wp2_with fail
    refine (M.out _).mono ?_;rintro e w1 ⟨rfl,k1⟩;have cO:=(Own.new (g:=w.heap.size+1) (by simp) [I me,I 0,I 1,I 0,I 0,I (-1),.slice none 0 0] 64).below k1;have cA:=cO.s7;clear cO;have dO:=((Own.new rfl [I 0,I 0,I 0,I 0,I 0,I 0,.slice none 0 0] 64).alloc _).below k1;have dA:=dO.s7;clear dO;have k:=below_box (below_box k1);clear k1;have r1:=set_same;have r2:=set_off;have r3:=set_blk;go_wp2;exact bodyPost_ret (v:=T2 (.agg #[I me,I 0,I 1,I 0,I 0,I (-1),.slice none 0 0]) (I 0)) (by simp [results,Tryz.results123,go_sem, *];try omega) rfl (⟨_,rfl,Sl.nil _ _,below_autor⟩)

theorem Opened_any (me:Int) (w:World):Calls Tryz.prog 98 #[I me] w (GrewAcc (openX me) [] (openE me) w):=by
  cases hi:inB me 0 49
  · have e1:openX me=⟨0,0,0,0,0,0⟩:=by simp [openX,hi]
    have e2:openE me=2:=by simp [openE,hi]
    rw [e1,e2];clear e1 e2;go_enter Tryz.func98,Tryz.ntmps98
    go_wp2_with (go_at_call 57;refine (In_any _ _ _ _).mono ?_;rintro e w' ⟨rfl,rfl⟩)
    exact bodyPost_ret (v:=T2 (.agg #[I 0,I 0,I 0,I 0,I 0,I 0,.slice none 0 0]) (I 2)) (by simp [results,Tryz.results98,go_sem, *];try omega) rfl (⟨_,rfl,Sl.nil _ _,below_autor⟩)
  · have e1:openX me=⟨me,0,1,0,0,-1⟩:=by simp [openX,hi]
    have e2:openE me=0:=by simp [openE,hi]
    rw [e1,e2];clear e1 e2;go_enter Tryz.func98,Tryz.ntmps98
    go_wp2_with (go_at_call 57;refine (In_any _ _ _ _).mono ?_;rintro e w' ⟨rfl,rfl⟩)
    exact bodyPost_ret (v:=T2 (.agg #[I me,I 0,I 1,I 0,I 0,I (-1),.slice none 0 0]) (I 0)) (by simp [results,Tryz.results98,go_sem, *];try omega) rfl (⟨_,rfl,Sl.nil _ _,below_autor⟩)
end
section
open Go Go.RowKit

/-- terms -/
structure PTerms where
  ts:List AStep
  f:Int
  b:Int
  d:Int
  al:Int
abbrev PTerms.v (t:PTerms) (tv:Value):Value:=.agg #[tv,I t.f,I t.b,I t.d,I t.al]
abbrev PTerms.E (t:PTerms):Int:=termsE t.ts t.f t.b t.d t.al
/-- a customer -/
structure PCust where
  acc:AAcc
  debts:List ADebt
  sold:List ASold
instance:Inhabited PCust:=⟨⟨⟨0,0,0,0,0,0⟩,[],[]⟩⟩
def AEvent.may (v:AEvent):Bool:=evMay v.kind v.meter v.month v.bill.id v.bill.tender v.bill.debt v.bill.fee v.bill.price v.bill.change v.bill.units v.tag v.debt.owed v.debt.bp

/-- what the account answers to what was sold -/
def ansE (t:PTerms) (c:PCust) (v:AEvent):Int:=
  if v.kind=2 then soldE c.acc c.debts t.ts t.f t.b t.d t.al v.bill.tender v.month else if v.kind=3 then grantE c.acc c.debts t.ts t.f t.b t.d t.al v.month else rekeyE c.acc c.debts
def ansX (t:PTerms) (c:PCust) (v:AEvent):AAcc:=
  if v.kind=2 then soldX c.acc c.debts t.ts t.f t.b t.d v.bill.tender v.month (ansE t c v) else if v.kind=3 then grantX c.acc v.month (ansE t c v) else rekeyX c.acc c.debts
def ansL (t:PTerms) (c:PCust) (v:AEvent):List ADebt:=
  if v.kind=2 then soldL c.acc c.debts t.d v.bill.tender v.month (ansE t c v) else if v.kind=3 then grantL c.acc c.debts v.month (ansE t c v) else rekeyL c.acc c.debts
def ansB (t:PTerms) (c:PCust) (v:AEvent):ABill:=
  if v.kind=2 then soldB c.acc c.debts t.ts t.f t.b t.d v.bill.tender v.month (ansE t c v) else if v.kind=3 then grantB c.acc t.al (ansE t c v) else rekeyB c.acc c.debts
/-- what is noted as sold -/
def noted (c:PCust) (v:AEvent):ASold:=⟨v.bill.id,if v.kind=4 then 2 else 0,if v.kind=4 then c.acc.rev+1 else v.bill.units,v.tag,c.acc.rev⟩
def sellsE (t:PTerms) (c:PCust) (v:AEvent):Int:=if ansE t c v=0 then (if ansB t c v=v.bill then 0 else 8) else ansE t c v
/-- what comes of an event at a customer -/
def hapE (t:PTerms) (c:PCust) (v:AEvent):Int:=if v.kind=5 then oweE c.acc c.debts v.debt else sellsE t c v
def hapC (t:PTerms) (c:PCust) (v:AEvent):PCust:=if v.kind=5 then ⟨oweX c.acc c.debts v.debt,oweL c.acc c.debts v.debt,c.sold⟩ else ⟨ansX t c v,ansL t c v,c.sold++[noted c v]⟩
def idxOf (cs:List PCust) (me:Int):Int:=findI me (cs.map fun c=>c.acc.meter) 0
/-- the code of an event, and the book behind it -/
def evE (t:PTerms) (cs:List PCust) (v:AEvent):Int:=
  if v.may then (if v.kind=1 then (if 0≤idxOf cs v.meter then 21 else 0) else if 0≤idxOf cs v.meter then hapE t (cs.getD (idxOf cs v.meter).toNat default) v else 18) else 5
def evC (t:PTerms) (cs:List PCust) (v:AEvent):List PCust:=
  if v.kind=1 then cs++[⟨openX v.meter,[],[]⟩] else cs.set (idxOf cs v.meter).toNat (hapC t (cs.getD (idxOf cs v.meter).toNat default) v)
/-- the events from a place on: code, place, book -/
def runB (t:PTerms):List PCust→List AEvent→Nat→Int×Nat×List PCust
  | cs,[],_=>(0,0,cs)
  | cs,v::vs,i=>if evE t cs v=0 then runB t (evC t cs v) vs (i+1) else (evE t cs v,i,[])
def bookR (t:PTerms) (l:List AEvent):Int×Nat×List PCust:=if t.E=0 then (if 120 < l.length then (1,0,[]) else runB t [] l 0) else (t.E,0,[])

theorem may_kind {v:AEvent} (h:v.may=true):v.kind=1∨v.kind=2∨v.kind=3∨v.kind=4∨v.kind=5:=by
  unfold AEvent.may evMay at h;rw [Bool.and_eq_true] at h;obtain ⟨-,h⟩:=h
  (repeat' split at h)<;>first | omega | (cases h)
theorem may_meter0 {v:AEvent} (h:v.may=true):0≤v.meter∧v.meter≤49:=by
  unfold AEvent.may evMay at h;rw [Bool.and_eq_true,inB_true] at h;exact h.1
/-- an event keeps its customer's meter -/
theorem hap_meter {t : PTerms} {c : PCust} {v : AEvent} (h : hapE t c v = 0) : (hapC t c v).acc.meter = c.acc.meter := by
  unfold hapE at h;unfold hapC
  split
  · rename_i h5
    rw [if_pos h5] at h;simp only [oweX,h,if_pos]
  · rename_i h5
    rw [if_neg h5] at h
    have h0:ansE t c v=0:=by
      unfold sellsE at h
      split at h
      · assumption
      · exact h
    show (ansX t c v).meter=_;unfold ansX
    split
    · rw [soldX,if_pos h0]
    · rename_i h2
      split
      · rw [grantX,if_pos h0]
      · rename_i h3
        unfold ansE at h0;rw [if_neg h2,if_neg h3] at h0;rw [rekeyX,if_pos h0]
theorem runB_bad {t:PTerms} {cs:List PCust} {v:AEvent} {vs:List AEvent} {i:Nat} (h:evE t cs v≠0):runB t cs (v::vs) i=(evE t cs v,i,[]):=by rw [runB,if_neg h]
theorem runB_go {t:PTerms} {cs:List PCust} {v:AEvent} {vs:List AEvent} {i:Nat} (h:evE t cs v=0):runB t cs (v::vs) i=runB t (evC t cs v) vs (i+1):=by rw [runB,if_pos h]

/-! the book in memory -/

/-- a customer's cells -/
def ofCust (c:PCust) (da:Option Addr) (dc:Nat) (sa:Option Addr) (sc:Nat):ACust:=⟨c.acc.meter,c.acc.rev,c.acc.next,c.acc.month,c.acc.bought,c.acc.free,da,c.debts.length,dc,sa,c.sold.length,sc⟩
/-- the blocks that a customer's two lists lie in -/
def dBlk (x:ACust):Option Nat:=if 0 < x.dn then x.da.map (·.block) else none
def sBlk (x:ACust):Option Nat:=x.sa.map (·.block)
/-- a customer as it lies; what it was sold in a block of its own -/
def CRep (W:World) (B:Nat) (x:ACust) (c:PCust):Prop:=
  x=ofCust c x.da x.dc x.sa x.sc∧Sl W (.slice x.da x.dn x.dc) 2 c.debts.length (c.debts.flatMap ADebt.cells)∧W.ownsRow B 69 5 (.slice x.sa x.sn x.sc) c.sold.length (c.sold.flatMap ASold.cells)
/-- no two of a book's blocks are the same, but for lists of debts -/
def Apart (B:Nat) (o:Option Nat) (xs:List ACust):Prop:=
  ∀ k,k < xs.length→∀ z,(dBlk (xs.getD k default)=some z→B≤z∧o≠some z∧∀ j,j < xs.length→sBlk (xs.getD j default)≠some z)∧(sBlk (xs.getD k default)=some z→o≠some z∧∀ j,j < xs.length→j≠k→sBlk (xs.getD j default)≠some z)
def BookAt (W:World) (B:Nat) (v:Value) (cs:List PCust) (xs:List ACust):Prop:=
  xs.length=cs.length∧W.ownsRow B 67 8 v cs.length (xs.flatMap ACust.cells)∧(∀ k,k < cs.length→CRep W B (xs.getD k default) (cs.getD k default))∧Apart B v.ownBlock xs
theorem BookAt.nil (W:World) (B:Nat):BookAt W B (.slice none 0 0) [] []:=⟨rfl,World.ownsRow_nil _ _ _ _,fun k hk=>absurd hk (by simp),fun k hk=>absurd hk (by simp)⟩
theorem CRep.below {W W':World} {B:Nat} {x:ACust} {c:PCust} (h:CRep W B x c) (hb:Below W.heap.size W W'):CRep W' B x c:=⟨h.1,h.2.1.below hb,owns_below h.2.2 hb⟩
theorem BookAt.below {W W':World} {B:Nat} {v:Value} {cs:List PCust} {xs:List ACust} (h:BookAt W B v cs xs) (hb:Below W.heap.size W W'):BookAt W' B v cs xs:=
  ⟨h.1,owns_below h.2.1 hb,fun k hk=>(h.2.2.1 k hk).below hb,h.2.2.2⟩
theorem CRep.sblk {W:World} {B:Nat} {x:ACust} {c:PCust} (h:CRep W B x c) {z:Nat} (hz:sBlk x=some z):B≤z∧z < W.heap.size:=by
  refine h.2.2.lt z ?_;unfold sBlk at hz;cases hs:x.sa with
  | none=>rw [hs] at hz;cases hz
  | some a=>rw [hs] at hz;exact hz
theorem CRep.dblk {W:World} {B:Nat} {x:ACust} {c:PCust} (h:CRep W B x c) {z:Nat} (hz:dBlk x=some z):z < W.heap.size:=by
  obtain ⟨hx,⟨a,cap,hv,hn,hl,h0,hr⟩,-⟩:=h;unfold dBlk at hz;have e:x.dn=c.debts.length:=by rw [hx];rfl
  split at hz
  · rename_i hp
    injection hv with e1 e2 e3
    rcases hr with hr | ⟨b,off,hb,hbl,-⟩
    · omega
    · rw [e1,hb] at hz
      injection hz with hz
      rw [← hz];exact hbl
  · cases hz
/-- unchanged where its blocks are unchanged -/
theorem sl_heap {W W':World} {v:Value} {sz n:Nat} {cs:List Value} (h:Sl W v sz n cs) (hs:W.heap.size≤W'.heap.size) (hh:∀ a m c,v=.slice (some a) m c→0 < n→W'.heap[a.block]?=W.heap[a.block]?):Sl W' v sz n cs:=by
  obtain ⟨a,cap,rfl,hn,hl,h0,hr⟩:=h;refine ⟨a,cap,rfl,hn,hl,h0,?_⟩;rcases hr with hr | ⟨b,off,rfl,hbl,hc⟩
  · exact .inl hr
  · by_cases hp:0 < n
    · have hb:=hh _ _ _ rfl hp
      exact .inr ⟨b,off,rfl,by omega,fun j hj=>(World.cell?_of_block (a:=⟨b,off+j,none⟩) hb).trans (hc j hj)⟩
    · exact .inl (by omega)
theorem owns_heap {W W':World} {base e sz n:Nat} {v:Value} {cs:List Value} (h:W.ownsRow base e sz v n cs) (hh:∀ z,v.ownBlock=some z→W'.heap[z]?=W.heap[z]?):W'.ownsRow base e sz v n cs:=by
  obtain ⟨h1,h2⟩:=h;refine ⟨h1,?_⟩;rcases h2 with h2 | ⟨g,cap,cur,rfl,hg,hc,r⟩
  · exact .inl h2
  · exact .inr ⟨g,cap,cur,rfl,hg,(hh g rfl).trans hc,r⟩
theorem CRep.heap {W W':World} {B:Nat} {x:ACust} {c:PCust} (h:CRep W B x c) (hs:W.heap.size≤W'.heap.size) (hd:∀ z,dBlk x=some z→W'.heap[z]?=W.heap[z]?) (hso:∀ z,sBlk x=some z→W'.heap[z]?=W.heap[z]?):CRep W' B x c:=by
  have e:x.dn=c.debts.length:=by rw [h.1];rfl
  refine ⟨h.1,sl_heap h.2.1 hs fun a m cc hv hp=>hd a.block ?_,owns_heap h.2.2 fun z hz=>hso z ?_⟩
  · injection hv with e1 e2 e3
    unfold dBlk;rw [if_pos (by omega),e1]
    rfl
  · unfold sBlk
    cases hsa:x.sa with
    | none=>rw [hsa] at hz;cases hz
    | some a=>rw [hsa] at hz;exact hz
theorem getD_set_self {α:Type} (l:List α) (k:Nat) (x d:α) (h:k < l.length):(l.set k x).getD k d=x:=by
  rw [List.getD_eq_getElem?_getD,List.getElem?_set_self h];rfl
theorem getD_set_other {α:Type} (l:List α) (j k:Nat) (x d:α) (h:k≠j):(l.set k x).getD j d=l.getD j d:=by
  rw [List.getD_eq_getElem?_getD,List.getD_eq_getElem?_getD,List.getElem?_set_ne h]
/-- a customer is turned in place: only the book's own row, and what he was sold, may have changed -/
theorem BookAt.set {W W' : World} {B : Nat} {v : Value} {cs : List PCust} {xs : List ACust} (h : BookAt W B v cs xs) (hB : B ≤ W.heap.size) {k : Nat} (hk : k < cs.length) {x : ACust} {c : PCust}
    (hs:W.heap.size≤W'.heap.size) (hh:∀ z,z < W.heap.size→some z≠v.ownBlock→some z≠sBlk (xs.getD k default)→W'.heap[z]?=W.heap[z]?)
    (hrow:W'.ownsRow B 67 8 v cs.length ((xs.set k x).flatMap ACust.cells)) (hc:CRep W' B x c)
    (hd:∀ z,dBlk x=some z→W.heap.size≤z∧sBlk x≠some z) (hso:∀ z,sBlk x=some z→sBlk (xs.getD k default)=some z∨W.heap.size≤z):
    BookAt W' B v (cs.set k c) (xs.set k x):=by
  obtain ⟨h1,h2,h3,h4⟩:=h;have hkx:k < xs.length:=by omega
  refine ⟨by simp [h1],by rw [List.length_set];exact hrow,?_,?_⟩
  · intro j hj
    rw [List.length_set] at hj
    by_cases e:k=j
    · subst e
      rw [getD_set_self _ _ _ _ hkx,getD_set_self _ _ _ _ hk];exact hc
    · rw [getD_set_other _ _ _ _ _ e,getD_set_other _ _ _ _ _ e]
      refine (h3 j hj).heap hs (fun z hz=>?_) (fun z hz=>?_)
      · obtain ⟨-,a1,a2⟩:=(h4 j (by omega) z).1 hz
        exact hh z ((h3 j hj).dblk hz) (fun e=>a1 e.symm) (fun e=>a2 k hkx e.symm)
      · obtain ⟨a1,a2⟩:=(h4 j (by omega) z).2 hz
        exact hh z ((h3 j hj).sblk hz).2 (fun e=>a1 e.symm) (fun e2=>a2 k hkx e e2.symm)
  · intro j hj z
    rw [List.length_set] at hj;have hv:∀ z,v.ownBlock=some z→z < W.heap.size:=fun z hz=>(h2.lt z hz).2
    by_cases e:k=j
    · subst e
      rw [getD_set_self _ _ _ _ hkx]
      constructor
      · intro hz
        obtain ⟨b1,b2⟩:=hd z hz;refine ⟨by omega,fun e=>by have:=hv z e;omega,fun i hi=>?_⟩
        rw [List.length_set] at hi
        by_cases ei:k=i
        · subst ei;rw [getD_set_self _ _ _ _ hkx];exact b2
        · rw [getD_set_other _ _ _ _ _ ei]
          intro e;have:=((h3 i (by omega)).sblk e).2;omega
      · intro hz
        rcases hso z hz with hz2 | hz2
        · obtain ⟨a1,a2⟩:=(h4 k hkx z).2 hz2
          refine ⟨a1,fun i hi hik=>?_⟩
          rw [List.length_set] at hi;rw [getD_set_other _ _ _ _ _ (fun e=>hik e.symm)];exact a2 i hi hik
        · refine ⟨fun e=>by have:=hv z e;omega,fun i hi hik=>?_⟩
          rw [List.length_set] at hi;rw [getD_set_other _ _ _ _ _ (fun e=>hik e.symm)];intro e;have:=((h3 i (by omega)).sblk e).2;omega
    · rw [getD_set_other _ _ _ _ _ e]
      constructor
      · intro hz
        obtain ⟨a0,a1,a2⟩:=(h4 j hj z).1 hz;refine ⟨a0,a1,fun i hi=>?_⟩
        rw [List.length_set] at hi
        by_cases ei:k=i
        · subst ei
          rw [getD_set_self _ _ _ _ hkx];intro e2;rcases hso z e2 with hz2 | hz2
          · exact a2 k hkx hz2
          · have:=(h3 j (by omega)).dblk hz;omega
        · rw [getD_set_other _ _ _ _ _ ei];exact a2 i hi
      · intro hz
        obtain ⟨a1,a2⟩:=(h4 j hj z).2 hz;refine ⟨a1,fun i hi hij=>?_⟩
        rw [List.length_set] at hi
        by_cases ei:k=i
        · subst ei
          rw [getD_set_self _ _ _ _ hkx];intro e2;rcases hso z e2 with hz2 | hz2
          · exact a2 k hkx hij hz2
          · have:=((h3 j (by omega)).sblk hz).2;omega
        · rw [getD_set_other _ _ _ _ _ ei];exact a2 i hi hij
/-- a customer comes in behind -/
theorem BookAt.snoc {W W' : World} {B g cap : Nat} {v : Value} {cs : List PCust} {xs : List ACust} (h : BookAt W B v cs xs) {x : ACust} {c : PCust}
    (hrow:W'.ownsRow B 67 8 (.slice (some ⟨g,0,none⟩) (cs.length+1) cap) (cs.length+1) ((xs++[x]).flatMap ACust.cells)) (hgrow:W.grownBy W' v.ownBlock) (hg:v.ownBlock=some g∨g=W.heap.size)
    (hc:CRep W' B x c) (hd:dBlk x=none) (hso:sBlk x=none):
    BookAt W' B (.slice (some ⟨g,0,none⟩) (cs.length+1) cap) (cs++[c]) (xs++[x]):=by
  obtain ⟨h1,h2,h3,h4⟩:=h
  have old:∀ {α:Type} (l:List α) (y d:α) (j:Nat),j < l.length→(l++[y]).getD j d=l.getD j d:=fun l y d j hj=>by
    rw [List.getD_eq_getElem?_getD,List.getD_eq_getElem?_getD,List.getElem?_append_left hj]
  have new:∀ {α:Type} (l:List α) (y d:α) (j:Nat),j=l.length→(l++[y]).getD j d=y:=fun l y d j hj=>by
    rw [List.getD_eq_getElem?_getD,List.getElem?_append_right (by omega),hj,Nat.sub_self];rfl
  refine ⟨by simp [h1],by rw [List.length_append];exact hrow,?_,?_⟩
  · intro j hj
    rw [List.length_append,List.length_singleton] at hj
    by_cases e:j < cs.length
    · rw [old _ _ _ _ e,old _ _ _ _ (by omega)]
      refine (h3 j e).heap hgrow.size (fun z hz=>?_) (fun z hz=>?_)
      · exact hgrow.block z ((h3 j e).dblk hz) (fun e2=>((h4 j (by omega) z).1 hz).2.1 e2.symm)
      · exact hgrow.block z ((h3 j e).sblk hz).2 (fun e2=>((h4 j (by omega) z).2 hz).1 e2.symm)
    · rw [new _ _ _ _ (by omega),new _ _ _ _ (by omega)]
      exact hc
  · intro j hj z
    rw [List.length_append,List.length_singleton] at hj
    have hgv:∀ z,z < W.heap.size→v.ownBlock≠some z→(Value.slice (some ⟨g,0,none⟩) (cs.length+1) cap).ownBlock≠some z:=fun z hz hv e=>by
      injection e with e
      have e:g=z:=e;subst e;rcases hg with hg | hg
      · exact hv hg
      · omega
    by_cases e:j < xs.length
    · rw [old _ _ _ _ e]
      constructor
      · intro hz
        obtain ⟨a0,a1,a2⟩:=(h4 j e z).1 hz;refine ⟨a0,hgv z ((h3 j (by omega)).dblk hz) a1,fun i hi=>?_⟩
        rw [List.length_append,List.length_singleton] at hi
        by_cases ei:i < xs.length
        · rw [old _ _ _ _ ei];exact a2 i ei
        · rw [new _ _ _ _ (by omega),hso];intro e;cases e
      · intro hz
        obtain ⟨a1,a2⟩:=(h4 j e z).2 hz;refine ⟨hgv z ((h3 j (by omega)).sblk hz).2 a1,fun i hi hij=>?_⟩
        rw [List.length_append,List.length_singleton] at hi
        by_cases ei:i < xs.length
        · rw [old _ _ _ _ ei];exact a2 i ei hij
        · rw [new _ _ _ _ (by omega),hso];intro e;cases e
    · rw [new _ _ _ _ (by omega),hd,hso]
      exact ⟨fun e=>(by cases e),fun e=>(by cases e)⟩
/-- a store below the book -/
theorem BookAt.low {W:World} {B:Nat} {v:Value} {cs:List PCust} {xs:List ACust} (h:BookAt W B v cs xs) {z:Nat} (hz:z < B) (j:Nat) (x:Value):BookAt (W.setCell ⟨z,j,none⟩ x) B v cs xs:=by
  obtain ⟨h1,h2,h3,h4⟩:=h;have hh:∀ k,k≠z→(W.setCell ⟨z,j,none⟩ x).heap[k]?=W.heap[k]?:=fun k hk=>by simp [World.setCell,Array.getElem?_modify,show ¬ z=k by omega]
  refine ⟨h1,ownsRow_setCell_below h2 (a:=⟨z,j,none⟩) hz x,fun k hk=>(h3 k hk).heap (by simp [World.setCell]) (fun q hq=>hh q ?_) (fun q hq=>hh q ?_),h4⟩
  · have:=((h4 k (by omega) q).1 hq).1;omega
  · have:=((h3 k hk).sblk hq).1;omega
/-- the meters as the book has them -/
theorem book_meters {W:World} {B:Nat} {v:Value} {cs:List PCust} {xs:List ACust} (h:BookAt W B v cs xs):xs.map ACust.meter=cs.map fun c=>c.acc.meter:=by
  obtain ⟨h1,-,h3,-⟩:=h;apply List.ext_getElem
  · simp [h1]
  · intro i hi hi'
    simp only [List.length_map] at hi hi';have:=(h3 i hi').1;rw [List.getElem_map,List.getElem_map];have e1:xs.getD i default=xs[i]:=by rw [List.getD_eq_getElem?_getD,List.getElem?_eq_getElem hi];rfl
    have e2:cs.getD i default=cs[i]:=by rw [List.getD_eq_getElem?_getD,List.getElem?_eq_getElem hi'];rfl
    rw [e1,e2] at this;rw [this]
    rfl
theorem book_found {W:World} {B:Nat} {v:Value} {cs:List PCust} {xs:List ACust} (h:BookAt W B v cs xs) (me:Int):foundAt xs me=idxOf cs me:=by
  unfold foundAt idxOf;rw [book_meters h]
theorem BookAt.sl {W:World} {B:Nat} {v:Value} {cs:List PCust} {xs:List ACust} (h:BookAt W B v cs xs) (hn:cs.length≤281474976710656):Sl W v 8 xs.length (xs.flatMap ACust.cells):=by
  have:=Sl.of_owns h.2.1 hn;rw [h.1];exact this
theorem idxOf_bd (cs:List PCust) (me:Int):idxOf cs me=-1∨(0≤idxOf cs me∧idxOf cs me < (cs.length:Int)):=by
  have:=findI_bd (me:=me) (cs.map fun c=>c.acc.meter) 0;simp only [List.length_map,Nat.zero_add] at this;exact this
/-- a store into the row that a slice is -/
theorem owns_store {W:World} {base e sz n m g cap:Nat} {cs:List Value} (h:W.ownsRow base e sz (.slice (some ⟨g,0,none⟩) m cap) n cs) (j:Nat) (x:Value):(W.setCell ⟨g,j,none⟩ x).ownsRow base e sz (.slice (some ⟨g,0,none⟩) m cap) n (cs.set j x):=by
  obtain ⟨h1,h2⟩:=h;refine ⟨by rw [List.length_set];exact h1,?_⟩;rcases h2 with ⟨h2,-⟩ | ⟨g',cap',cur,hv,hb,hg,hn,hm,hs,ht⟩
  · cases h2
  · cases hv
    have hlt:=(Array.getElem?_eq_some_iff.1 hg).1;refine .inr ⟨g,cap,cur.setIfInBounds j x,rfl,hb,?_,hn,hm,by rw [Array.size_setIfInBounds];exact hs,?_⟩
    · simp [World.setCell,Array.getElem?_modify,hg]
    · rw [← ht,Array.toList_setIfInBounds,List.take_set]
/-- the eight cells of a customer are written -/
theorem flat_set8 {xs:List ACust} {k:Nat} (hk:k < xs.length) (x:ACust):((((((((xs.flatMap ACust.cells).set (k*8) (I x.meter)).set (k*8+1) (I x.rev)).set (k*8+2) (I x.next)).set (k*8+3) (I x.month)).set (k*8+4) (I x.bought)).set (k*8+5) (I x.free)).set (k*8+6) (.slice x.da x.dn x.dc)).set (k*8+7) (.slice x.sa x.sn x.sc)=(xs.set k x).flatMap ACust.cells:=by
  have hl:∀ ys:List ACust,(ys.flatMap ACust.cells).length=ys.length*8:=fun ys=>length_flat _ 8 ACust.cells_len ys;apply List.ext_getElem?;intro i
  by_cases hi:i < xs.length*8
  · have hq:i / 8 < xs.length:=by omega
    have hr:i%8 < 8:=Nat.mod_lt _ (by decide);have e1:=getD_flat ACust.cells 8 ACust.cells_len (xs.set k x) (i / 8) (i%8) (by rw [List.length_set];exact hq) hr;have e2:=getD_flat ACust.cells 8 ACust.cells_len xs (i / 8) (i%8) hq hr;rw [show i / 8*8+i%8=i by omega] at e1 e2;have some1:∀ (l:List Value),i < l.length→l[i]?=some (l.getD i undef):=fun l h=>by rw [List.getD_eq_getElem?_getD,List.getElem?_eq_getElem h];rfl
    rw [some1 ((xs.set k x).flatMap ACust.cells) (by rw [hl,List.length_set];exact hi),e1]
    by_cases e:i / 8=k
    · rw [e,getD_set_self _ _ _ _ hk]
      obtain ⟨r,hr8,rfl⟩:∃ r,r < 8∧i=k*8+r:=⟨i%8,hr,by omega⟩;rw [show (k*8+r)%8=r by omega];have hlen:=hl xs
      match r,hr8 with
      | 0,_=>simp [List.getElem?_set,ACust.cells,hlen];omega
      | 1,_=>simp [List.getElem?_set,ACust.cells,hlen];omega
      | 2,_=>simp [List.getElem?_set,ACust.cells,hlen];omega
      | 3,_=>simp [List.getElem?_set,ACust.cells,hlen];omega
      | 4,_=>simp [List.getElem?_set,ACust.cells,hlen];omega
      | 5,_=>simp [List.getElem?_set,ACust.cells,hlen];omega
      | 6,_=>simp [List.getElem?_set,ACust.cells,hlen];omega
      | 7,_=>simp [List.getElem?_set,ACust.cells,hlen];omega
    · rw [getD_set_other _ _ _ _ _ (fun e2=>e e2.symm),← e2,← some1 _ (by rw [hl];exact hi)]
      have:∀ r,r < 8→k*8+r≠i:=fun r hr=>by omega
      rw [List.getElem?_set_ne (this 7 (by decide)),List.getElem?_set_ne (this 6 (by decide)),List.getElem?_set_ne (this 5 (by decide)),List.getElem?_set_ne (this 4 (by decide)),List.getElem?_set_ne (this 3 (by decide)),List.getElem?_set_ne (this 2 (by decide)),List.getElem?_set_ne (this 1 (by decide)),List.getElem?_set_ne (by have:=this 0 (by decide);omega)]
  · have e1:((xs.set k x).flatMap ACust.cells).length≤i:=by rw [hl,List.length_set];omega
    rw [List.getElem?_eq_none e1];apply List.getElem?_eq_none;simp only [List.length_set,hl];omega
end
end Go.Proofs.YtdjgcenjonegjaaGreat
