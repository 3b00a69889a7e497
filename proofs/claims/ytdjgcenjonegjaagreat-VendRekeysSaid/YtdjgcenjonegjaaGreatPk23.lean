/- steps of a book in memory: what both sides' loops want · a book's bounds: plain · disk: the tape, program and reference, as far as where the next record goes · disk: the walk over a tape, program and reference -/
import Derived.Test.YtdjgcenjonegjaaGreatPk22
import Derived.Test.YtdjgcenjonegjaaGreatPk17
import Derived.Test.YtdjgcenjonegjaaGreatPk01
import Derived.Test.YtdjgcenjonegjaaGreatPk02
import Derived.Test.YtdjgcenjonegjaaGreatPk08
set_option maxRecDepth 20000
set_option maxHeartbeats 8000000
set_option linter.unusedSimpArgs false
set_option linter.unusedVariables false
namespace Go.Proofs.YtdjgcenjonegjaaGreat
section
open Go Go.RowKit

theorem elEv {w W:World} {b off:Nat} {xs:List AEvent} (hb:b < w.heap.size) (hc:∀ j,j < (xs.flatMap AEvent.cells).length→w.cell? ⟨b,off+j,none⟩=some ((xs.flatMap AEvent.cells).getD j undef)) (hbw:Below w.heap.size w W) (k:Nat) (hk:k < xs.length):
    ∀ i,i < 13→W.cell? ⟨b,off+k*13+i,none⟩=some ((xs.getD k default).cells.getD i undef):=by
  intro i hi;have:=(hbw.cell (p:=⟨b,off+(k*13+i),none⟩) hb).trans (hc (k*13+i) (by rw [length_flat _ 13 AEvent.cells_len];exact pos_lt hk hi));rw [getD_flat _ 13 AEvent.cells_len _ _ _ hk hi] at this;rw [Nat.add_assoc];exact this
theorem info_custs:(Tryz.prog.info? 67).map (fun i=>(i.zero,i.size,i.bytes))=some (some (.agg #[.int .i64 0,.int .i64 0,.int .i64 0,.int .i64 0,.int .i64 0,.int .i64 0,.slice none 0 0,.slice none 0 0]),8,96):=by kernel_rfl
theorem CRep.mono {W:World} {B C:Nat} {x:ACust} {c:PCust} (h:CRep W B x c) (hC:C≤B):CRep W C x c:=⟨h.1,h.2.1,owns_mono h.2.2 hC⟩
theorem BookAt.mono {W:World} {B C:Nat} {v:Value} {cs:List PCust} {xs:List ACust} (h:BookAt W B v cs xs) (hC:C≤B):BookAt W C v cs xs:=
  ⟨h.1,owns_mono h.2.1 hC,fun k hk=>(h.2.2.1 k hk).mono hC,fun k hk z=>⟨fun hz=>⟨Nat.le_trans hC ((h.2.2.2 k hk z).1 hz).1,((h.2.2.2 k hk z).1 hz).2⟩,(h.2.2.2 k hk z).2⟩⟩
/-- what comes back: a book in new memory, a place, a code -/
def BookP (t:PTerms) (l:List AEvent) (w:World) (e:Ending) (w':World):Prop:=
  ∃ v xs,e=.returned (T3 (.agg #[v]) (I ((bookR t l).2.1:Nat)) (I (bookR t l).1))∧BookAt w' w.heap.size v (bookR t l).2.2 xs∧Below w.heap.size w w'
theorem BookP.bad {t:PTerms} {l:List AEvent} {w w':World} {E:Int} {k:Nat} (h:bookR t l=(E,k,[])) (kw:Below w.heap.size w w'):BookP t l w (.returned (T3 (.agg #[.slice none 0 0]) (I (k:Nat)) (I E))) w':=by
  unfold BookP;rw [h];exact ⟨_,[],rfl,BookAt.nil _ _,kw⟩
theorem BookP.good {t:PTerms} {l:List AEvent} {w w':World} {v:Value} {B:Nat} {cs:List PCust} {xs:List ACust} (h:bookR t l=(0,0,cs)) (hB:BookAt w' B v cs xs) (hw:w.heap.size≤B) (kw:Below w.heap.size w w'):BookP t l w (.returned (T3 (.agg #[v]) (I 0) (I 0))) w':=by
  unfold BookP;rw [h];exact ⟨_,xs,rfl,hB.mono hw,kw⟩
theorem bookR_terms {t:PTerms} {l:List AEvent} (h:t.E≠0):bookR t l=(t.E,0,[]):=by unfold bookR;rw [if_neg h]
theorem bookR_size {t:PTerms} {l:List AEvent} (h:t.E=0) (h2:120 < l.length):bookR t l=(1,0,[]):=by unfold bookR;rw [if_pos h,if_pos h2]
theorem bookR_run {t:PTerms} {l:List AEvent} (h:t.E=0) (h2:¬ 120 < l.length):bookR t l=runB t [] l 0:=by unfold bookR;rw [if_pos h,if_neg h2]
theorem drop_at {α:Type} [Inhabited α] {l:List α} {k:Nat} (h:k < l.length):l.drop k=l.getD k default::l.drop (k+1):=by
  rw [List.drop_eq_getElem_cons h,List.getD_eq_getElem?_getD,List.getElem?_eq_getElem h];rfl
theorem HapG.pre {B:Nat} {y:ACust} {c:PCust} {so:Option Nat} {w P w':World} (h:HapG B y c so P w') (hb:Below w.heap.size w P):HapG B y c so w w':=by
  obtain ⟨h1,h2,h3,h4⟩:=h;exact ⟨h1,fun z hz=>⟨Nat.le_trans hb.size (h2 z hz).1,(h2 z hz).2⟩,fun z hz=>(h3 z hz).imp _root_.id (fun h=>Nat.le_trans hb.size h),grown_pre h4 hb⟩
theorem HapG.post {B:Nat} {y:ACust} {c:PCust} {so:Option Nat} {w w' w'':World} (h:HapG B y c so w w') (hb:Below w'.heap.size w' w''):HapG B y c so w w'':=by
  obtain ⟨h1,h2,h3,h4⟩:=h;exact ⟨h1.below hb,h2,h3,hb.os.trans h4.os,hb.tape.trans h4.tape,hb.output.trans h4.output,Nat.le_trans h4.size hb.size,fun k hk hr=>(hb.block k (Nat.lt_of_lt_of_le hk h4.size)).trans (h4.block k hk hr)⟩
theorem grown_post {w w' w'':World} {so:Option Nat} (h4:w.grownBy w' so) (hb:Below w'.heap.size w' w''):w.grownBy w'' so:=
  ⟨hb.os.trans h4.os,hb.tape.trans h4.tape,hb.output.trans h4.output,Nat.le_trans h4.size hb.size,fun k hk hr=>(hb.block k (Nat.lt_of_lt_of_le hk h4.size)).trans (h4.block k hk hr)⟩
theorem grown_store {w w':World} {row:Option Nat} (h:w.grownBy w' row) {z:Nat} (hz:w.heap.size≤z) (j:Nat) (x:Value):w.grownBy (w'.setCell ⟨z,j,none⟩ x) row:=
  ⟨h.os,h.tape,h.output,by simp [World.setCell];exact h.size,fun k hk hr=>by
    rw [← h.block k hk hr];simp [World.setCell,Array.getElem?_modify,show ¬ z=k by omega]⟩
theorem sBlk_own {x:ACust}:sBlk x=(Value.slice x.sa x.sn x.sc).ownBlock:=by
  unfold sBlk;cases x.sa with
  | none=>rfl
  | some a=>rfl
/-- a customer's new cells are written into the book -/
theorem book_put {W W1:World} {B g cap:Nat} {cs:List PCust} {xs:List ACust} {k:Nat} {y:ACust} {c:PCust} {so:Option Nat} (h:BookAt W B (.slice (some ⟨g,0,none⟩) cs.length cap) cs xs) (hB:B≤W.heap.size) (hk:k < cs.length) (hso:so=sBlk (xs.getD k default)) (hg:HapG B y c so W W1):
    BookAt ((((((((W1.setCell ⟨g,k*8,none⟩ (I y.meter)).setCell ⟨g,k*8+1,none⟩ (I y.rev)).setCell ⟨g,k*8+2,none⟩ (I y.next)).setCell ⟨g,k*8+3,none⟩ (I y.month)).setCell ⟨g,k*8+4,none⟩ (I y.bought)).setCell ⟨g,k*8+5,none⟩ (I y.free)).setCell ⟨g,k*8+6,none⟩ (.slice y.da y.dn y.dc)).setCell ⟨g,k*8+7,none⟩ (.slice y.sa y.sn y.sc)) B (.slice (some ⟨g,0,none⟩) cs.length cap) (cs.set k c) (xs.set k y):=by
  have hkx:k < xs.length:=by rw [h.1];exact hk
  obtain ⟨g1,g2,g3,g4⟩:=hg;have hgW:=(h.2.1.lt g rfl).2
  have hgso:so≠some g:=fun e=>by
    have:=((h.2.2.2 k hkx g).2 (by rw [← hso];exact e)).1;exact this rfl
  have hrow1:W1.ownsRow B 67 8 (.slice (some ⟨g,0,none⟩) cs.length cap) cs.length (xs.flatMap ACust.cells):=owns_heap h.2.1 fun z hz=>by
    have e:g=z:=by injection hz
    subst e;exact g4.block g hgW (fun e=>hgso e.symm)
  have hrow:=owns_store (owns_store (owns_store (owns_store (owns_store (owns_store (owns_store (owns_store hrow1 (k*8) (I y.meter)) (k*8+1) (I y.rev)) (k*8+2) (I y.next)) (k*8+3) (I y.month)) (k*8+4) (I y.bought)) (k*8+5) (I y.free)) (k*8+6) (.slice y.da y.dn y.dc)) (k*8+7) (.slice y.sa y.sn y.sc);rw [flat_set8 hkx] at hrow
  have hh:∀ z,z≠g→((((((((W1.setCell ⟨g,k*8,none⟩ (I y.meter)).setCell ⟨g,k*8+1,none⟩ (I y.rev)).setCell ⟨g,k*8+2,none⟩ (I y.next)).setCell ⟨g,k*8+3,none⟩ (I y.month)).setCell ⟨g,k*8+4,none⟩ (I y.bought)).setCell ⟨g,k*8+5,none⟩ (I y.free)).setCell ⟨g,k*8+6,none⟩ (.slice y.da y.dn y.dc)).setCell ⟨g,k*8+7,none⟩ (.slice y.sa y.sn y.sc)).heap[z]?=W1.heap[z]?:=fun z hz=>by
    simp [World.setCell,Array.getElem?_modify,show ¬ g=z by omega]
  have hsz:((((((((W1.setCell ⟨g,k*8,none⟩ (I y.meter)).setCell ⟨g,k*8+1,none⟩ (I y.rev)).setCell ⟨g,k*8+2,none⟩ (I y.next)).setCell ⟨g,k*8+3,none⟩ (I y.month)).setCell ⟨g,k*8+4,none⟩ (I y.bought)).setCell ⟨g,k*8+5,none⟩ (I y.free)).setCell ⟨g,k*8+6,none⟩ (.slice y.da y.dn y.dc)).setCell ⟨g,k*8+7,none⟩ (.slice y.sa y.sn y.sc)).heap.size=W1.heap.size:=by simp [World.setCell]
  generalize ((((((((W1.setCell ⟨g,k*8,none⟩ (I y.meter)).setCell ⟨g,k*8+1,none⟩ (I y.rev)).setCell ⟨g,k*8+2,none⟩ (I y.next)).setCell ⟨g,k*8+3,none⟩ (I y.month)).setCell ⟨g,k*8+4,none⟩ (I y.bought)).setCell ⟨g,k*8+5,none⟩ (I y.free)).setCell ⟨g,k*8+6,none⟩ (.slice y.da y.dn y.dc)).setCell ⟨g,k*8+7,none⟩ (.slice y.sa y.sn y.sc))=W2 at *;subst hso;refine h.set hB hk (by rw [hsz];exact g4.size) (fun z hz hv hs=>?_) hrow (g1.heap (by omega) (fun z hz=>hh z ?_) (fun z hz=>hh z ?_)) g2 (fun z hz=>g3 z hz)
  · rw [hh z (fun e=>hv (by rw [e];rfl))]
    exact g4.block z hz hs
  · have:=(g2 z hz).1;omega
  · rcases g3 z hz with h3 | h3
    · intro e;subst e;exact hgso h3
    · omega
/-- a customer's cells in the book's row -/
theorem book_cells {W:World} {B g n cap:Nat} {cs:List PCust} {xs:List ACust} (h:BookAt W B (.slice (some ⟨g,0,none⟩) n cap) cs xs) {j:Nat} (hj:j < cs.length):∀ i,i < 8→W.cell? ⟨g,j*8+i,none⟩=some ((xs.getD j default).cells.getD i undef)∧W.frozen? ⟨g,j*8+i,none⟩=false:=by
  intro i hi;have o:=Own.of_owns h.2.1;have hjx:j < xs.length:=by rw [h.1];exact hj
  have hc:=o.cell (j*8+i) (by rw [length_flat _ 8 ACust.cells_len];exact pos_lt hjx hi);rw [getD_flat _ 8 ACust.cells_len _ _ _ hjx hi,Nat.zero_add] at hc;exact ⟨hc,o.frozen _⟩
theorem row_cells {W:World} {g:Nat} {xs:List ACust} (o:Own W g (xs.flatMap ACust.cells)) {j:Nat} (hj:j < xs.length):∀ i,i < 8→W.cell? ⟨g,j*8+i,none⟩=some ((xs.getD j default).cells.getD i undef)∧W.frozen? ⟨g,j*8+i,none⟩=false:=by
  intro i hi;have hc:=o.cell (j*8+i) (by rw [length_flat _ 8 ACust.cells_len];exact pos_lt hj hi);rw [getD_flat _ 8 ACust.cells_len _ _ _ hj hi,Nat.zero_add] at hc;exact ⟨hc,o.frozen _⟩
theorem below_grown {w w4 w5:World} {row:Option Nat} (kw:Below w.heap.size w w4) (hg:w4.grownBy w5 row) (hr:∀ z,row=some z→w.heap.size≤z):Below w.heap.size w w5:=Below.grown (B:=w.heap.size) kw hg kw.size hr
theorem BookAt.ge {W:World} {B:Nat} {v:Value} {cs:List PCust} {xs:List ACust} (h:BookAt W B v cs xs):∀ z,v.ownBlock=some z→B≤z∧z < W.heap.size:=fun z hz=>h.2.1.lt z hz
theorem book_slice {W:World} {B:Nat} {v:Value} {cs:List PCust} {xs:List ACust} (h:BookAt W B v cs xs):∃ a c,v=.slice a cs.length c:=by
  rcases owns_cases h.2.1 with ⟨rfl,hn⟩ | ⟨g,cap,rfl,-⟩
  · exact ⟨none,0,by rw [hn]⟩
  · exact ⟨_,_,rfl⟩
/-- a new customer behind the others -/
theorem book_new {W P w5:World} {B g cap:Nat} {v:Value} {cs:List PCust} {xs:List ACust} {X:AAcc} {ua:Option Addr} {uc:Nat} (h:BookAt W B v cs xs) (hu:Sl W (.slice ua 0 uc) 2 0 []) (hP:Below W.heap.size W P)
    (hown:w5.ownsRow B 67 8 (.slice (some ⟨g,0,none⟩) (cs.length+1) cap) (cs.length+1) (xs.flatMap ACust.cells++[I X.meter,I X.rev,I X.next,I X.month,I X.bought,I X.free,.slice ua 0 uc,.slice none 0 0])) (hgrow:P.grownBy w5 v.ownBlock) (hat:v.ownBlock=some g∨g=P.heap.size):
    ∃ ys,BookAt w5 B (.slice (some ⟨g,0,none⟩) (cs.length+1) cap) (cs++[⟨X,[],[]⟩]) ys:=by
  have hG:=grown_pre hgrow hP;refine ⟨xs++[ofCust ⟨X,[],[]⟩ ua uc none 0],(h.below hP).snoc ?_ hgrow hat ⟨rfl,?_,World.ownsRow_nil _ _ _ _⟩ rfl rfl⟩
  · rw [List.flatMap_append];exact hown
  · exact sl_heap hu hG.size fun _ _ _ _ hp=>absurd hp (by simp)
/-- the loop's state -/
def BRel (w:World) (gb:Nat) (t:PTerms) (tv:Value) (l:List AEvent) (k:Nat) (wr:World):Prop:=
  ∃ cs xs v,cs.length≤k∧(∀ c∈cs,c.sold.length≤k)∧Own wr w.heap.size [tv,I t.f,I t.b,I t.d,I t.al]∧Own wr (w.heap.size+1) [.slice none 0 0]∧Own wr gb [v]∧BookAt wr (gb+1) v cs xs∧Below w.heap.size w wr∧runB t cs (l.drop k) k=bookR t l
theorem hapC_sold (t:PTerms) (c:PCust) (v:AEvent):(hapC t c v).sold.length≤c.sold.length+1:=by
  unfold hapC
  split
  · exact Nat.le_succ _
  · simp
theorem getD_mem {α:Type} [Inhabited α] {l:List α} {k:Nat} (h:k < l.length):l.getD k default∈l:=by
  rw [List.getD_eq_getElem?_getD,List.getElem?_eq_getElem h];exact List.getElem_mem h
theorem evE_no {t:PTerms} {cs:List PCust} {v:AEvent} (h:v.may=false):evE t cs v=5:=by unfold evE;rw [h];rfl
theorem evE_twice {t:PTerms} {cs:List PCust} {v:AEvent} (h:v.may=true) (h1:v.kind=1) (ha:0≤idxOf cs v.meter):evE t cs v=21:=by unfold evE;rw [if_pos h,if_pos h1,if_pos ha]
theorem evE_reg {t:PTerms} {cs:List PCust} {v:AEvent} (h:v.may=true) (h1:v.kind=1) (ha:¬ 0≤idxOf cs v.meter):evE t cs v=0:=by unfold evE;rw [if_pos h,if_pos h1,if_neg ha]
theorem evE_none {t:PTerms} {cs:List PCust} {v:AEvent} (h:v.may=true) (h1:¬ v.kind=1) (ha:¬ 0≤idxOf cs v.meter):evE t cs v=18:=by unfold evE;rw [if_pos h,if_neg h1,if_neg ha]
theorem evE_hap {t:PTerms} {cs:List PCust} {v:AEvent} (h:v.may=true) (h1:¬ v.kind=1) (ha:0≤idxOf cs v.meter):evE t cs v=hapE t (cs.getD (idxOf cs v.meter).toNat default) v:=by unfold evE;rw [if_pos h,if_neg h1,if_pos ha]
theorem evC_reg {t:PTerms} {cs:List PCust} {v:AEvent} (h1:v.kind=1):evC t cs v=cs++[⟨openX v.meter,[],[]⟩]:=by unfold evC;rw [if_pos h1]
theorem evC_hap {t:PTerms} {cs:List PCust} {v:AEvent} (h1:¬ v.kind=1):evC t cs v=cs.set (idxOf cs v.meter).toNat (hapC t (cs.getD (idxOf cs v.meter).toNat default) v):=by unfold evC;rw [if_neg h1]
end
section
open Go Go.RowKit
theorem evC_len (t:PTerms) (cs:List PCust) (v:AEvent):(evC t cs v).length≤cs.length+1:=by
  unfold evC
  split<;>simp
theorem evC_sold {t : PTerms} {cs : List PCust} {v : AEvent} {k : Nat} (h : ∀ c ∈ cs, c.sold.length ≤ k) : ∀ c ∈ evC t cs v, c.sold.length ≤ k + 1 := by
  intro c hc;unfold evC at hc
  split at hc
  · rcases List.mem_append.1 hc with hc | hc
    · exact Nat.le_succ_of_le (h c hc)
    · rw [List.mem_singleton.1 hc];exact Nat.zero_le _
  · rcases List.mem_or_eq_of_mem_set hc with hc | hc
    · exact Nat.le_succ_of_le (h c hc)
    · rw [hc]
      refine Nat.le_trans (hapC_sold _ _ _) ?_
      by_cases hj:(idxOf cs v.meter).toNat < cs.length
      · have:=h _ (getD_mem (α:=PCust) hj);omega
      · rw [List.getD_eq_getElem?_getD,List.getElem?_eq_none (by omega)]
        exact Nat.succ_le_succ (Nat.zero_le _)
theorem runB_bd (t:PTerms):∀ (l:List AEvent) (cs:List PCust) (i k:Nat),cs.length≤k→(∀ c∈cs,c.sold.length≤k)→(runB t cs l i).2.2.length≤k+l.length∧∀ c∈(runB t cs l i).2.2,c.sold.length≤k+l.length
  | [],cs,i,k,h1,h2=>⟨h1,h2⟩
  | v :: vs, cs, i, k, h1, h2 => by
    by_cases h:evE t cs v=0
    · rw [runB_go h]
      have:=runB_bd t vs (evC t cs v) (i+1) (k+1) (Nat.le_trans (evC_len t cs v) (by omega)) (evC_sold h2)
      rw [List.length_cons]
      refine ⟨by omega,fun c hc=>?_⟩
      have:=this.2 c hc
      omega
    · rw [runB_bad h]
      exact ⟨Nat.zero_le _,fun c hc=>absurd hc (by simp)⟩
theorem bookR_bd (t:PTerms) (l:List AEvent):(bookR t l).2.2.length≤120∧∀ c∈(bookR t l).2.2,c.sold.length≤120:=by
  unfold bookR
  split
  · split
    · exact ⟨Nat.zero_le _,fun c hc=>absurd hc (by simp)⟩
    · rename_i h
      have:=runB_bd t l [] 0 0 (Nat.zero_le _) (fun c hc=>absurd hc (by simp));refine ⟨by omega,fun c hc=>?_⟩
      have:=this.2 c hc;omega
  · exact ⟨Nat.zero_le _,fun c hc=>absurd hc (by simp)⟩
end
section
open Go.RowKit

/-- how long the record at a place is: 0 where none is, -1 where it may not be -/
def stepI (xs:List Int) (at_:Nat):Int:=
  if at_=xs.length then 0 else if xs.getD at_ 0=0 then 0 else if 64 < xs.getD at_ 0 then -1 else if (xs.length:Int)≤at_+xs.getD at_ 0 then -1 else xs.getD at_ 0
/-- where the next one goes, and whether all is well -/
def runT (xs:List Int):Nat→Nat→Nat×Bool
  | 0,at_=>(at_,true)
  | f+1,at_=>if stepI xs at_=0 then (at_,true) else if stepI xs at_ < 0 then (at_,false) else runT xs f (at_+(stepI xs at_).toNat+1)
def tapeR (xs:List Int):Nat×Bool:=runT xs (xs.length+1) 0
def tapeE (xs:List Int):Int:=if inB xs.length 1 2048 then (if (tapeR xs).2 then 0 else 3) else 1
def tapeA (xs:List Int):Int:=if tapeE xs=0 then (((tapeR xs).1:Nat):Int) else 0
theorem runT_stop {xs:List Int} {f at_:Nat} (h:stepI xs at_=0):runT xs (f+1) at_=(at_,true):=by simp [runT,h]
theorem runT_bad {xs:List Int} {f at_:Nat} (h:stepI xs at_ < 0):runT xs (f+1) at_=(at_,false):=by
  have:¬ stepI xs at_=0:=by omega
  simp [runT,h,this]
theorem runT_go {xs:List Int} {f at_:Nat} (h:0 < stepI xs at_):runT xs (f+1) at_=runT xs f (at_+(stepI xs at_).toNat+1):=by
  have h1:¬ stepI xs at_=0:=by omega
  have h2:¬ stepI xs at_ < 0:=by omega
  simp [runT,h1,h2]
theorem stepI_bd {xs : List Int} (hw : ∀ x ∈ xs, W32 x) {at_ : Nat} (ha : at_ ≤ xs.length) : -1 ≤ stepI xs at_ ∧ stepI xs at_ ≤ 64 ∧ (0 < stepI xs at_ → (at_ : Int) + stepI xs at_ < xs.length) := by
  have h0:0≤xs.getD at_ 0:=by
    by_cases h:at_ < xs.length
    · rw [List.getD_eq_getElem?_getD,List.getElem?_eq_getElem h];exact (hw _ (List.getElem_mem h)).1
    · rw [List.getD_eq_getElem?_getD,List.getElem?_eq_none (by omega)];exact Int.le_refl _
  unfold stepI;generalize xs.getD at_ 0=x at *
  split
  · omega
  · split
    · omega
    · split
      · omega
      · split
        · omega
        · omega
theorem runT_le {xs:List Int} (hw:∀ x∈xs,W32 x):∀ (f at_:Nat),at_≤xs.length→(runT xs f at_).1≤xs.length
  | 0,at_,h=>h
  | f+1,at_,h=>by
    obtain ⟨h1,h2,h3⟩:=stepI_bd hw h
    rcases Int.lt_trichotomy (stepI xs at_) 0 with hs | hs | hs
    · rw [runT_bad hs];exact h
    · rw [runT_stop hs];exact h
    · rw [runT_go hs];exact runT_le hw f _ (by have:=h3 hs;omega)

theorem lengthAt_any (v : Value) (xs : List Int) (at_ : Nat) (w : World) (h : Sl w v 1 xs.length (xs.map U32)) (hw : ∀ x ∈ xs, W32 x) (ha : at_ ≤ xs.length) (hn1 : 1 ≤ xs.length) (hn2 : xs.length ≤ 2048) :
    Calls Tryz.prog 138 #[v,I at_] w (Pure (I (stepI xs at_)) w):=by
  obtain ⟨a,cap,rfl,hn,hl,h0,hr⟩:=h;obtain ⟨b,off,rfl,hb,hcell⟩:=hr.resolve_left (by omega);clear hl h0 hr;have HS:=Lib.hid (show stepI xs at_=if at_=xs.length then 0 else if xs.getD at_ 0=0 then 0 else if 64 < xs.getD at_ 0 then -1 else if (xs.length:Int)≤at_+xs.getD at_ 0 then -1 else xs.getD at_ 0 from rfl)
  by_cases hend:at_=xs.length
  · have H:=Lib.hid (show stepI xs at_=0 by rw [HS.out,if_pos hend])
    have hb1:((at_:Int)==(xs.length:Int))=true:=by simp;omega
    clear HS hcell hend;go_enter Tryz.func138,Tryz.ntmps138;go_wp2;go_ret;exact Pure.intro (eI H.out.symm)
  · have hlt:at_ < xs.length:=by omega
    have e0:=hcell at_ (by simpa using hlt);rw [getD_map' _ _ hlt] at e0
    obtain ⟨x0,x1⟩:W32 (xs.getD at_ 0):=by
      rw [List.getD_eq_getElem?_getD,List.getElem?_eq_getElem hlt];exact hw _ (List.getElem_mem hlt)
    have hb1:((at_:Int)==(xs.length:Int))=false:=by simp;omega
    have hi0:(0:Int)≤(at_:Int):=by omega
    have hi1:(at_:Int) < (xs.length:Int):=by omega
    rw [if_neg hend] at HS;clear hcell hend;generalize xs.getD at_ 0=x at *
    by_cases hz:x=0
    · have H:=Lib.hid (show stepI xs at_=0 by rw [HS.out,if_pos hz])
      have hb2:(x==0)=true:=by simp [hz]
      clear HS hz;go_enter Tryz.func138,Tryz.ntmps138;go_wp2;go_ret;exact Pure.intro (eI H.out.symm)
    · rw [if_neg hz] at HS
      have hb2:(x==0)=false:=by simp [hz]
      by_cases h64:64 < x
      · have H:=Lib.hid (show stepI xs at_=-1 by rw [HS.out,if_pos h64])
        clear HS hz;go_enter Tryz.func138,Tryz.ntmps138;go_wp2;go_ret;exact Pure.intro (eI H.out.symm)
      · rw [if_neg h64] at HS
        by_cases hlen:(xs.length:Int)≤at_+x
        · have H:=Lib.hid (show stepI xs at_=-1 by rw [HS.out,if_pos hlen])
          clear HS hz;go_enter Tryz.func138,Tryz.ntmps138;go_wp2;go_ret;exact Pure.intro (eI H.out.symm)
        · have H:=Lib.hid (show stepI xs at_=x by rw [HS.out,if_neg hlen])
          clear HS hz;go_enter Tryz.func138,Tryz.ntmps138;go_wp2;go_ret;exact Pure.intro (eI H.out.symm)
end
section
open Go.RowKit

theorem walk0_any (v : Value) (xs : List Int) (w : World) (h : Sl w v 1 xs.length (xs.map U32)) (hw : ∀ x ∈ xs, W32 x) :
    Calls Tryz.prog 71 #[v,.func (.func 148) #[] #[]] w (Pure (T2 (I (tapeA xs)) (I (tapeE xs))) w):=by
  obtain ⟨a,cap,rfl,hn,hl,h0,hr⟩:=h;clear hl h0;cases hi:inB xs.length 1 2048
  · have e1:tapeE xs=1:=by simp [tapeE,hi]
    have e2:tapeA xs=0:=by simp [tapeA,e1]
    rw [e1,e2];have hcase:(xs.length:Int) < 1∨(1≤(xs.length:Int)∧2048 < (xs.length:Int)):=by rw [← Bool.not_eq_true,inB_true] at hi;omega
    clear e1 e2 hi hr hw;rcases hcase with c1 | ⟨c1,c2⟩
    all_goals
      go_enter Tryz.func71,Tryz.ntmps71;go_wp2;go_ret2;exact Pure.intro rfl
  · obtain ⟨l0, l1⟩ := inB_true.1 hi
    have HE:=Lib.hid (show tapeE xs=if (tapeR xs).2 then 0 else 3 by simp [tapeE,hi]);have HA:=Lib.hid (show tapeA xs=if tapeE xs=0 then (((tapeR xs).1:Nat):Int) else 0 from rfl);obtain ⟨b,off,rfl,hb,hcell⟩:=hr.resolve_left (by omega);have c0:¬ (xs.length:Int) < 1:=by omega
    have c1:¬ 2048 < (xs.length:Int):=by omega
    have HS:=Lib.hid (fun at_=>show stepI xs at_=if at_=xs.length then 0 else if xs.getD at_ 0=0 then 0 else if 64 < xs.getD at_ 0 then -1 else if (xs.length:Int)≤at_+xs.getD at_ 0 then -1 else xs.getD at_ 0 from rfl);have HW:=Lib.hid hw;generalize tapeA xs=RA at *;generalize tapeE xs=RE at *;clear hr hi hw;go_enter Tryz.func71,Tryz.ntmps71;go_wp2
    go_loop [6] (fun i=>∃ (p f:Nat),p≤xs.length∧i=I p∧xs.length+1≤f+p∧Hid (runT xs f p=tapeR xs)) (fun i=>xs.length-(intOf i).toNat)
    case atStart=>exact ⟨0,xs.length+1,by omega,rfl,by omega,rfl⟩
    case round=>
      obtain ⟨p,f,hp,rfl,hf,hT⟩:=hrel;obtain ⟨f,rfl⟩:∃ f',f=f'+1:=⟨f-1,by omega⟩;have S:=HS.out p
      by_cases hlt:p < xs.length
      · have e0:=hcell p (by simpa using hlt)
        rw [getD_map' _ _ hlt] at e0
        obtain ⟨x0,x1⟩:W32 (xs.getD p 0):=by
          rw [List.getD_eq_getElem?_getD,List.getElem?_eq_getElem hlt];exact HW.out _ (List.getElem_mem hlt)
        have hi0:(0:Int)≤(p:Int):=by omega
        have hi1:(p:Int) < (xs.length:Int):=by omega
        rw [if_neg (by omega)] at S;clear HS hcell;generalize xs.getD p 0=x at *
        by_cases hz:x=0
        · rw [if_pos hz] at S
          have hR:=hT.out;rw [runT_stop S] at hR;have E1:RE=0:=by rw [HE.out,← hR];rfl
          have E2:RA=p:=by rw [HA.out,E1,← hR];rfl
          have F1:=Lib.hid E1;have F2:=Lib.hid E2;clear E1 E2;have hb2:(x != 0)=false:=by simp [hz]
          clear S hz hR hT HE HA;go_wp2;go_ret2;exact Pure.intro (eI2 F2.out.symm F1.out.symm)
        · rw [if_neg hz] at S
          have hb2:(x != 0)=true:=by simp [hz]
          by_cases h64:64 < x
          · rw [if_pos h64] at S
            have hR:=hT.out;rw [runT_bad (by omega)] at hR;have E1:RE=3:=by rw [HE.out,← hR];rfl
            have E2:RA=0:=by rw [HA.out,E1];rfl
            have F1:=Lib.hid E1;have F2:=Lib.hid E2;clear E1 E2;clear S hz hR hT HE HA;go_wp2;go_ret2;exact Pure.intro (eI2 F2.out.symm F1.out.symm)
          · rw [if_neg h64] at S
            by_cases hlen:(xs.length:Int)≤p+x
            · rw [if_pos hlen] at S
              have hR:=hT.out;rw [runT_bad (by omega)] at hR;have E1:RE=3:=by rw [HE.out,← hR];rfl
              have E2:RA=0:=by rw [HA.out,E1];rfl
              have F1:=Lib.hid E1;have F2:=Lib.hid E2;clear E1 E2;have hlen2:(xs.length:Int)-p≤x:=by omega
              clear S hz hR hT HE HA;go_wp2;go_ret2;exact Pure.intro (eI2 F2.out.symm F1.out.symm)
            · rw [if_neg hlen] at S
              have hR:=hT.out;rw [runT_go (by omega),S] at hR;obtain ⟨n,rfl⟩:=Int.eq_ofNat_of_zero_le x0;rw [Int.toNat_natCast] at hR;have HR:=Lib.hid hR;clear hR;have hlen2:¬ (xs.length:Int)-p≤n:=by omega
              have hn0:0 < n:=by omega
              have hpn:p+1+n≤xs.length:=by omega
              have hcapn:=hn.2;have hne1:¬ p+1+n=p+1:=by omega
              have hne2:¬ ((p:Int)+1+n=(p:Int)+1):=by omega
              have hle1:(p:Int)+1+n≤(cap:Int):=by omega
              clear S hz hT HE HA;go_wp2
              go_end0
              go_wp2
              go_round
              case rel=>first | exact ⟨p+n+1,f,by omega,eI (by omega),by omega,HR⟩ | (refine ⟨rfl,?_⟩;(repeat apply Exists.intro);refine ⟨?_,rfl⟩;exact ⟨p+n+1,f,by omega,eI (by omega),by omega,HR⟩) | (refine ⟨trivial,?_⟩;(repeat apply Exists.intro);refine ⟨?_,rfl⟩;exact ⟨p+n+1,f,by omega,eI (by omega),by omega,HR⟩) | ((repeat apply Exists.intro);refine ⟨?_,rfl⟩;exact ⟨p+n+1,f,by omega,eI (by omega),by omega,HR⟩)
              case measure=>(simp [intOf];try omega)
      · have S0:stepI xs p=0:=by rw [S,if_pos (by omega)]
        have hR:=hT.out;rw [runT_stop S0] at hR;have E1:RE=0:=by rw [HE.out,← hR];rfl
        have E2:RA=p:=by rw [HA.out,E1,← hR];rfl
        have F1:=Lib.hid E1;have F2:=Lib.hid E2;clear E1 E2;have hge:(xs.length:Int)≤(p:Int):=by omega
        have hge2:decide ((p:Int) < (xs.length:Int))=false:=by simp;omega
        clear S S0 hR hT HE HA hcell HS;go_wp2;go_ret2;exact Pure.intro (eI2 F2.out.symm F1.out.symm)

theorem infoRec:(Tryz.prog.info? 25).map (fun i=>(i.zero,i.size,i.bytes))=some (some (.slice none 0 0),1,24):=by kernel_rfl
theorem infoU32d:(Tryz.prog.info? 80).map (fun i=>(i.zero,i.size,i.bytes))=some (some (.int .u32 0),1,4):=by kernel_rfl
def GrewV3 (p k:Int) (w:World) (e:Ending) (w':World):Prop:=∃ v,e=.returned (T3 v (I p) (I k))∧Below w.heap.size w w'
def DRel (w:World) (k:Nat) (v:Value) (wr:World):Prop:=(∃ cs,wr.ownsRow w.heap.size 25 1 v k cs)∧Below w.heap.size w wr

theorem Replayed_at (v : Value) (xs : List Int) (w : World) (h : Sl w v 1 xs.length (xs.map U32)) (hw : ∀ x ∈ xs, W32 x) :
    Calls Tryz.prog 95 #[v] w (GrewV3 (tapeA xs) (tapeE xs) w):=by
  obtain ⟨i0,hi,hz0,hz1,hz2⟩:=info_parts infoRec;obtain ⟨j0,hj,hy0,hy1,hy2⟩:=info_parts infoU32d;have hS:=h;obtain ⟨a,cap,rfl,hn,hl,h0,hr⟩:=h;clear hl h0;cases hi1:inB xs.length 1 2048
  · have e1:tapeE xs=1:=by simp [tapeE,hi1]
    have e2:tapeA xs=0:=by simp [tapeA,e1]
    rw [e1,e2];clear e1 e2 hr hw;go_enter Tryz.func95,Tryz.ntmps95
    go_wp2_with (go_at_call 57;refine (In_any _ _ _ _).mono ?_;rintro e w' ⟨rfl,rfl⟩)
    go_ret3;exact ⟨_,rfl,Below.refl _ _⟩
  · obtain ⟨l0, l1⟩ := inB_true.1 hi1
    have HE:=Lib.hid (show tapeE xs=if (tapeR xs).2 then 0 else 3 by simp [tapeE,hi1]);have HA:=Lib.hid (show tapeA xs=if tapeE xs=0 then (((tapeR xs).1:Nat):Int) else 0 from rfl);have L:=Lib.hid (fun at_ W hW (ha:at_≤xs.length)=>lengthAt_any (.slice a xs.length cap) xs at_ W hW hw ha (by omega) (by omega));have HB:=Lib.hid (fun at_ (ha:at_≤xs.length)=>stepI_bd hw ha);have L0:=Lib.hid (L.out 0 w hS (Nat.zero_le _));generalize tapeA xs=RA at *;generalize tapeE xs=RE at *;clear hw;go_enter Tryz.func95,Tryz.ntmps95
    go_wp2_with (first | (go_at_call 57;refine (In_any _ _ _ _).mono ?_;rintro e w' ⟨rfl,rfl⟩) | (go_at_call 138;refine (L0.out).mono ?_;rintro e w' ⟨rfl,rfl⟩))
    go_loopw [5,6,7] (fun v i n wr=>∃ (k p f:Nat),p≤xs.length∧k≤p∧i=I p∧n=I (stepI xs p)∧xs.length+1≤f+p∧Hid (runT xs f p=tapeR xs)∧Hid (DRel w k v wr)) (fun _ i _ _=>xs.length+1-(intOf i).toNat)
    case atStart=>exact ⟨0,0,xs.length+1,by omega,by omega,rfl,rfl,by omega,rfl,⟨[],World.ownsRow_nil _ _ _ _⟩,Below.refl _ _⟩
    case round=>
      obtain ⟨k,p,f,hp,hkp,rfl,rfl,hf,hT,hD⟩:=hrel;obtain ⟨f,rfl⟩:∃ f',f=f'+1:=⟨f-1,by omega⟩;obtain ⟨⟨cs,hown⟩,hbw⟩:=hD.out;have hsz:=hbw.size;obtain ⟨s1,s2,s3⟩:=HB.out p hp;rcases Int.lt_trichotomy (stepI xs p) 0 with hs | hs | hs
      · have hR:=hT.out
        rw [runT_bad hs] at hR;have E1:RE=3:=by rw [HE.out,← hR];rfl
        have E2:RA=0:=by rw [HA.out,E1];rfl
        have F1:=Lib.hid E1;have F2:=Lib.hid E2;clear E1 E2 hR hT HE HA L L0 HB s1 s2 s3 hown;generalize stepI xs p=n at *;go_wp2;go_ret3;rw [F1.out,F2.out];exact ⟨_,rfl,hbw⟩
      · have hR:=hT.out
        rw [runT_stop hs] at hR;have E1:RE=0:=by rw [HE.out,← hR];rfl
        have E2:RA=p:=by rw [HA.out,E1,← hR];rfl
        have F1:=Lib.hid E1;have F2:=Lib.hid E2;clear E1 E2 hR hT HE HA L L0 HB s1 s2 s3 hown;generalize stepI xs p=n at *;go_wp2;go_ret3;rw [F1.out,F2.out];exact ⟨_,rfl,hbw⟩
      · have hR:=hT.out
        rw [runT_go hs] at hR;obtain ⟨n,hn0⟩:=Int.eq_ofNat_of_zero_le (Int.le_of_lt hs);have hpn:=s3 hs;rw [hn0,Int.toNat_natCast] at hR;rw [hn0] at hs s2 hpn;have HR:=Lib.hid hR;rw [hn0];clear hR hT hn0 s1 s3;have hn1:0 < n:=by omega
        have hpn2:p+n+1≤xs.length:=by omega
        go_wp2_with (refine wpList_make_full _ rfl (.tmp 19) (.tmp 19) 25 rfl wr.heap.size 80 j0 (.int .u32 0) 1 Tryz.underlying25 hj hy0 hy1 .i64 .i64 _ _ n rfl rfl rfl rfl (by rw [hy2];omega) (by unfold maxLen;omega) (Nat.le_refl _) ?_;intro w2 hown2 hgrow;have hbel:=Below.grown (B:=wr.heap.size) (Below.refl _ wr) hgrow (Nat.le_refl _) (fun k hk=>by cases hk);have hO:=Own.of_owns (made_int hown2);clear hown2 hgrow)
        generalize wr=wO at *;obtain ⟨b,off,rfl,hb,hcell⟩:=hr.resolve_left (by omega);have hW0:Hid (∃ L:List Value,L.length=n∧Own w2 wO.heap.size L):=⟨_,by simp,hO⟩;clear hO hr
        go_loopw [9] (fun i wr=>∃ q:Nat,q≤n∧i=I q∧Hid (∃ L:List Value,L.length=n∧Own wr wO.heap.size L)∧Below wO.heap.size wO wr) (fun i _=>n-(intOf i).toNat)
        case atStart=>exact ⟨0,Nat.zero_le _,rfl,hW0,hbel⟩
        case round=>
          obtain ⟨q,hq,rfl,hL,hbq⟩:=hrel;obtain ⟨Lc,hLl,hOq⟩:=hL.out;have hbwq:=hbw.trans (hbq.mono hsz)
          by_cases hlt:q < n
          · have e0:=(hbwq.cell (p:=⟨b,off+(p+1+q),none⟩) hb).trans (hcell (p+1+q) (by simp;omega))
            rw [getD_map' _ _ (by omega)] at e0;have e1:=hOq.cell q (by omega);rw [Nat.zero_add] at e1;have f1:=hOq.frozen q;have hnext:=Lib.hid (fun x=>(⟨Lc.set q x,by rw [List.length_set];exact hLl,hOq.set q x⟩:∃ L:List Value,L.length=n∧Own (wr.setCell ⟨wO.heap.size,q,none⟩ x) wO.heap.size L));have hbn:=fun x=>hbq.setCell (p:=⟨wO.heap.size,q,none⟩) (Nat.le_refl _) x;have hi0:(0:Int)≤(q:Int):=by omega
            have hi1':(q:Int) < (n:Int):=by omega
            have hj0:(0:Int)≤(p:Int)+1+q:=by omega
            have hj1:(p:Int)+1+q < (xs.length:Int):=by omega
            have hto:((p:Int)+1+(q:Int)).toNat=p+1+q:=by omega
            generalize xs.getD (p+1+q) 0=y at *;generalize Lc.getD q undef=z at *;clear hOq hLl hL hcell hbwq;go_wp2;exact ⟨⟨q+1,by omega,by go_num,hnext.out _,hbn _⟩,by simp [intOf];omega⟩
          · have hge:(n:Int)≤(q:Int):=by omega
            have hownq:=owns_below hown hbq;have hszq:=hbwq.size;clear hOq hLl hL hcell hown
            go_wp2_with (first
              | (at_builtin;refine wpList_append_own _ rfl _ _ 101 rfl w.heap.size 25 i0 (.slice none 0 0) 1 24 Tryz.underlying101 hi hz0 hz1 hz2 rfl (by decide) _ _ _ rfl (hownq.alloc _) ⟨wr.heap.size,0,none⟩ 1 1 [.slice (some ⟨wO.heap.size,0,none⟩) n n] rfl rfl (news_lit _ [.slice (some ⟨wO.heap.size,0,none⟩) n n] _) (oneCells_lit rfl) (by unfold maxLen;omega) (by omega) (by simp;omega) ?_;intro v' w1 hown' hgrow _)
              | (go_at_call 138;rw [show ((p:Int)+n+1)=((p+n+1:Nat):Int) by omega];refine (L.out (p+n+1) _ (hS.below (grown_below (hbwq.alloc hszq _) (hownq.alloc _) (Nat.le_refl _) hgrow)) hpn2).mono ?_;rintro e w' ⟨rfl,rfl⟩))
            have hbel2:=grown_below (hbwq.alloc hszq _) (hownq.alloc _) (Nat.le_refl _) hgrow;exact ⟨⟨k+1,p+n+1,f,by omega,by omega,eI (by omega),rfl,by omega,HR,⟨_,hown'⟩,hbel2⟩,by simp [intOf];omega⟩
end
end Go.Proofs.YtdjgcenjonegjaaGreat
