/- a block of the call's own, written in place · book.want, within, caught; the closures that recover · book.Encode's and Decode's deferred closures · two structs held against each other, field by field · two events held against each other, field by field · book.check: which events may be -/
import Derived.Test.YtdjgcenjonegjaaGreatPk00
import Derived.Test.YtdjgcenjonegjaaGreatPk01
import Derived.Laws.StructEq
import Derived.ChangeKeysEq
import Derived.Deep.DeepCutAuto
namespace Go.Proofs.YtdjgcenjonegjaaGreat
set_option linter.unusedSimpArgs false
set_option linter.unusedVariables false
open Go.RowKit
set_option maxRecDepth 20000

/-- block g begins with the cells cs, and none of it is frozen -/
def Own (w:World) (g:Nat) (cs:List Value):Prop:=
  ∃ cur e,w.heap[g]?=some (.cells cur e (0,0))∧∀ j,j < cs.length→cur[j]?=some (cs.getD j undef)

theorem Own.lt {w:World} {g:Nat} {cs:List Value} (h:Own w g cs):g < w.heap.size:=by
  obtain ⟨cur,e,h,_⟩:=h;exact (Array.getElem?_eq_some_iff.1 h).1
theorem Own.cell {w:World} {g:Nat} {cs:List Value} (h:Own w g cs):∀ j,j < cs.length→w.cell? ⟨g,0+j,none⟩=some (cs.getD j undef):=by
  obtain ⟨cur,e,h,hc⟩:=h;intro j hj;rw [Nat.zero_add,cell_of_cells h];exact hc j hj
theorem Own.frozen {w:World} {g:Nat} {cs:List Value} (h:Own w g cs) (j:Nat):w.frozen? ⟨g,j,none⟩=false:=by
  obtain ⟨cur,e,h,_⟩:=h;simp [World.frozen?,h]
theorem Own.set {w:World} {g:Nat} {cs:List Value} (h:Own w g cs) (j:Nat) (x:Value):Own (w.setCell ⟨g,j,none⟩ x) g (cs.set j x):=by
  obtain ⟨cur,e,h,hc⟩:=h;refine ⟨cur.setIfInBounds j x,e,?_,?_⟩
  · have hg:=(Array.getElem?_eq_some_iff.1 h).1
    simp [World.setCell,Array.getElem?_modify,h]
  · intro i hi
    rw [List.length_set] at hi;have:=hc i hi;have hi':=(Array.getElem?_eq_some_iff.1 this).1;rw [List.getD_eq_getElem?_getD,List.getElem?_set,Array.getElem?_setIfInBounds]
    by_cases hij:j=i
    · subst hij;simp [hi,hi']
    · simp only [hij,if_false];rw [this,List.getD_eq_getElem?_getD]
theorem Own.other {w:World} {g:Nat} {cs:List Value} (h:Own w g cs) {a:Addr} (ha:a.block≠g) (x:Value):Own (w.setCell a x) g cs:=by
  obtain ⟨cur,e,h,hc⟩:=h;refine ⟨cur,e,?_,hc⟩;simp [World.setCell,Array.getElem?_modify,ha,h]
theorem Own.below {w w':World} {g:Nat} {cs:List Value} (h:Own w g cs) (hb:Below w.heap.size w w'):Own w' g cs:=by
  have hg:=h.lt;obtain ⟨cur,e,h,hc⟩:=h;exact ⟨cur,e,(hb.block g hg).trans h,hc⟩
theorem Own.drewN {w:World} {g:Nat} {cs:List Value} (h:Own w g cs) (q:Nat):Own (w.drewN q) g cs:=h
theorem Own.of_owns {w:World} {base e sz n m cap g:Nat} {cs:List Value} (h:w.ownsRow base e sz (.slice (some ⟨g,0,none⟩) n cap) m cs):Own w g cs:=by
  obtain ⟨hl,h⟩:=h;rcases h with ⟨h,_⟩ | ⟨g',cap',cur,hv,hb,hg,hc,hm,hs,ht⟩
  · cases h
  · cases hv
    refine ⟨cur,e,hg,fun j hj=>?_⟩
    rw [← ht,List.getD_eq_getElem?_getD,List.getElem?_take,if_pos (by omega),Array.getElem?_toList];rw [Array.getElem?_eq_getElem (by rw [hs];have:=Nat.mul_le_mul_right sz hc;omega)]
    rfl
theorem Own.sl {w:World} {g n cap sz:Nat} {cs:List Value} (h:Own w g cs) (hn:n≤281474976710656) (hc:n≤cap) (hl:cs.length=n*sz):Sl w (.slice (some ⟨g,0,none⟩) n cap) sz n cs:=
  ⟨_,cap,rfl,⟨hn,hc⟩,hl,(fun h=>by cases h),.inr ⟨g,0,rfl,h.lt,h.cell⟩⟩
theorem Own.new {w:World} {g:Nat} (hg:g=w.heap.size) (cs:List Value) (e:TypeId):Own (w.alloc (.cells cs.toArray e)) g cs:=by
  subst hg;refine ⟨cs.toArray,e,heap_alloc_new w _,fun j hj=>?_⟩
  rw [List.getD_eq_getElem?_getD,List.getElem?_eq_getElem hj];simp [hj]
theorem Own.alloc {w:World} {g:Nat} {cs:List Value} (h:Own w g cs) (o:Obj):Own (w.alloc o) g cs:=h.below (boxed_below w o)
/-- what append or make gave: nothing at all, or a block of the call's own -/
theorem owns_cases {w:World} {base e sz n:Nat} {v:Value} {cs:List Value} (h:w.ownsRow base e sz v n cs):(v=.slice none 0 0∧n=0)∨∃ g cap,v=.slice (some ⟨g,0,none⟩) n cap∧base≤g∧n≤cap∧Own w g cs:=by
  have h':=h;obtain ⟨hl,h⟩:=h;rcases h with h | ⟨g,cap,cur,hv,hb,hg,hc,hm,hs,ht⟩
  · exact .inl h
  · subst hv
    exact .inr ⟨g,cap,rfl,hb,hc,Own.of_owns h'⟩

/-! rules for the walk: a cell behind a store (have r1 := set_same; have r2 := set_off; have r3 := set_blk) -/
theorem set_same (w:World) (g j:Nat) (x:Value):(w.setCell ⟨g,j,none⟩ x).cell? ⟨g,j,none⟩=(w.cell? ⟨g,j,none⟩).map fun _=>x:=by
  cases h:w.cell? ⟨g,j,none⟩ with
  | some u=>exact World.cell?_setCell_same _ _ _ h
  | none=>
    unfold World.cell? at h;simp only [World.setCell,World.cell?,Array.getElem?_modify,if_true];cases hh:w.heap[g]? with
    | none=>rfl
    | some o=>
      rw [hh] at h;cases o<;>simp_all
theorem set_off (w:World) (g i j:Nat) (x:Value) (h:i≠j):(w.setCell ⟨g,i,none⟩ x).cell? ⟨g,j,none⟩=w.cell? ⟨g,j,none⟩:=
  World.cell?_setCell_other _ _ _ _ (fun e=>h (by injection e))
theorem set_blk (w:World) (g g' i j:Nat) (x:Value) (h:g≠g'):(w.setCell ⟨g,i,none⟩ x).cell? ⟨g',j,none⟩=w.cell? ⟨g',j,none⟩:=
  World.cell?_setCell_other _ _ _ _ (fun e=>h (by injection e))
theorem boxes2 (w:World) (a:List Value) (ta:TypeId) (b:List Value) (tb:TypeId):Below w.heap.size w ((w.alloc (.cells a.toArray ta)).alloc (.cells b.toArray tb))∧Own ((w.alloc (.cells a.toArray ta)).alloc (.cells b.toArray tb)) (w.heap.size) a∧Own ((w.alloc (.cells a.toArray ta)).alloc (.cells b.toArray tb)) (w.heap.size+1) b:=by
  have h0:=boxed_below w (.cells a.toArray ta);have h1:=h0.alloc h0.size (.cells b.toArray tb);exact ⟨h1,(Own.new (w:=w) (g:=w.heap.size) (by simp) a ta).alloc (.cells b.toArray tb),Own.new (w:=(w.alloc (.cells a.toArray ta))) (g:=w.heap.size+1) (by simp) b tb⟩
theorem boxes3 (w:World) (a:List Value) (ta:TypeId) (b:List Value) (tb:TypeId) (c:List Value) (tc:TypeId):Below w.heap.size w (((w.alloc (.cells a.toArray ta)).alloc (.cells b.toArray tb)).alloc (.cells c.toArray tc))∧Own (((w.alloc (.cells a.toArray ta)).alloc (.cells b.toArray tb)).alloc (.cells c.toArray tc)) (w.heap.size) a∧Own (((w.alloc (.cells a.toArray ta)).alloc (.cells b.toArray tb)).alloc (.cells c.toArray tc)) (w.heap.size+1) b∧Own (((w.alloc (.cells a.toArray ta)).alloc (.cells b.toArray tb)).alloc (.cells c.toArray tc)) (w.heap.size+2) c:=by
  have h0:=boxed_below w (.cells a.toArray ta);have h1:=h0.alloc h0.size (.cells b.toArray tb);have h2:=h1.alloc h1.size (.cells c.toArray tc);exact ⟨h2,((Own.new (w:=w) (g:=w.heap.size) (by simp) a ta).alloc (.cells b.toArray tb)).alloc (.cells c.toArray tc),(Own.new (w:=(w.alloc (.cells a.toArray ta))) (g:=w.heap.size+1) (by simp) b tb).alloc (.cells c.toArray tc),Own.new (w:=((w.alloc (.cells a.toArray ta)).alloc (.cells b.toArray tb))) (g:=w.heap.size+2) (by simp) c tc⟩
theorem boxes4 (w:World) (a:List Value) (ta:TypeId) (b:List Value) (tb:TypeId) (c:List Value) (tc:TypeId) (d:List Value) (td:TypeId):Below w.heap.size w ((((w.alloc (.cells a.toArray ta)).alloc (.cells b.toArray tb)).alloc (.cells c.toArray tc)).alloc (.cells d.toArray td))∧Own ((((w.alloc (.cells a.toArray ta)).alloc (.cells b.toArray tb)).alloc (.cells c.toArray tc)).alloc (.cells d.toArray td)) (w.heap.size) a∧Own ((((w.alloc (.cells a.toArray ta)).alloc (.cells b.toArray tb)).alloc (.cells c.toArray tc)).alloc (.cells d.toArray td)) (w.heap.size+1) b∧Own ((((w.alloc (.cells a.toArray ta)).alloc (.cells b.toArray tb)).alloc (.cells c.toArray tc)).alloc (.cells d.toArray td)) (w.heap.size+2) c∧Own ((((w.alloc (.cells a.toArray ta)).alloc (.cells b.toArray tb)).alloc (.cells c.toArray tc)).alloc (.cells d.toArray td)) (w.heap.size+3) d:=by
  have h0:=boxed_below w (.cells a.toArray ta);have h1:=h0.alloc h0.size (.cells b.toArray tb);have h2:=h1.alloc h1.size (.cells c.toArray tc);have h3:=h2.alloc h2.size (.cells d.toArray td);exact ⟨h3,(((Own.new (w:=w) (g:=w.heap.size) (by simp) a ta).alloc (.cells b.toArray tb)).alloc (.cells c.toArray tc)).alloc (.cells d.toArray td),((Own.new (w:=(w.alloc (.cells a.toArray ta))) (g:=w.heap.size+1) (by simp) b tb).alloc (.cells c.toArray tc)).alloc (.cells d.toArray td),(Own.new (w:=((w.alloc (.cells a.toArray ta)).alloc (.cells b.toArray tb))) (g:=w.heap.size+2) (by simp) c tc).alloc (.cells d.toArray td),Own.new (w:=(((w.alloc (.cells a.toArray ta)).alloc (.cells b.toArray tb)).alloc (.cells c.toArray tc))) (g:=w.heap.size+3) (by simp) d td⟩
theorem Own.c0 {w:World} {g:Nat} {x0:Value} {l:List Value} (h:Own w g (x0::l)):w.cell? ⟨g,0,none⟩=some x0:=by simpa using h.cell 0 (by simp)
theorem Own.c1 {w:World} {g:Nat} {x0 x1:Value} {l:List Value} (h:Own w g (x0::x1::l)):w.cell? ⟨g,1,none⟩=some x1:=by simpa using h.cell 1 (by simp)
theorem Own.c2 {w:World} {g:Nat} {x0 x1 x2:Value} {l:List Value} (h:Own w g (x0::x1::x2::l)):w.cell? ⟨g,2,none⟩=some x2:=by simpa using h.cell 2 (by simp)
theorem Own.c3 {w:World} {g:Nat} {x0 x1 x2 x3:Value} {l:List Value} (h:Own w g (x0::x1::x2::x3::l)):w.cell? ⟨g,3,none⟩=some x3:=by simpa using h.cell 3 (by simp)
theorem Own.c4 {w:World} {g:Nat} {x0 x1 x2 x3 x4:Value} {l:List Value} (h:Own w g (x0::x1::x2::x3::x4::l)):w.cell? ⟨g,4,none⟩=some x4:=by simpa using h.cell 4 (by simp)
theorem Own.c5 {w:World} {g:Nat} {x0 x1 x2 x3 x4 x5:Value} {l:List Value} (h:Own w g (x0::x1::x2::x3::x4::x5::l)):w.cell? ⟨g,5,none⟩=some x5:=by simpa using h.cell 5 (by simp)
theorem Own.c6 {w:World} {g:Nat} {x0 x1 x2 x3 x4 x5 x6:Value} {l:List Value} (h:Own w g (x0::x1::x2::x3::x4::x5::x6::l)):w.cell? ⟨g,6,none⟩=some x6:=by simpa using h.cell 6 (by simp)
theorem Own.c7 {w:World} {g:Nat} {x0 x1 x2 x3 x4 x5 x6 x7:Value} {l:List Value} (h:Own w g (x0::x1::x2::x3::x4::x5::x6::x7::l)):w.cell? ⟨g,7,none⟩=some x7:=by simpa using h.cell 7 (by simp)
theorem Own.c8 {w:World} {g:Nat} {x0 x1 x2 x3 x4 x5 x6 x7 x8:Value} {l:List Value} (h:Own w g (x0::x1::x2::x3::x4::x5::x6::x7::x8::l)):w.cell? ⟨g,8,none⟩=some x8:=by simpa using h.cell 8 (by simp)
theorem Own.c9 {w:World} {g:Nat} {x0 x1 x2 x3 x4 x5 x6 x7 x8 x9:Value} {l:List Value} (h:Own w g (x0::x1::x2::x3::x4::x5::x6::x7::x8::x9::l)):w.cell? ⟨g,9,none⟩=some x9:=by simpa using h.cell 9 (by simp)
theorem Own.c10 {w:World} {g:Nat} {x0 x1 x2 x3 x4 x5 x6 x7 x8 x9 x10:Value} {l:List Value} (h:Own w g (x0::x1::x2::x3::x4::x5::x6::x7::x8::x9::x10::l)):w.cell? ⟨g,10,none⟩=some x10:=by simpa using h.cell 10 (by simp)
theorem Own.c11 {w:World} {g:Nat} {x0 x1 x2 x3 x4 x5 x6 x7 x8 x9 x10 x11:Value} {l:List Value} (h:Own w g (x0::x1::x2::x3::x4::x5::x6::x7::x8::x9::x10::x11::l)):w.cell? ⟨g,11,none⟩=some x11:=by simpa using h.cell 11 (by simp)
theorem Own.c12 {w:World} {g:Nat} {x0 x1 x2 x3 x4 x5 x6 x7 x8 x9 x10 x11 x12:Value} {l:List Value} (h:Own w g (x0::x1::x2::x3::x4::x5::x6::x7::x8::x9::x10::x11::x12::l)):w.cell? ⟨g,12,none⟩=some x12:=by simpa using h.cell 12 (by simp)
theorem Own.c13 {w:World} {g:Nat} {x0 x1 x2 x3 x4 x5 x6 x7 x8 x9 x10 x11 x12 x13:Value} {l:List Value} (h:Own w g (x0::x1::x2::x3::x4::x5::x6::x7::x8::x9::x10::x11::x12::x13::l)):w.cell? ⟨g,13,none⟩=some x13:=by simpa using h.cell 13 (by simp)
theorem Own.f {w:World} {g:Nat} {cs:List Value} (h:Own w g cs) (j:Nat):w.frozen? ⟨g,j,none⟩=false:=h.frozen j
theorem Own.t1 {w:World} {g:Nat} {x0:Value} {l:List Value} (h:Own w g (x0::l)):w.cell? ⟨g,0,none⟩=some x0:=h.c0
theorem Own.s1 {w:World} {g:Nat} {x0:Value} {l:List Value} (h:Own w g (x0::l)):(∀ j,w.frozen? ⟨g,j,none⟩=false)∧w.cell? ⟨g,0,none⟩=some x0:=⟨h.f,h.t1⟩
theorem Own.t2 {w:World} {g:Nat} {x0 x1:Value} {l:List Value} (h:Own w g (x0::x1::l)):w.cell? ⟨g,0,none⟩=some x0∧w.cell? ⟨g,1,none⟩=some x1:=⟨h.c0,h.c1⟩
theorem Own.s2 {w:World} {g:Nat} {x0 x1:Value} {l:List Value} (h:Own w g (x0::x1::l)):(∀ j,w.frozen? ⟨g,j,none⟩=false)∧w.cell? ⟨g,0,none⟩=some x0∧w.cell? ⟨g,1,none⟩=some x1:=⟨h.f,h.t2⟩
theorem Own.t3 {w:World} {g:Nat} {x0 x1 x2:Value} {l:List Value} (h:Own w g (x0::x1::x2::l)):w.cell? ⟨g,0,none⟩=some x0∧w.cell? ⟨g,1,none⟩=some x1∧w.cell? ⟨g,2,none⟩=some x2:=⟨h.c0,h.c1,h.c2⟩
theorem Own.s3 {w:World} {g:Nat} {x0 x1 x2:Value} {l:List Value} (h:Own w g (x0::x1::x2::l)):(∀ j,w.frozen? ⟨g,j,none⟩=false)∧w.cell? ⟨g,0,none⟩=some x0∧w.cell? ⟨g,1,none⟩=some x1∧w.cell? ⟨g,2,none⟩=some x2:=⟨h.f,h.t3⟩
theorem Own.t4 {w:World} {g:Nat} {x0 x1 x2 x3:Value} {l:List Value} (h:Own w g (x0::x1::x2::x3::l)):w.cell? ⟨g,0,none⟩=some x0∧w.cell? ⟨g,1,none⟩=some x1∧w.cell? ⟨g,2,none⟩=some x2∧w.cell? ⟨g,3,none⟩=some x3:=⟨h.c0,h.c1,h.c2,h.c3⟩
theorem Own.s4 {w:World} {g:Nat} {x0 x1 x2 x3:Value} {l:List Value} (h:Own w g (x0::x1::x2::x3::l)):(∀ j,w.frozen? ⟨g,j,none⟩=false)∧w.cell? ⟨g,0,none⟩=some x0∧w.cell? ⟨g,1,none⟩=some x1∧w.cell? ⟨g,2,none⟩=some x2∧w.cell? ⟨g,3,none⟩=some x3:=⟨h.f,h.t4⟩
theorem Own.t5 {w:World} {g:Nat} {x0 x1 x2 x3 x4:Value} {l:List Value} (h:Own w g (x0::x1::x2::x3::x4::l)):w.cell? ⟨g,0,none⟩=some x0∧w.cell? ⟨g,1,none⟩=some x1∧w.cell? ⟨g,2,none⟩=some x2∧w.cell? ⟨g,3,none⟩=some x3∧w.cell? ⟨g,4,none⟩=some x4:=⟨h.c0,h.c1,h.c2,h.c3,h.c4⟩
theorem Own.s5 {w:World} {g:Nat} {x0 x1 x2 x3 x4:Value} {l:List Value} (h:Own w g (x0::x1::x2::x3::x4::l)):(∀ j,w.frozen? ⟨g,j,none⟩=false)∧w.cell? ⟨g,0,none⟩=some x0∧w.cell? ⟨g,1,none⟩=some x1∧w.cell? ⟨g,2,none⟩=some x2∧w.cell? ⟨g,3,none⟩=some x3∧w.cell? ⟨g,4,none⟩=some x4:=⟨h.f,h.t5⟩
theorem Own.t6 {w:World} {g:Nat} {x0 x1 x2 x3 x4 x5:Value} {l:List Value} (h:Own w g (x0::x1::x2::x3::x4::x5::l)):w.cell? ⟨g,0,none⟩=some x0∧w.cell? ⟨g,1,none⟩=some x1∧w.cell? ⟨g,2,none⟩=some x2∧w.cell? ⟨g,3,none⟩=some x3∧w.cell? ⟨g,4,none⟩=some x4∧w.cell? ⟨g,5,none⟩=some x5:=⟨h.c0,h.c1,h.c2,h.c3,h.c4,h.c5⟩
theorem Own.s6 {w:World} {g:Nat} {x0 x1 x2 x3 x4 x5:Value} {l:List Value} (h:Own w g (x0::x1::x2::x3::x4::x5::l)):(∀ j,w.frozen? ⟨g,j,none⟩=false)∧w.cell? ⟨g,0,none⟩=some x0∧w.cell? ⟨g,1,none⟩=some x1∧w.cell? ⟨g,2,none⟩=some x2∧w.cell? ⟨g,3,none⟩=some x3∧w.cell? ⟨g,4,none⟩=some x4∧w.cell? ⟨g,5,none⟩=some x5:=⟨h.f,h.t6⟩
theorem Own.t7 {w:World} {g:Nat} {x0 x1 x2 x3 x4 x5 x6:Value} {l:List Value} (h:Own w g (x0::x1::x2::x3::x4::x5::x6::l)):w.cell? ⟨g,0,none⟩=some x0∧w.cell? ⟨g,1,none⟩=some x1∧w.cell? ⟨g,2,none⟩=some x2∧w.cell? ⟨g,3,none⟩=some x3∧w.cell? ⟨g,4,none⟩=some x4∧w.cell? ⟨g,5,none⟩=some x5∧w.cell? ⟨g,6,none⟩=some x6:=⟨h.c0,h.c1,h.c2,h.c3,h.c4,h.c5,h.c6⟩
theorem Own.s7 {w:World} {g:Nat} {x0 x1 x2 x3 x4 x5 x6:Value} {l:List Value} (h:Own w g (x0::x1::x2::x3::x4::x5::x6::l)):(∀ j,w.frozen? ⟨g,j,none⟩=false)∧w.cell? ⟨g,0,none⟩=some x0∧w.cell? ⟨g,1,none⟩=some x1∧w.cell? ⟨g,2,none⟩=some x2∧w.cell? ⟨g,3,none⟩=some x3∧w.cell? ⟨g,4,none⟩=some x4∧w.cell? ⟨g,5,none⟩=some x5∧w.cell? ⟨g,6,none⟩=some x6:=⟨h.f,h.t7⟩
theorem Own.t8 {w:World} {g:Nat} {x0 x1 x2 x3 x4 x5 x6 x7:Value} {l:List Value} (h:Own w g (x0::x1::x2::x3::x4::x5::x6::x7::l)):w.cell? ⟨g,0,none⟩=some x0∧w.cell? ⟨g,1,none⟩=some x1∧w.cell? ⟨g,2,none⟩=some x2∧w.cell? ⟨g,3,none⟩=some x3∧w.cell? ⟨g,4,none⟩=some x4∧w.cell? ⟨g,5,none⟩=some x5∧w.cell? ⟨g,6,none⟩=some x6∧w.cell? ⟨g,7,none⟩=some x7:=⟨h.c0,h.c1,h.c2,h.c3,h.c4,h.c5,h.c6,h.c7⟩
theorem Own.s8 {w:World} {g:Nat} {x0 x1 x2 x3 x4 x5 x6 x7:Value} {l:List Value} (h:Own w g (x0::x1::x2::x3::x4::x5::x6::x7::l)):(∀ j,w.frozen? ⟨g,j,none⟩=false)∧w.cell? ⟨g,0,none⟩=some x0∧w.cell? ⟨g,1,none⟩=some x1∧w.cell? ⟨g,2,none⟩=some x2∧w.cell? ⟨g,3,none⟩=some x3∧w.cell? ⟨g,4,none⟩=some x4∧w.cell? ⟨g,5,none⟩=some x5∧w.cell? ⟨g,6,none⟩=some x6∧w.cell? ⟨g,7,none⟩=some x7:=⟨h.f,h.t8⟩
theorem Own.t9 {w:World} {g:Nat} {x0 x1 x2 x3 x4 x5 x6 x7 x8:Value} {l:List Value} (h:Own w g (x0::x1::x2::x3::x4::x5::x6::x7::x8::l)):w.cell? ⟨g,0,none⟩=some x0∧w.cell? ⟨g,1,none⟩=some x1∧w.cell? ⟨g,2,none⟩=some x2∧w.cell? ⟨g,3,none⟩=some x3∧w.cell? ⟨g,4,none⟩=some x4∧w.cell? ⟨g,5,none⟩=some x5∧w.cell? ⟨g,6,none⟩=some x6∧w.cell? ⟨g,7,none⟩=some x7∧w.cell? ⟨g,8,none⟩=some x8:=⟨h.c0,h.c1,h.c2,h.c3,h.c4,h.c5,h.c6,h.c7,h.c8⟩
theorem Own.s9 {w:World} {g:Nat} {x0 x1 x2 x3 x4 x5 x6 x7 x8:Value} {l:List Value} (h:Own w g (x0::x1::x2::x3::x4::x5::x6::x7::x8::l)):(∀ j,w.frozen? ⟨g,j,none⟩=false)∧w.cell? ⟨g,0,none⟩=some x0∧w.cell? ⟨g,1,none⟩=some x1∧w.cell? ⟨g,2,none⟩=some x2∧w.cell? ⟨g,3,none⟩=some x3∧w.cell? ⟨g,4,none⟩=some x4∧w.cell? ⟨g,5,none⟩=some x5∧w.cell? ⟨g,6,none⟩=some x6∧w.cell? ⟨g,7,none⟩=some x7∧w.cell? ⟨g,8,none⟩=some x8:=⟨h.f,h.t9⟩
theorem Own.t10 {w:World} {g:Nat} {x0 x1 x2 x3 x4 x5 x6 x7 x8 x9:Value} {l:List Value} (h:Own w g (x0::x1::x2::x3::x4::x5::x6::x7::x8::x9::l)):w.cell? ⟨g,0,none⟩=some x0∧w.cell? ⟨g,1,none⟩=some x1∧w.cell? ⟨g,2,none⟩=some x2∧w.cell? ⟨g,3,none⟩=some x3∧w.cell? ⟨g,4,none⟩=some x4∧w.cell? ⟨g,5,none⟩=some x5∧w.cell? ⟨g,6,none⟩=some x6∧w.cell? ⟨g,7,none⟩=some x7∧w.cell? ⟨g,8,none⟩=some x8∧w.cell? ⟨g,9,none⟩=some x9:=⟨h.c0,h.c1,h.c2,h.c3,h.c4,h.c5,h.c6,h.c7,h.c8,h.c9⟩
theorem Own.s10 {w:World} {g:Nat} {x0 x1 x2 x3 x4 x5 x6 x7 x8 x9:Value} {l:List Value} (h:Own w g (x0::x1::x2::x3::x4::x5::x6::x7::x8::x9::l)):(∀ j,w.frozen? ⟨g,j,none⟩=false)∧w.cell? ⟨g,0,none⟩=some x0∧w.cell? ⟨g,1,none⟩=some x1∧w.cell? ⟨g,2,none⟩=some x2∧w.cell? ⟨g,3,none⟩=some x3∧w.cell? ⟨g,4,none⟩=some x4∧w.cell? ⟨g,5,none⟩=some x5∧w.cell? ⟨g,6,none⟩=some x6∧w.cell? ⟨g,7,none⟩=some x7∧w.cell? ⟨g,8,none⟩=some x8∧w.cell? ⟨g,9,none⟩=some x9:=⟨h.f,h.t10⟩
theorem Own.t11 {w:World} {g:Nat} {x0 x1 x2 x3 x4 x5 x6 x7 x8 x9 x10:Value} {l:List Value} (h:Own w g (x0::x1::x2::x3::x4::x5::x6::x7::x8::x9::x10::l)):w.cell? ⟨g,0,none⟩=some x0∧w.cell? ⟨g,1,none⟩=some x1∧w.cell? ⟨g,2,none⟩=some x2∧w.cell? ⟨g,3,none⟩=some x3∧w.cell? ⟨g,4,none⟩=some x4∧w.cell? ⟨g,5,none⟩=some x5∧w.cell? ⟨g,6,none⟩=some x6∧w.cell? ⟨g,7,none⟩=some x7∧w.cell? ⟨g,8,none⟩=some x8∧w.cell? ⟨g,9,none⟩=some x9∧w.cell? ⟨g,10,none⟩=some x10:=⟨h.c0,h.c1,h.c2,h.c3,h.c4,h.c5,h.c6,h.c7,h.c8,h.c9,h.c10⟩
theorem Own.s11 {w:World} {g:Nat} {x0 x1 x2 x3 x4 x5 x6 x7 x8 x9 x10:Value} {l:List Value} (h:Own w g (x0::x1::x2::x3::x4::x5::x6::x7::x8::x9::x10::l)):(∀ j,w.frozen? ⟨g,j,none⟩=false)∧w.cell? ⟨g,0,none⟩=some x0∧w.cell? ⟨g,1,none⟩=some x1∧w.cell? ⟨g,2,none⟩=some x2∧w.cell? ⟨g,3,none⟩=some x3∧w.cell? ⟨g,4,none⟩=some x4∧w.cell? ⟨g,5,none⟩=some x5∧w.cell? ⟨g,6,none⟩=some x6∧w.cell? ⟨g,7,none⟩=some x7∧w.cell? ⟨g,8,none⟩=some x8∧w.cell? ⟨g,9,none⟩=some x9∧w.cell? ⟨g,10,none⟩=some x10:=⟨h.f,h.t11⟩
theorem Own.t12 {w:World} {g:Nat} {x0 x1 x2 x3 x4 x5 x6 x7 x8 x9 x10 x11:Value} {l:List Value} (h:Own w g (x0::x1::x2::x3::x4::x5::x6::x7::x8::x9::x10::x11::l)):w.cell? ⟨g,0,none⟩=some x0∧w.cell? ⟨g,1,none⟩=some x1∧w.cell? ⟨g,2,none⟩=some x2∧w.cell? ⟨g,3,none⟩=some x3∧w.cell? ⟨g,4,none⟩=some x4∧w.cell? ⟨g,5,none⟩=some x5∧w.cell? ⟨g,6,none⟩=some x6∧w.cell? ⟨g,7,none⟩=some x7∧w.cell? ⟨g,8,none⟩=some x8∧w.cell? ⟨g,9,none⟩=some x9∧w.cell? ⟨g,10,none⟩=some x10∧w.cell? ⟨g,11,none⟩=some x11:=⟨h.c0,h.c1,h.c2,h.c3,h.c4,h.c5,h.c6,h.c7,h.c8,h.c9,h.c10,h.c11⟩
theorem Own.s12 {w:World} {g:Nat} {x0 x1 x2 x3 x4 x5 x6 x7 x8 x9 x10 x11:Value} {l:List Value} (h:Own w g (x0::x1::x2::x3::x4::x5::x6::x7::x8::x9::x10::x11::l)):(∀ j,w.frozen? ⟨g,j,none⟩=false)∧w.cell? ⟨g,0,none⟩=some x0∧w.cell? ⟨g,1,none⟩=some x1∧w.cell? ⟨g,2,none⟩=some x2∧w.cell? ⟨g,3,none⟩=some x3∧w.cell? ⟨g,4,none⟩=some x4∧w.cell? ⟨g,5,none⟩=some x5∧w.cell? ⟨g,6,none⟩=some x6∧w.cell? ⟨g,7,none⟩=some x7∧w.cell? ⟨g,8,none⟩=some x8∧w.cell? ⟨g,9,none⟩=some x9∧w.cell? ⟨g,10,none⟩=some x10∧w.cell? ⟨g,11,none⟩=some x11:=⟨h.f,h.t12⟩
theorem Own.t13 {w:World} {g:Nat} {x0 x1 x2 x3 x4 x5 x6 x7 x8 x9 x10 x11 x12:Value} {l:List Value} (h:Own w g (x0::x1::x2::x3::x4::x5::x6::x7::x8::x9::x10::x11::x12::l)):w.cell? ⟨g,0,none⟩=some x0∧w.cell? ⟨g,1,none⟩=some x1∧w.cell? ⟨g,2,none⟩=some x2∧w.cell? ⟨g,3,none⟩=some x3∧w.cell? ⟨g,4,none⟩=some x4∧w.cell? ⟨g,5,none⟩=some x5∧w.cell? ⟨g,6,none⟩=some x6∧w.cell? ⟨g,7,none⟩=some x7∧w.cell? ⟨g,8,none⟩=some x8∧w.cell? ⟨g,9,none⟩=some x9∧w.cell? ⟨g,10,none⟩=some x10∧w.cell? ⟨g,11,none⟩=some x11∧w.cell? ⟨g,12,none⟩=some x12:=⟨h.c0,h.c1,h.c2,h.c3,h.c4,h.c5,h.c6,h.c7,h.c8,h.c9,h.c10,h.c11,h.c12⟩
theorem Own.s13 {w:World} {g:Nat} {x0 x1 x2 x3 x4 x5 x6 x7 x8 x9 x10 x11 x12:Value} {l:List Value} (h:Own w g (x0::x1::x2::x3::x4::x5::x6::x7::x8::x9::x10::x11::x12::l)):(∀ j,w.frozen? ⟨g,j,none⟩=false)∧w.cell? ⟨g,0,none⟩=some x0∧w.cell? ⟨g,1,none⟩=some x1∧w.cell? ⟨g,2,none⟩=some x2∧w.cell? ⟨g,3,none⟩=some x3∧w.cell? ⟨g,4,none⟩=some x4∧w.cell? ⟨g,5,none⟩=some x5∧w.cell? ⟨g,6,none⟩=some x6∧w.cell? ⟨g,7,none⟩=some x7∧w.cell? ⟨g,8,none⟩=some x8∧w.cell? ⟨g,9,none⟩=some x9∧w.cell? ⟨g,10,none⟩=some x10∧w.cell? ⟨g,11,none⟩=some x11∧w.cell? ⟨g,12,none⟩=some x12:=⟨h.f,h.t13⟩
theorem Own.t14 {w:World} {g:Nat} {x0 x1 x2 x3 x4 x5 x6 x7 x8 x9 x10 x11 x12 x13:Value} {l:List Value} (h:Own w g (x0::x1::x2::x3::x4::x5::x6::x7::x8::x9::x10::x11::x12::x13::l)):w.cell? ⟨g,0,none⟩=some x0∧w.cell? ⟨g,1,none⟩=some x1∧w.cell? ⟨g,2,none⟩=some x2∧w.cell? ⟨g,3,none⟩=some x3∧w.cell? ⟨g,4,none⟩=some x4∧w.cell? ⟨g,5,none⟩=some x5∧w.cell? ⟨g,6,none⟩=some x6∧w.cell? ⟨g,7,none⟩=some x7∧w.cell? ⟨g,8,none⟩=some x8∧w.cell? ⟨g,9,none⟩=some x9∧w.cell? ⟨g,10,none⟩=some x10∧w.cell? ⟨g,11,none⟩=some x11∧w.cell? ⟨g,12,none⟩=some x12∧w.cell? ⟨g,13,none⟩=some x13:=⟨h.c0,h.c1,h.c2,h.c3,h.c4,h.c5,h.c6,h.c7,h.c8,h.c9,h.c10,h.c11,h.c12,h.c13⟩
theorem Own.s14 {w:World} {g:Nat} {x0 x1 x2 x3 x4 x5 x6 x7 x8 x9 x10 x11 x12 x13:Value} {l:List Value} (h:Own w g (x0::x1::x2::x3::x4::x5::x6::x7::x8::x9::x10::x11::x12::x13::l)):(∀ j,w.frozen? ⟨g,j,none⟩=false)∧w.cell? ⟨g,0,none⟩=some x0∧w.cell? ⟨g,1,none⟩=some x1∧w.cell? ⟨g,2,none⟩=some x2∧w.cell? ⟨g,3,none⟩=some x3∧w.cell? ⟨g,4,none⟩=some x4∧w.cell? ⟨g,5,none⟩=some x5∧w.cell? ⟨g,6,none⟩=some x6∧w.cell? ⟨g,7,none⟩=some x7∧w.cell? ⟨g,8,none⟩=some x8∧w.cell? ⟨g,9,none⟩=some x9∧w.cell? ⟨g,10,none⟩=some x10∧w.cell? ⟨g,11,none⟩=some x11∧w.cell? ⟨g,12,none⟩=some x12∧w.cell? ⟨g,13,none⟩=some x13:=⟨h.f,h.t14⟩
end Go.Proofs.YtdjgcenjonegjaaGreat
namespace Go.Proofs.YtdjgcenjonegjaaGreat
set_option linter.unusedSimpArgs false
set_option linter.unusedVariables false
open Go Go.RowKit
set_option maxRecDepth 20000

/-- what is thrown -/
abbrev refV (k:Int):Value:=.iface 215 (.agg #[I k])
theorem want_yes (k:Int) (w:World):Calls Tryz.prog 75 #[.bool true,I k] w (Pure (.tuple #[]) w):=by
  go_enter Tryz.func75,Tryz.ntmps75;go_wp2;exact bodyPost_ret (results_none rfl _ _ _) rfl ⟨rfl,rfl⟩
theorem want_no (k:Int) (w:World):Calls Tryz.prog 75 #[.bool false,I k] w (fun e w'=>e=.panicked [{ v:=refV k,recovered:=false }]∧w'=w):=by
  go_enter Tryz.func75,Tryz.ntmps75;go_wp2;exact ⟨rfl,rfl,rfl⟩
theorem bwithin_any (n a b:Int) (w:World):Calls Tryz.prog 121 #[I n,I a,I b] w (Pure (.bool (inB n a b)) w):=by
  go_enter Tryz.func121,Tryz.ntmps121;go_wp2
  all_goals
    go_ret;refine Pure.intro ?_;simp only [inB];simp [*]
    try omega
theorem as_err (k:Int) (w:World):(Instr.typeAssert (refV k) 20 187 false).run Tryz.prog w=.ok (refV k) w:=by kernel_rfl
theorem as_ref (k:Int) (w:World):(Instr.typeAssert (refV k) 187 215 true).run Tryz.prog w=.ok (.tuple #[.agg #[I k],.bool true]) w:=by kernel_rfl
theorem caught_nil (k:Int) (w:World):Calls Tryz.prog 74 #[.nilIface,I k] w (Grew (I k) w):=by
  go_enter Tryz.func74,Tryz.ntmps74;go_wp2;go_ret;exact Grew.intro rfl below_auto
theorem caught_ref (k e:Int) (w:World):Calls Tryz.prog 74 #[refV k,I e] w (Grew (I k) w):=by
  have h1:=as_err k;have h2:=as_ref k;go_enter Tryz.func74,Tryz.ntmps74;go_wp2;go_ret;exact Grew.intro rfl below_auto
end Go.Proofs.YtdjgcenjonegjaaGreat
namespace Go.Proofs.YtdjgcenjonegjaaGreat
set_option linter.unusedSimpArgs false
set_option linter.unusedVariables false
open Go Go.RowKit
set_option maxRecDepth 20000

/-- the closure's frame below, the box of e, what e holds behind it -/
def RecP (g:Nat) (k:Int) (u:FrameMode) (w:World) (e:Ending) (u':FrameMode) (w':World):Prop:=
  e=.returned (.tuple #[])∧u'=u∧∃ w1,Below w.heap.size w w1∧w'=w1.setCell ⟨g,0,none⟩ (I k)
theorem enc_pan (g:Nat) (x k:Int) (older:List PanicEntry) (w:World) (hg:g < w.heap.size) (hc:w.cell? ⟨g,0,none⟩=some (I x)) (hz:w.frozen? ⟨g,0,none⟩=false):
    CallsD Tryz.prog 147 #[.pointer (some ⟨g,0,none⟩)] (.panicking ({ v:=refV k,recovered:=false }::older)) w (RecP g k (.panicking ({ v:=refV k,recovered:=true }::older)) w):=by
  refine callsD_of_wpS Tryz.func147 rfl fun c₀ cs hu=>?_
  have C:=Lib.hid (fun W=>caught_ref k x W);refine wpS_draw [[0,1,2,3],[1,0,2,3]] (by kernel_rfl) (by kernel_rfl) fun l hl=>?_
  simp only [List.mem_cons,List.not_mem_nil,or_false] at hl;rcases hl with rfl | rfl
  all_goals
    simp [wpOpsS,go_sem,recoverD,hu,Tryz.ntmps147,hc,hz];refine (C.out _).mono ?_;rintro e w1 ⟨rfl,k1⟩;have kk:Below w.heap.size w w1:=(drewN_below (Below.refl _ w) 1).trans k1;have c1:=(kk.cell (p:=⟨g,0,none⟩) hg).trans hc;have f1:=(kk.frozen (p:=⟨g,0,none⟩) hg).trans hz;simp [go_sem,c1,f1,bodyPostS,results,Tryz.results147,Exit.thenS]
  all_goals exact ⟨rfl,rfl,_,kk,rfl⟩
theorem enc_idle (g:Nat) (x:Int) (w:World) (hg:g < w.heap.size) (hc:w.cell? ⟨g,0,none⟩=some (I x)) (hz:w.frozen? ⟨g,0,none⟩=false):
    CallsD Tryz.prog 147 #[.pointer (some ⟨g,0,none⟩)] .returning w (RecP g x .returning w):=by
  refine callsD_of_wpS Tryz.func147 rfl fun c₀ cs hu=>?_
  have C:=Lib.hid (fun W=>caught_nil x W);refine wpS_draw [[0,1,2,3],[1,0,2,3]] (by kernel_rfl) (by kernel_rfl) fun l hl=>?_
  simp only [List.mem_cons,List.not_mem_nil,or_false] at hl;rcases hl with rfl | rfl
  all_goals
    simp [wpOpsS,go_sem,recoverD,hu,Tryz.ntmps147,hc,hz];refine (C.out _).mono ?_;rintro e w1 ⟨rfl,k1⟩;have kk:Below w.heap.size w w1:=(drewN_below (Below.refl _ w) 1).trans k1;have c1:=(kk.cell (p:=⟨g,0,none⟩) hg).trans hc;have f1:=(kk.frozen (p:=⟨g,0,none⟩) hg).trans hz;simp [go_sem,c1,f1,bodyPostS,results,Tryz.results147,Exit.thenS]
  all_goals exact ⟨.returning,(by cases c₀;simp_all),rfl,rfl,_,kk,rfl⟩
/-- an event is struck out -/
def zero13 (W:World) (gv:Nat):World:=(((((((((((((W.setCell ⟨gv,0,none⟩ (I 0)).setCell ⟨gv,1,none⟩ (I 0)).setCell ⟨gv,2,none⟩ (I 0)).setCell ⟨gv,3,none⟩ (I 0)).setCell ⟨gv,4,none⟩ (I 0)).setCell ⟨gv,5,none⟩ (I 0)).setCell ⟨gv,6,none⟩ (I 0)).setCell ⟨gv,7,none⟩ (I 0)).setCell ⟨gv,8,none⟩ (I 0)).setCell ⟨gv,9,none⟩ (I 0)).setCell ⟨gv,10,none⟩ (I 0)).setCell ⟨gv,11,none⟩ (I 0)).setCell ⟨gv,12,none⟩ (I 0))
def DecP (g gv:Nat) (k:Int) (u:FrameMode) (w:World) (e:Ending) (u':FrameMode) (w':World):Prop:=
  e=.returned (.tuple #[])∧u'=u∧∃ w1,Below w.heap.size w w1∧w'=if k=0 then w1.setCell ⟨g,0,none⟩ (I k) else zero13 (w1.setCell ⟨g,0,none⟩ (I k)) gv
theorem dec_pan (g gv:Nat) (x k:Int) (x0 x1 x2 x3 x4 x5 x6 x7 x8 x9 x10 x11 x12:Int) (older:List PanicEntry) (w:World) (hk:k≠0) (hgv:gv≠g) (hv:Own w gv [I x0,I x1,I x2,I x3,I x4,I x5,I x6,I x7,I x8,I x9,I x10,I x11,I x12]) (hg:g < w.heap.size) (hc:w.cell? ⟨g,0,none⟩=some (I x)) (hz:w.frozen? ⟨g,0,none⟩=false):
    CallsD Tryz.prog 73 #[.pointer (some ⟨g,0,none⟩),.pointer (some ⟨gv,0,none⟩)] (.panicking ({ v:=refV k,recovered:=false }::older)) w (DecP g gv k (.panicking ({ v:=refV k,recovered:=true }::older)) w):=by
  refine callsD_of_wpS Tryz.func73 rfl fun c₀ cs hu=>?_
  have C:=Lib.hid (fun W=>caught_ref k x W);apply wpS_seq;refine wpS_draw [[0,1,2,3],[1,0,2,3]] (by kernel_rfl) (by kernel_rfl) fun l hl=>?_
  simp only [List.mem_cons,List.not_mem_nil,or_false] at hl;rcases hl with rfl | rfl
  all_goals
    simp [wpOpsS,go_sem,recoverD,hu,Tryz.ntmps73,hc,hz];refine (C.out _).mono ?_;rintro e w1 ⟨rfl,k1⟩;have kk:Below w.heap.size w w1:=(drewN_below (Below.refl _ w) 1).trans k1;have c1:=(kk.cell (p:=⟨g,0,none⟩) hg).trans hc;have f1:=(kk.frozen (p:=⟨g,0,none⟩) hg).trans hz;simp [go_sem,c1,f1,bodyPostS,results,Tryz.results73,Exit.thenS]
  all_goals
    refine wpS_of_wp ?_;have vO:=hv.below kk;have vA:=vO.s13;clear vO;have r1:=set_same;have r2:=set_off;have r3:=set_blk;have n1:¬ g=gv:=by omega
    have n2:¬ gv=g:=by omega
    simp only [List.size_toArray,List.length_cons,List.length_nil,Array.replicate_succ,Array.replicate_zero,List.push_toArray,List.append_toArray,List.nil_append,List.cons_append,List.setIfInBounds_toArray,List.set_cons_zero,List.set_cons_succ];clear hc hz k1 hv;have hb:(k != 0)=true:=by simp [hk]
    go_wp2;exact ⟨rfl,_,rfl,_,results_none rfl _ _ _,rfl,rfl,w1,kk,by rw [if_neg hk];rfl⟩
theorem dec_idle (g gv:Nat) (x0 x1 x2 x3 x4 x5 x6 x7 x8 x9 x10 x11 x12:Int) (w:World) (hgv:gv≠g) (hv:Own w gv [I x0,I x1,I x2,I x3,I x4,I x5,I x6,I x7,I x8,I x9,I x10,I x11,I x12]) (hg:g < w.heap.size) (hc:w.cell? ⟨g,0,none⟩=some (I 0)) (hz:w.frozen? ⟨g,0,none⟩=false):
    CallsD Tryz.prog 73 #[.pointer (some ⟨g,0,none⟩),.pointer (some ⟨gv,0,none⟩)] .returning w (DecP g gv 0 .returning w):=by
  refine callsD_of_wpS Tryz.func73 rfl fun c₀ cs hu=>?_
  have C:=Lib.hid (fun W=>caught_nil 0 W);apply wpS_seq;refine wpS_draw [[0,1,2,3],[1,0,2,3]] (by kernel_rfl) (by kernel_rfl) fun l hl=>?_
  simp only [List.mem_cons,List.not_mem_nil,or_false] at hl;rcases hl with rfl | rfl
  all_goals
    simp [wpOpsS,go_sem,recoverD,hu,Tryz.ntmps73,hc,hz];refine (C.out _).mono ?_;rintro e w1 ⟨rfl,k1⟩;have kk:Below w.heap.size w w1:=(drewN_below (Below.refl _ w) 1).trans k1;have c1:=(kk.cell (p:=⟨g,0,none⟩) hg).trans hc;have f1:=(kk.frozen (p:=⟨g,0,none⟩) hg).trans hz;simp [go_sem,c1,f1,bodyPostS,results,Tryz.results73,Exit.thenS]
  all_goals
    refine wpS_of_wp ?_;have vO:=hv.below kk;have vA:=vO.s13;clear vO;have r1:=set_same;have r2:=set_off;have r3:=set_blk;have n1:¬ g=gv:=by omega
    have n2:¬ gv=g:=by omega
    simp only [List.size_toArray,List.length_cons,List.length_nil,Array.replicate_succ,Array.replicate_zero,List.push_toArray,List.append_toArray,List.nil_append,List.cons_append,List.setIfInBounds_toArray,List.set_cons_zero,List.set_cons_succ];clear hc hz k1 hv;go_wp2;exact ⟨rfl,.returning,(by cases c₀;simp_all),_,results_none rfl _ _ _,rfl,rfl,w1,kk,by rw [if_pos rfl]⟩
end Go.Proofs.YtdjgcenjonegjaaGreat
namespace Go.Proofs.YtdjgcenjonegjaaGreat
set_option linter.unusedSimpArgs false
set_option linter.unusedVariables false
open Go
set_option maxRecDepth 20000
section
variable {P:Program} (w:World) {d:Nat} {xs ys:Array Value} {f:Field} {fs:List Field}
theorem eqF_int {k q : IntKind} {a b : Int} (hn : f.name ≠ "_") (hu : P.underlying f.type = some (.int q)) (hx : xs[f.offset]? = some (.int k a)) (hy : ys[f.offset]? = some (.int k b)) :
    (Op.eqFields (d+1) xs ys (f::fs)).run P w=if a=b then (Op.eqFields (d+1) xs ys fs).run P w else .ok false w:=by
  have hp:P.plainKey f.type=true:=by simp [Program.plainKey,hu]
  simp only [Op.eqFields,hn,ne_eq,not_false_eq_true,if_true,Sem.run_bind,run_part_plain w hp hx,run_part_plain w hp hy,Result.andThen_ok,run_equalIn_int w d _ k q a b hu]
  by_cases h:a=b
  · simp [h]
  · simp [h]
theorem eqF_str {a b : ByteArray} (hn : f.name ≠ "_") (hu : P.underlying f.type = some .string) (hx : xs[f.offset]? = some (.string a)) (hy : ys[f.offset]? = some (.string b)) :
    (Op.eqFields (d+1) xs ys (f::fs)).run P w=if (a==b)=true then (Op.eqFields (d+1) xs ys fs).run P w else .ok false w:=by
  have hp:P.plainKey f.type=true:=by simp [Program.plainKey,hu]
  have he:(Op.equalIn (d+1) f.type (.string a) (.string b)).run P w=.ok (a==b) w:=by simp [Op.equalIn,run_underlying hu,Result.andThen]
  simp only [Op.eqFields,hn,ne_eq,not_false_eq_true,if_true,Sem.run_bind,run_part_plain w hp hx,run_part_plain w hp hy,Result.andThen_ok,he];cases h:(a==b)<;>simp
theorem eqF_sub {u v : Value} {r : Bool} (hn : f.name ≠ "_") (hx : (part f.type xs f.offset).run P w = .ok u w) (hy : (part f.type ys f.offset).run P w = .ok v w) (he : (Op.equalIn d f.type u v).run P w = .ok r w) :
    (Op.eqFields d xs ys (f::fs)).run P w=if r=true then (Op.eqFields d xs ys fs).run P w else .ok false w:=by
  simp only [Op.eqFields,hn,ne_eq,not_false_eq_true,if_true,Sem.run_bind,hx,hy,Result.andThen_ok,he];cases r<;>simp
theorem eqF_nil:(Op.eqFields d xs ys []).run P w=.ok true w:=by simp [Op.eqFields]
end
end Go.Proofs.YtdjgcenjonegjaaGreat
namespace Go.Proofs.YtdjgcenjonegjaaGreat
set_option linter.unusedSimpArgs false
set_option linter.unusedVariables false
open Go.RowKit
set_option maxRecDepth 20000
def eqE7 (x3 x4 x5 x6 x7 x8 x9 y3 y4 y5 y6 y7 y8 y9:Int):Bool:=decide (x3=y3∧x4=y4∧x5=y5∧x6=y6∧x7=y7∧x8=y8∧x9=y9)
def eqE (x0 x1 x2 x3 x4 x5 x6 x7 x8 x9 x10 x11 x12 y0 y1 y2 y3 y4 y5 y6 y7 y8 y9 y10 y11 y12:Int):Bool:=
  decide (x0=y0∧x1=y1∧x2=y2∧(x3=y3∧x4=y4∧x5=y5∧x6=y6∧x7=y7∧x8=y8∧x9=y9)∧x10=y10∧x11=y11∧x12=y12)
theorem eqlBillIn (x3 x4 x5 x6 x7 x8 x9 y3 y4 y5 y6 y7 y8 y9:Int) (w:World):(Op.equalIn 9999 39 (.agg #[I x3,I x4,I x5,I x6,I x7,I x8,I x9]) (.agg #[I y3,I y4,I y5,I y6,I y7,I y8,I y9])).run Tryz.prog w=.ok (eqE7 x3 x4 x5 x6 x7 x8 x9 y3 y4 y5 y6 y7 y8 y9) w:=by
  have hp:Tryz.prog.stoodInHeld 39=false:=by kernel_rfl
  have ht:Tryz.prog.underlying 39=some (.struct (Tryz.prog.fieldsOf 39)):=by kernel_rfl
  rw [run_equalIn_struct w 9998 39 _ _ ht hp];simp only [Program.fieldsOf,Tryz.underlying39];rw [eqF_int w (by decide) Tryz.underlying3 rfl rfl,eqF_int w (by decide) Tryz.underlying3 rfl rfl,eqF_int w (by decide) Tryz.underlying3 rfl rfl,eqF_int w (by decide) Tryz.underlying3 rfl rfl,eqF_int w (by decide) Tryz.underlying3 rfl rfl,eqF_int w (by decide) Tryz.underlying3 rfl rfl,eqF_int w (by decide) Tryz.underlying3 rfl rfl,eqF_nil];unfold eqE7
  (repeat' split)<;>simp_all
theorem eqlDebtIn (x y a b:Int) (w:World):(Op.equalIn 9999 46 (.agg #[I x,I y]) (.agg #[I a,I b])).run Tryz.prog w=.ok (decide (x=a∧y=b)) w:=by
  have hp:Tryz.prog.stoodInHeld 46=false:=by kernel_rfl
  have ht:Tryz.prog.underlying 46=some (.struct (Tryz.prog.fieldsOf 46)):=by kernel_rfl
  rw [run_equalIn_struct w 9998 46 _ _ ht hp];simp only [Program.fieldsOf,Tryz.underlying46];rw [eqF_int w (by decide) Tryz.underlying3 rfl rfl,eqF_int w (by decide) Tryz.underlying3 rfl rfl,eqF_nil]
  (repeat' split)<;>simp_all
set_option maxRecDepth 200000 in
theorem eqlEv_run (x0 x1 x2 x3 x4 x5 x6 x7 x8 x9 x10 x11 x12 y0 y1 y2 y3 y4 y5 y6 y7 y8 y9 y10 y11 y12:Int) (w:World):
    (binOp .eql 48 (.agg #[I x0,I x1,I x2,I x3,I x4,I x5,I x6,I x7,I x8,I x9,I x10,I x11,I x12]) (.agg #[I y0,I y1,I y2,I y3,I y4,I y5,I y6,I y7,I y8,I y9,I y10,I y11,I y12])).run Tryz.prog w=.ok (.bool (eqE x0 x1 x2 x3 x4 x5 x6 x7 x8 x9 x10 x11 x12 y0 y1 y2 y3 y4 y5 y6 y7 y8 y9 y10 y11 y12)) w:=by
  have hp:Tryz.prog.stoodInHeld 48=false:=by kernel_rfl
  have ht:Tryz.prog.underlying 48=some (.struct (Tryz.prog.fieldsOf 48)):=by kernel_rfl
  rw [run_eql_struct,run_equalIn_struct w 9999 48 _ _ ht hp];simp only [Program.fieldsOf,Tryz.underlying48]
  rw [eqF_int w (by decide) Tryz.underlying3 rfl rfl,eqF_int w (by decide) Tryz.underlying3 rfl rfl,eqF_int w (by decide) Tryz.underlying3 rfl rfl,
    eqF_sub w (u:=.agg #[I x3,I x4,I x5,I x6,I x7,I x8,I x9]) (v:=.agg #[I y3,I y4,I y5,I y6,I y7,I y8,I y9]) (r:=eqE7 x3 x4 x5 x6 x7 x8 x9 y3 y4 y5 y6 y7 y8 y9) (by decide) (by kernel_rfl) (by kernel_rfl) (eqlBillIn _ _ _ _ _ _ _ _ _ _ _ _ _ _ w),
    eqF_int w (by decide) Tryz.underlying3 rfl rfl,
    eqF_sub w (u:=.agg #[I x11,I x12]) (v:=.agg #[I y11,I y12]) (r:=decide (x11=y11∧x12=y12)) (by decide) (by kernel_rfl) (by kernel_rfl) (eqlDebtIn _ _ _ _ w),eqF_nil]
  unfold eqE eqE7
  (repeat' split)<;>simp_all
end Go.Proofs.YtdjgcenjonegjaaGreat
namespace Go.Proofs.YtdjgcenjonegjaaGreat
set_option linter.unusedSimpArgs false
set_option linter.unusedVariables false
open Go Go.RowKit
set_option maxRecDepth 20000

abbrev evV (x0 x1 x2 x3 x4 x5 x6 x7 x8 x9 x10 x11 x12:Int):Value:=.agg #[I x0,I x1,I x2,I x3,I x4,I x5,I x6,I x7,I x8,I x9,I x10,I x11,I x12]
/-- kind meter month id tender debt fee price change units tag owed bp -/
def mayReg (mo id te de fe pr ch un ta ow bp:Int):Bool:=decide (mo=0∧(id=0∧te=0∧de=0∧fe=0∧pr=0∧ch=0∧un=0)∧ta=0∧ow=0∧bp=0)
def maySale (mo id te de fe pr ch un ta ow bp:Int):Bool:=decide ((0≤de∧0≤fe∧0≤pr∧0≤ch)∧(1≤te∧te≤100000000)∧de+fe+pr+ch=te∧(1≤un∧un≤2097151)∧(0≤mo∧mo≤2399)∧(1≤id∧id≤1048575)∧(0≤ta∧ta≤65535)∧ow=0∧bp=0)
def mayGrant (mo id te de fe pr ch un ta ow bp:Int):Bool:=decide ((1≤un∧un≤2097151)∧(0≤mo∧mo≤2399)∧(1≤id∧id≤1048575)∧(0≤ta∧ta≤65535)∧(te=0∧de=0∧fe=0∧pr=0∧ch=0)∧ow=0∧bp=0)
def mayRekey (mo id te de fe pr ch un ta ow bp:Int):Bool:=decide ((1≤id∧id≤1048575)∧(0≤ta∧ta≤65535)∧mo=0∧(te=0∧de=0∧fe=0∧pr=0∧ch=0∧un=0)∧ow=0∧bp=0)
def mayCharge (mo id te de fe pr ch un ta ow bp:Int):Bool:=decide ((1≤ow∧ow≤1000000000)∧(0≤bp∧bp≤10000)∧mo=0∧(id=0∧te=0∧de=0∧fe=0∧pr=0∧ch=0∧un=0)∧ta=0)
def evMay (ki me mo id te de fe pr ch un ta ow bp : Int) : Bool :=
  inB me 0 49&&(if ki=1 then mayReg mo id te de fe pr ch un ta ow bp else if ki=2 then maySale mo id te de fe pr ch un ta ow bp else if ki=3 then mayGrant mo id te de fe pr ch un ta ow bp
    else if ki=4 then mayRekey mo id te de fe pr ch un ta ow bp else if ki=5 then mayCharge mo id te de fe pr ch un ta ow bp else false)
/-- it returns, or throws ErrState -/
def EvP (b:Bool) (w:World) (e:Ending) (w':World):Prop:=(if b then e=.returned (.tuple #[]) else e=.panicked [{ v:=refV 5,recovered:=false }])∧Below w.heap.size w w'
theorem EvP.yes {b:Bool} {w w':World} (h:b=true) (k:Below w.heap.size w w'):EvP b w (.returned (.tuple #[])) w':=by subst h;exact ⟨rfl,k⟩
theorem EvP.no {b:Bool} {w w':World} (h:b=false) (k:Below w.heap.size w w'):EvP b w (.panicked [{ v:=refV 5,recovered:=false }]) w':=by subst h;exact ⟨rfl,k⟩
/-- want, whatever it is told -/
def WantP (b:Bool) (k:Int) (w:World) (e:Ending) (w':World):Prop:=(b=true∧e=.returned (.tuple #[])∧w=w')∨(b=false∧e=.panicked [{ v:=refV k,recovered:=false }]∧w=w')
theorem want_any (b:Bool) (k:Int) (w:World):Calls Tryz.prog 75 #[.bool b,I k] w (WantP b k w):=by
  cases b
  · exact (want_no k w).mono fun _ _ ⟨h1,h2⟩=>.inr ⟨rfl,h1,h2.symm⟩
  · exact (want_yes k w).mono fun _ _ ⟨h1,h2⟩=>.inl ⟨rfl,h1,h2⟩
end Go.Proofs.YtdjgcenjonegjaaGreat
