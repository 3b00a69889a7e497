/- a block of the call's own, written in place -/
import Derived.Test.YtfhmcahfjoliiaaGreatDoorPk01
set_option maxRecDepth 20000
set_option maxHeartbeats 8000000
set_option linter.unusedSimpArgs false
set_option linter.unusedVariables false
namespace Go.Proofs.YtfhmcahfjoliiaaGreatDoor
open Go.RowKit

/-- block g begins with the cells cs, and none of it is frozen -/
def Own (w:World) (g:Nat) (cs:List Value):Prop:=
  ∃ cur e,w.heap[g]?=some (.cells cur e (0,0))∧∀ j,j < cs.length→cur[j]?=some (cs.getD j undef)

theorem Own.lt {w:World} {g:Nat} {cs:List Value} (h:Own w g cs):g < w.heap.size:=by
  obtain ⟨cur,e,h,_⟩:=h;exact (Array.getElem?_eq_some_iff.1 h).1
theorem Own.cell {w:World} {g:Nat} {cs:List Value} (h:Own w g cs):∀ j,j < cs.length→w.cell? ⟨g,0+j,none⟩=some (cs.getD j undef):=by
  obtain ⟨cur,e,h,hc⟩:=h;intro j hj;rw [Nat.zero_add,cell_of_cells h];exact hc j hj
theorem Own.frozen {w:World} {g:Nat} {cs:List Value} (h:Own w g cs) (j:Nat):w.frozen? ⟨g,j,none⟩=false:=by
  obtain ⟨cur,e,h,_⟩:=h;simp [World.frozen?,h]
theorem Own.set {w:World} {g:Nat} {cs:List Value} (h:Own w g cs) (j:Nat) (x:Value):Own (w.setCell ⟨g,j,none⟩ x) g (cs.set j x):=by
  obtain ⟨cur,e,h,hc⟩:=h;refine ⟨cur.setIfInBounds j x,e,?_,?_⟩
  · have hg:=(Array.getElem?_eq_some_iff.1 h).1
    simp [World.setCell,Array.getElem?_modify,h]
  · intro i hi
    rw [List.length_set] at hi;have:=hc i hi;have hi':=(Array.getElem?_eq_some_iff.1 this).1;rw [List.getD_eq_getElem?_getD,List.getElem?_set,Array.getElem?_setIfInBounds]
    by_cases hij:j=i
    · subst hij;simp [hi,hi']
    · simp only [hij,if_false];rw [this,List.getD_eq_getElem?_getD]
theorem Own.other {w:World} {g:Nat} {cs:List Value} (h:Own w g cs) {a:Addr} (ha:a.block≠g) (x:Value):Own (w.setCell a x) g cs:=by
  obtain ⟨cur,e,h,hc⟩:=h;refine ⟨cur,e,?_,hc⟩;simp [World.setCell,Array.getElem?_modify,ha,h]
theorem Own.below {w w':World} {g:Nat} {cs:List Value} (h:Own w g cs) (hb:Below w.heap.size w w'):Own w' g cs:=by
  have hg:=h.lt;obtain ⟨cur,e,h,hc⟩:=h;exact ⟨cur,e,(hb.block g hg).trans h,hc⟩
theorem Own.drewN {w:World} {g:Nat} {cs:List Value} (h:Own w g cs) (q:Nat):Own (w.drewN q) g cs:=h
theorem Own.of_owns {w:World} {base e sz n m cap g:Nat} {cs:List Value} (h:w.ownsRow base e sz (.slice (some ⟨g,0,none⟩) n cap) m cs):Own w g cs:=by
  obtain ⟨hl,h⟩:=h;rcases h with ⟨h,_⟩ | ⟨g',cap',cur,hv,hb,hg,hc,hm,hs,ht⟩
  · cases h
  · cases hv
    refine ⟨cur,e,hg,fun j hj=>?_⟩
    rw [← ht,List.getD_eq_getElem?_getD,List.getElem?_take,if_pos (by omega),Array.getElem?_toList];rw [Array.getElem?_eq_getElem (by rw [hs];have:=Nat.mul_le_mul_right sz hc;omega)]
    rfl
theorem Own.sl {w:World} {g n cap sz:Nat} {cs:List Value} (h:Own w g cs) (hn:n≤281474976710656) (hc:n≤cap) (hl:cs.length=n*sz):Sl w (.slice (some ⟨g,0,none⟩) n cap) sz n cs:=
  ⟨_,cap,rfl,⟨hn,hc⟩,hl,(fun h=>by cases h),.inr ⟨g,0,rfl,h.lt,h.cell⟩⟩
theorem Own.new {w:World} {g:Nat} (hg:g=w.heap.size) (cs:List Value) (e:TypeId):Own (w.alloc (.cells cs.toArray e)) g cs:=by
  subst hg;refine ⟨cs.toArray,e,heap_alloc_new w _,fun j hj=>?_⟩
  rw [List.getD_eq_getElem?_getD,List.getElem?_eq_getElem hj];simp [hj]
theorem Own.alloc {w:World} {g:Nat} {cs:List Value} (h:Own w g cs) (o:Obj):Own (w.alloc o) g cs:=h.below (boxed_below w o)
/-- what append or make gave: nothing at all, or a block of the call's own -/
theorem owns_cases {w:World} {base e sz n:Nat} {v:Value} {cs:List Value} (h:w.ownsRow base e sz v n cs):(v=.slice none 0 0∧n=0)∨∃ g cap,v=.slice (some ⟨g,0,none⟩) n cap∧base≤g∧n≤cap∧Own w g cs:=by
  have h':=h;obtain ⟨hl,h⟩:=h;rcases h with h | ⟨g,cap,cur,hv,hb,hg,hc,hm,hs,ht⟩
  · exact .inl h
  · subst hv
    exact .inr ⟨g,cap,rfl,hb,hc,Own.of_owns h'⟩

/-! rules for the walk: a cell behind a store (have r1 := set_same; have r2 := set_off; have r3 := set_blk) -/
theorem set_same (w:World) (g j:Nat) (x:Value):(w.setCell ⟨g,j,none⟩ x).cell? ⟨g,j,none⟩=(w.cell? ⟨g,j,none⟩).map fun _=>x:=by
  cases h:w.cell? ⟨g,j,none⟩ with
  | some u=>exact World.cell?_setCell_same _ _ _ h
  | none=>
    unfold World.cell? at h;simp only [World.setCell,World.cell?,Array.getElem?_modify,if_true];cases hh:w.heap[g]? with
    | none=>rfl
    | some o=>
      rw [hh] at h;cases o<;>simp_all
theorem set_off (w:World) (g i j:Nat) (x:Value) (h:i≠j):(w.setCell ⟨g,i,none⟩ x).cell? ⟨g,j,none⟩=w.cell? ⟨g,j,none⟩:=
  World.cell?_setCell_other _ _ _ _ (fun e=>h (by injection e))
theorem set_blk (w:World) (g g' i j:Nat) (x:Value) (h:g≠g'):(w.setCell ⟨g,i,none⟩ x).cell? ⟨g',j,none⟩=w.cell? ⟨g',j,none⟩:=
  World.cell?_setCell_other _ _ _ _ (fun e=>h (by injection e))
theorem boxes2 (w:World) (a:List Value) (ta:TypeId) (b:List Value) (tb:TypeId):Below w.heap.size w ((w.alloc (.cells a.toArray ta)).alloc (.cells b.toArray tb))∧Own ((w.alloc (.cells a.toArray ta)).alloc (.cells b.toArray tb)) (w.heap.size) a∧Own ((w.alloc (.cells a.toArray ta)).alloc (.cells b.toArray tb)) (w.heap.size+1) b:=by
  have h0:=boxed_below w (.cells a.toArray ta);have h1:=h0.alloc h0.size (.cells b.toArray tb);exact ⟨h1,(Own.new (w:=w) (g:=w.heap.size) (by simp) a ta).alloc (.cells b.toArray tb),Own.new (w:=(w.alloc (.cells a.toArray ta))) (g:=w.heap.size+1) (by simp) b tb⟩
theorem boxes3 (w:World) (a:List Value) (ta:TypeId) (b:List Value) (tb:TypeId) (c:List Value) (tc:TypeId):Below w.heap.size w (((w.alloc (.cells a.toArray ta)).alloc (.cells b.toArray tb)).alloc (.cells c.toArray tc))∧Own (((w.alloc (.cells a.toArray ta)).alloc (.cells b.toArray tb)).alloc (.cells c.toArray tc)) (w.heap.size) a∧Own (((w.alloc (.cells a.toArray ta)).alloc (.cells b.toArray tb)).alloc (.cells c.toArray tc)) (w.heap.size+1) b∧Own (((w.alloc (.cells a.toArray ta)).alloc (.cells b.toArray tb)).alloc (.cells c.toArray tc)) (w.heap.size+2) c:=by
  have h0:=boxed_below w (.cells a.toArray ta);have h1:=h0.alloc h0.size (.cells b.toArray tb);have h2:=h1.alloc h1.size (.cells c.toArray tc);exact ⟨h2,((Own.new (w:=w) (g:=w.heap.size) (by simp) a ta).alloc (.cells b.toArray tb)).alloc (.cells c.toArray tc),(Own.new (w:=(w.alloc (.cells a.toArray ta))) (g:=w.heap.size+1) (by simp) b tb).alloc (.cells c.toArray tc),Own.new (w:=((w.alloc (.cells a.toArray ta)).alloc (.cells b.toArray tb))) (g:=w.heap.size+2) (by simp) c tc⟩
theorem boxes4 (w:World) (a:List Value) (ta:TypeId) (b:List Value) (tb:TypeId) (c:List Value) (tc:TypeId) (d:List Value) (td:TypeId):Below w.heap.size w ((((w.alloc (.cells a.toArray ta)).alloc (.cells b.toArray tb)).alloc (.cells c.toArray tc)).alloc (.cells d.toArray td))∧Own ((((w.alloc (.cells a.toArray ta)).alloc (.cells b.toArray tb)).alloc (.cells c.toArray tc)).alloc (.cells d.toArray td)) (w.heap.size) a∧Own ((((w.alloc (.cells a.toArray ta)).alloc (.cells b.toArray tb)).alloc (.cells c.toArray tc)).alloc (.cells d.toArray td)) (w.heap.size+1) b∧Own ((((w.alloc (.cells a.toArray ta)).alloc (.cells b.toArray tb)).alloc (.cells c.toArray tc)).alloc (.cells d.toArray td)) (w.heap.size+2) c∧Own ((((w.alloc (.cells a.toArray ta)).alloc (.cells b.toArray tb)).alloc (.cells c.toArray tc)).alloc (.cells d.toArray td)) (w.heap.size+3) d:=by
  have h0:=boxed_below w (.cells a.toArray ta);have h1:=h0.alloc h0.size (.cells b.toArray tb);have h2:=h1.alloc h1.size (.cells c.toArray tc);have h3:=h2.alloc h2.size (.cells d.toArray td);exact ⟨h3,(((Own.new (w:=w) (g:=w.heap.size) (by simp) a ta).alloc (.cells b.toArray tb)).alloc (.cells c.toArray tc)).alloc (.cells d.toArray td),((Own.new (w:=(w.alloc (.cells a.toArray ta))) (g:=w.heap.size+1) (by simp) b tb).alloc (.cells c.toArray tc)).alloc (.cells d.toArray td),(Own.new (w:=((w.alloc (.cells a.toArray ta)).alloc (.cells b.toArray tb))) (g:=w.heap.size+2) (by simp) c tc).alloc (.cells d.toArray td),Own.new (w:=(((w.alloc (.cells a.toArray ta)).alloc (.cells b.toArray tb)).alloc (.cells c.toArray tc))) (g:=w.heap.size+3) (by simp) d td⟩
theorem Own.c0 {w:World} {g:Nat} {x0:Value} {l:List Value} (h:Own w g (x0::l)):w.cell? ⟨g,0,none⟩=some x0:=by simpa using h.cell 0 (by simp)
theorem Own.c1 {w:World} {g:Nat} {x0 x1:Value} {l:List Value} (h:Own w g (x0::x1::l)):w.cell? ⟨g,1,none⟩=some x1:=by simpa using h.cell 1 (by simp)
theorem Own.c2 {w:World} {g:Nat} {x0 x1 x2:Value} {l:List Value} (h:Own w g (x0::x1::x2::l)):w.cell? ⟨g,2,none⟩=some x2:=by simpa using h.cell 2 (by simp)
theorem Own.c3 {w:World} {g:Nat} {x0 x1 x2 x3:Value} {l:List Value} (h:Own w g (x0::x1::x2::x3::l)):w.cell? ⟨g,3,none⟩=some x3:=by simpa using h.cell 3 (by simp)
theorem Own.c4 {w:World} {g:Nat} {x0 x1 x2 x3 x4:Value} {l:List Value} (h:Own w g (x0::x1::x2::x3::x4::l)):w.cell? ⟨g,4,none⟩=some x4:=by simpa using h.cell 4 (by simp)
theorem Own.c5 {w:World} {g:Nat} {x0 x1 x2 x3 x4 x5:Value} {l:List Value} (h:Own w g (x0::x1::x2::x3::x4::x5::l)):w.cell? ⟨g,5,none⟩=some x5:=by simpa using h.cell 5 (by simp)
theorem Own.c6 {w:World} {g:Nat} {x0 x1 x2 x3 x4 x5 x6:Value} {l:List Value} (h:Own w g (x0::x1::x2::x3::x4::x5::x6::l)):w.cell? ⟨g,6,none⟩=some x6:=by simpa using h.cell 6 (by simp)
theorem Own.c7 {w:World} {g:Nat} {x0 x1 x2 x3 x4 x5 x6 x7:Value} {l:List Value} (h:Own w g (x0::x1::x2::x3::x4::x5::x6::x7::l)):w.cell? ⟨g,7,none⟩=some x7:=by simpa using h.cell 7 (by simp)
theorem Own.c8 {w:World} {g:Nat} {x0 x1 x2 x3 x4 x5 x6 x7 x8:Value} {l:List Value} (h:Own w g (x0::x1::x2::x3::x4::x5::x6::x7::x8::l)):w.cell? ⟨g,8,none⟩=some x8:=by simpa using h.cell 8 (by simp)
theorem Own.c9 {w:World} {g:Nat} {x0 x1 x2 x3 x4 x5 x6 x7 x8 x9:Value} {l:List Value} (h:Own w g (x0::x1::x2::x3::x4::x5::x6::x7::x8::x9::l)):w.cell? ⟨g,9,none⟩=some x9:=by simpa using h.cell 9 (by simp)
theorem Own.c10 {w:World} {g:Nat} {x0 x1 x2 x3 x4 x5 x6 x7 x8 x9 x10:Value} {l:List Value} (h:Own w g (x0::x1::x2::x3::x4::x5::x6::x7::x8::x9::x10::l)):w.cell? ⟨g,10,none⟩=some x10:=by simpa using h.cell 10 (by simp)
theorem Own.c11 {w:World} {g:Nat} {x0 x1 x2 x3 x4 x5 x6 x7 x8 x9 x10 x11:Value} {l:List Value} (h:Own w g (x0::x1::x2::x3::x4::x5::x6::x7::x8::x9::x10::x11::l)):w.cell? ⟨g,11,none⟩=some x11:=by simpa using h.cell 11 (by simp)
theorem Own.c12 {w:World} {g:Nat} {x0 x1 x2 x3 x4 x5 x6 x7 x8 x9 x10 x11 x12:Value} {l:List Value} (h:Own w g (x0::x1::x2::x3::x4::x5::x6::x7::x8::x9::x10::x11::x12::l)):w.cell? ⟨g,12,none⟩=some x12:=by simpa using h.cell 12 (by simp)
theorem Own.c13 {w:World} {g:Nat} {x0 x1 x2 x3 x4 x5 x6 x7 x8 x9 x10 x11 x12 x13:Value} {l:List Value} (h:Own w g (x0::x1::x2::x3::x4::x5::x6::x7::x8::x9::x10::x11::x12::x13::l)):w.cell? ⟨g,13,none⟩=some x13:=by simpa using h.cell 13 (by simp)
theorem Own.f {w:World} {g:Nat} {cs:List Value} (h:Own w g cs) (j:Nat):w.frozen? ⟨g,j,none⟩=false:=h.frozen j
theorem Own.t1 {w:World} {g:Nat} {x0:Value} {l:List Value} (h:Own w g (x0::l)):w.cell? ⟨g,0,none⟩=some x0:=h.c0
theorem Own.s1 {w:World} {g:Nat} {x0:Value} {l:List Value} (h:Own w g (x0::l)):(∀ j,w.frozen? ⟨g,j,none⟩=false)∧w.cell? ⟨g,0,none⟩=some x0:=⟨h.f,h.t1⟩
theorem Own.t2 {w:World} {g:Nat} {x0 x1:Value} {l:List Value} (h:Own w g (x0::x1::l)):w.cell? ⟨g,0,none⟩=some x0∧w.cell? ⟨g,1,none⟩=some x1:=⟨h.c0,h.c1⟩
theorem Own.s2 {w:World} {g:Nat} {x0 x1:Value} {l:List Value} (h:Own w g (x0::x1::l)):(∀ j,w.frozen? ⟨g,j,none⟩=false)∧w.cell? ⟨g,0,none⟩=some x0∧w.cell? ⟨g,1,none⟩=some x1:=⟨h.f,h.t2⟩
theorem Own.t3 {w:World} {g:Nat} {x0 x1 x2:Value} {l:List Value} (h:Own w g (x0::x1::x2::l)):w.cell? ⟨g,0,none⟩=some x0∧w.cell? ⟨g,1,none⟩=some x1∧w.cell? ⟨g,2,none⟩=some x2:=⟨h.c0,h.c1,h.c2⟩
theorem Own.s3 {w:World} {g:Nat} {x0 x1 x2:Value} {l:List Value} (h:Own w g (x0::x1::x2::l)):(∀ j,w.frozen? ⟨g,j,none⟩=false)∧w.cell? ⟨g,0,none⟩=some x0∧w.cell? ⟨g,1,none⟩=some x1∧w.cell? ⟨g,2,none⟩=some x2:=⟨h.f,h.t3⟩
theorem Own.t4 {w:World} {g:Nat} {x0 x1 x2 x3:Value} {l:List Value} (h:Own w g (x0::x1::x2::x3::l)):w.cell? ⟨g,0,none⟩=some x0∧w.cell? ⟨g,1,none⟩=some x1∧w.cell? ⟨g,2,none⟩=some x2∧w.cell? ⟨g,3,none⟩=some x3:=⟨h.c0,h.c1,h.c2,h.c3⟩
theorem Own.s4 {w:World} {g:Nat} {x0 x1 x2 x3:Value} {l:List Value} (h:Own w g (x0::x1::x2::x3::l)):(∀ j,w.frozen? ⟨g,j,none⟩=false)∧w.cell? ⟨g,0,none⟩=some x0∧w.cell? ⟨g,1,none⟩=some x1∧w.cell? ⟨g,2,none⟩=some x2∧w.cell? ⟨g,3,none⟩=some x3:=⟨h.f,h.t4⟩
theorem Own.t5 {w:World} {g:Nat} {x0 x1 x2 x3 x4:Value} {l:List Value} (h:Own w g (x0::x1::x2::x3::x4::l)):w.cell? ⟨g,0,none⟩=some x0∧w.cell? ⟨g,1,none⟩=some x1∧w.cell? ⟨g,2,none⟩=some x2∧w.cell? ⟨g,3,none⟩=some x3∧w.cell? ⟨g,4,none⟩=some x4:=⟨h.c0,h.c1,h.c2,h.c3,h.c4⟩
theorem Own.s5 {w:World} {g:Nat} {x0 x1 x2 x3 x4:Value} {l:List Value} (h:Own w g (x0::x1::x2::x3::x4::l)):(∀ j,w.frozen? ⟨g,j,none⟩=false)∧w.cell? ⟨g,0,none⟩=some x0∧w.cell? ⟨g,1,none⟩=some x1∧w.cell? ⟨g,2,none⟩=some x2∧w.cell? ⟨g,3,none⟩=some x3∧w.cell? ⟨g,4,none⟩=some x4:=⟨h.f,h.t5⟩
theorem Own.t6 {w:World} {g:Nat} {x0 x1 x2 x3 x4 x5:Value} {l:List Value} (h:Own w g (x0::x1::x2::x3::x4::x5::l)):w.cell? ⟨g,0,none⟩=some x0∧w.cell? ⟨g,1,none⟩=some x1∧w.cell? ⟨g,2,none⟩=some x2∧w.cell? ⟨g,3,none⟩=some x3∧w.cell? ⟨g,4,none⟩=some x4∧w.cell? ⟨g,5,none⟩=some x5:=⟨h.c0,h.c1,h.c2,h.c3,h.c4,h.c5⟩
theorem Own.s6 {w:World} {g:Nat} {x0 x1 x2 x3 x4 x5:Value} {l:List Value} (h:Own w g (x0::x1::x2::x3::x4::x5::l)):(∀ j,w.frozen? ⟨g,j,none⟩=false)∧w.cell? ⟨g,0,none⟩=some x0∧w.cell? ⟨g,1,none⟩=some x1∧w.cell? ⟨g,2,none⟩=some x2∧w.cell? ⟨g,3,none⟩=some x3∧w.cell? ⟨g,4,none⟩=some x4∧w.cell? ⟨g,5,none⟩=some x5:=⟨h.f,h.t6⟩
theorem Own.t7 {w:World} {g:Nat} {x0 x1 x2 x3 x4 x5 x6:Value} {l:List Value} (h:Own w g (x0::x1::x2::x3::x4::x5::x6::l)):w.cell? ⟨g,0,none⟩=some x0∧w.cell? ⟨g,1,none⟩=some x1∧w.cell? ⟨g,2,none⟩=some x2∧w.cell? ⟨g,3,none⟩=some x3∧w.cell? ⟨g,4,none⟩=some x4∧w.cell? ⟨g,5,none⟩=some x5∧w.cell? ⟨g,6,none⟩=some x6:=⟨h.c0,h.c1,h.c2,h.c3,h.c4,h.c5,h.c6⟩
theorem Own.s7 {w:World} {g:Nat} {x0 x1 x2 x3 x4 x5 x6:Value} {l:List Value} (h:Own w g (x0::x1::x2::x3::x4::x5::x6::l)):(∀ j,w.frozen? ⟨g,j,none⟩=false)∧w.cell? ⟨g,0,none⟩=some x0∧w.cell? ⟨g,1,none⟩=some x1∧w.cell? ⟨g,2,none⟩=some x2∧w.cell? ⟨g,3,none⟩=some x3∧w.cell? ⟨g,4,none⟩=some x4∧w.cell? ⟨g,5,none⟩=some x5∧w.cell? ⟨g,6,none⟩=some x6:=⟨h.f,h.t7⟩
theorem Own.t8 {w:World} {g:Nat} {x0 x1 x2 x3 x4 x5 x6 x7:Value} {l:List Value} (h:Own w g (x0::x1::x2::x3::x4::x5::x6::x7::l)):w.cell? ⟨g,0,none⟩=some x0∧w.cell? ⟨g,1,none⟩=some x1∧w.cell? ⟨g,2,none⟩=some x2∧w.cell? ⟨g,3,none⟩=some x3∧w.cell? ⟨g,4,none⟩=some x4∧w.cell? ⟨g,5,none⟩=some x5∧w.cell? ⟨g,6,none⟩=some x6∧w.cell? ⟨g,7,none⟩=some x7:=⟨h.c0,h.c1,h.c2,h.c3,h.c4,h.c5,h.c6,h.c7⟩
theorem Own.s8 {w:World} {g:Nat} {x0 x1 x2 x3 x4 x5 x6 x7:Value} {l:List Value} (h:Own w g (x0::x1::x2::x3::x4::x5::x6::x7::l)):(∀ j,w.frozen? ⟨g,j,none⟩=false)∧w.cell? ⟨g,0,none⟩=some x0∧w.cell? ⟨g,1,none⟩=some x1∧w.cell? ⟨g,2,none⟩=some x2∧w.cell? ⟨g,3,none⟩=some x3∧w.cell? ⟨g,4,none⟩=some x4∧w.cell? ⟨g,5,none⟩=some x5∧w.cell? ⟨g,6,none⟩=some x6∧w.cell? ⟨g,7,none⟩=some x7:=⟨h.f,h.t8⟩
theorem Own.t9 {w:World} {g:Nat} {x0 x1 x2 x3 x4 x5 x6 x7 x8:Value} {l:List Value} (h:Own w g (x0::x1::x2::x3::x4::x5::x6::x7::x8::l)):w.cell? ⟨g,0,none⟩=some x0∧w.cell? ⟨g,1,none⟩=some x1∧w.cell? ⟨g,2,none⟩=some x2∧w.cell? ⟨g,3,none⟩=some x3∧w.cell? ⟨g,4,none⟩=some x4∧w.cell? ⟨g,5,none⟩=some x5∧w.cell? ⟨g,6,none⟩=some x6∧w.cell? ⟨g,7,none⟩=some x7∧w.cell? ⟨g,8,none⟩=some x8:=⟨h.c0,h.c1,h.c2,h.c3,h.c4,h.c5,h.c6,h.c7,h.c8⟩
theorem Own.s9 {w:World} {g:Nat} {x0 x1 x2 x3 x4 x5 x6 x7 x8:Value} {l:List Value} (h:Own w g (x0::x1::x2::x3::x4::x5::x6::x7::x8::l)):(∀ j,w.frozen? ⟨g,j,none⟩=false)∧w.cell? ⟨g,0,none⟩=some x0∧w.cell? ⟨g,1,none⟩=some x1∧w.cell? ⟨g,2,none⟩=some x2∧w.cell? ⟨g,3,none⟩=some x3∧w.cell? ⟨g,4,none⟩=some x4∧w.cell? ⟨g,5,none⟩=some x5∧w.cell? ⟨g,6,none⟩=some x6∧w.cell? ⟨g,7,none⟩=some x7∧w.cell? ⟨g,8,none⟩=some x8:=⟨h.f,h.t9⟩
theorem Own.t10 {w:World} {g:Nat} {x0 x1 x2 x3 x4 x5 x6 x7 x8 x9:Value} {l:List Value} (h:Own w g (x0::x1::x2::x3::x4::x5::x6::x7::x8::x9::l)):w.cell? ⟨g,0,none⟩=some x0∧w.cell? ⟨g,1,none⟩=some x1∧w.cell? ⟨g,2,none⟩=some x2∧w.cell? ⟨g,3,none⟩=some x3∧w.cell? ⟨g,4,none⟩=some x4∧w.cell? ⟨g,5,none⟩=some x5∧w.cell? ⟨g,6,none⟩=some x6∧w.cell? ⟨g,7,none⟩=some x7∧w.cell? ⟨g,8,none⟩=some x8∧w.cell? ⟨g,9,none⟩=some x9:=⟨h.c0,h.c1,h.c2,h.c3,h.c4,h.c5,h.c6,h.c7,h.c8,h.c9⟩
theorem Own.s10 {w:World} {g:Nat} {x0 x1 x2 x3 x4 x5 x6 x7 x8 x9:Value} {l:List Value} (h:Own w g (x0::x1::x2::x3::x4::x5::x6::x7::x8::x9::l)):(∀ j,w.frozen? ⟨g,j,none⟩=false)∧w.cell? ⟨g,0,none⟩=some x0∧w.cell? ⟨g,1,none⟩=some x1∧w.cell? ⟨g,2,none⟩=some x2∧w.cell? ⟨g,3,none⟩=some x3∧w.cell? ⟨g,4,none⟩=some x4∧w.cell? ⟨g,5,none⟩=some x5∧w.cell? ⟨g,6,none⟩=some x6∧w.cell? ⟨g,7,none⟩=some x7∧w.cell? ⟨g,8,none⟩=some x8∧w.cell? ⟨g,9,none⟩=some x9:=⟨h.f,h.t10⟩
theorem Own.t11 {w:World} {g:Nat} {x0 x1 x2 x3 x4 x5 x6 x7 x8 x9 x10:Value} {l:List Value} (h:Own w g (x0::x1::x2::x3::x4::x5::x6::x7::x8::x9::x10::l)):w.cell? ⟨g,0,none⟩=some x0∧w.cell? ⟨g,1,none⟩=some x1∧w.cell? ⟨g,2,none⟩=some x2∧w.cell? ⟨g,3,none⟩=some x3∧w.cell? ⟨g,4,none⟩=some x4∧w.cell? ⟨g,5,none⟩=some x5∧w.cell? ⟨g,6,none⟩=some x6∧w.cell? ⟨g,7,none⟩=some x7∧w.cell? ⟨g,8,none⟩=some x8∧w.cell? ⟨g,9,none⟩=some x9∧w.cell? ⟨g,10,none⟩=some x10:=⟨h.c0,h.c1,h.c2,h.c3,h.c4,h.c5,h.c6,h.c7,h.c8,h.c9,h.c10⟩
theorem Own.s11 {w:World} {g:Nat} {x0 x1 x2 x3 x4 x5 x6 x7 x8 x9 x10:Value} {l:List Value} (h:Own w g (x0::x1::x2::x3::x4::x5::x6::x7::x8::x9::x10::l)):(∀ j,w.frozen? ⟨g,j,none⟩=false)∧w.cell? ⟨g,0,none⟩=some x0∧w.cell? ⟨g,1,none⟩=some x1∧w.cell? ⟨g,2,none⟩=some x2∧w.cell? ⟨g,3,none⟩=some x3∧w.cell? ⟨g,4,none⟩=some x4∧w.cell? ⟨g,5,none⟩=some x5∧w.cell? ⟨g,6,none⟩=some x6∧w.cell? ⟨g,7,none⟩=some x7∧w.cell? ⟨g,8,none⟩=some x8∧w.cell? ⟨g,9,none⟩=some x9∧w.cell? ⟨g,10,none⟩=some x10:=⟨h.f,h.t11⟩
theorem Own.t12 {w:World} {g:Nat} {x0 x1 x2 x3 x4 x5 x6 x7 x8 x9 x10 x11:Value} {l:List Value} (h:Own w g (x0::x1::x2::x3::x4::x5::x6::x7::x8::x9::x10::x11::l)):w.cell? ⟨g,0,none⟩=some x0∧w.cell? ⟨g,1,none⟩=some x1∧w.cell? ⟨g,2,none⟩=some x2∧w.cell? ⟨g,3,none⟩=some x3∧w.cell? ⟨g,4,none⟩=some x4∧w.cell? ⟨g,5,none⟩=some x5∧w.cell? ⟨g,6,none⟩=some x6∧w.cell? ⟨g,7,none⟩=some x7∧w.cell? ⟨g,8,none⟩=some x8∧w.cell? ⟨g,9,none⟩=some x9∧w.cell? ⟨g,10,none⟩=some x10∧w.cell? ⟨g,11,none⟩=some x11:=⟨h.c0,h.c1,h.c2,h.c3,h.c4,h.c5,h.c6,h.c7,h.c8,h.c9,h.c10,h.c11⟩
theorem Own.s12 {w:World} {g:Nat} {x0 x1 x2 x3 x4 x5 x6 x7 x8 x9 x10 x11:Value} {l:List Value} (h:Own w g (x0::x1::x2::x3::x4::x5::x6::x7::x8::x9::x10::x11::l)):(∀ j,w.frozen? ⟨g,j,none⟩=false)∧w.cell? ⟨g,0,none⟩=some x0∧w.cell? ⟨g,1,none⟩=some x1∧w.cell? ⟨g,2,none⟩=some x2∧w.cell? ⟨g,3,none⟩=some x3∧w.cell? ⟨g,4,none⟩=some x4∧w.cell? ⟨g,5,none⟩=some x5∧w.cell? ⟨g,6,none⟩=some x6∧w.cell? ⟨g,7,none⟩=some x7∧w.cell? ⟨g,8,none⟩=some x8∧w.cell? ⟨g,9,none⟩=some x9∧w.cell? ⟨g,10,none⟩=some x10∧w.cell? ⟨g,11,none⟩=some x11:=⟨h.f,h.t12⟩
theorem Own.t13 {w:World} {g:Nat} {x0 x1 x2 x3 x4 x5 x6 x7 x8 x9 x10 x11 x12:Value} {l:List Value} (h:Own w g (x0::x1::x2::x3::x4::x5::x6::x7::x8::x9::x10::x11::x12::l)):w.cell? ⟨g,0,none⟩=some x0∧w.cell? ⟨g,1,none⟩=some x1∧w.cell? ⟨g,2,none⟩=some x2∧w.cell? ⟨g,3,none⟩=some x3∧w.cell? ⟨g,4,none⟩=some x4∧w.cell? ⟨g,5,none⟩=some x5∧w.cell? ⟨g,6,none⟩=some x6∧w.cell? ⟨g,7,none⟩=some x7∧w.cell? ⟨g,8,none⟩=some x8∧w.cell? ⟨g,9,none⟩=some x9∧w.cell? ⟨g,10,none⟩=some x10∧w.cell? ⟨g,11,none⟩=some x11∧w.cell? ⟨g,12,none⟩=some x12:=⟨h.c0,h.c1,h.c2,h.c3,h.c4,h.c5,h.c6,h.c7,h.c8,h.c9,h.c10,h.c11,h.c12⟩
theorem Own.s13 {w:World} {g:Nat} {x0 x1 x2 x3 x4 x5 x6 x7 x8 x9 x10 x11 x12:Value} {l:List Value} (h:Own w g (x0::x1::x2::x3::x4::x5::x6::x7::x8::x9::x10::x11::x12::l)):(∀ j,w.frozen? ⟨g,j,none⟩=false)∧w.cell? ⟨g,0,none⟩=some x0∧w.cell? ⟨g,1,none⟩=some x1∧w.cell? ⟨g,2,none⟩=some x2∧w.cell? ⟨g,3,none⟩=some x3∧w.cell? ⟨g,4,none⟩=some x4∧w.cell? ⟨g,5,none⟩=some x5∧w.cell? ⟨g,6,none⟩=some x6∧w.cell? ⟨g,7,none⟩=some x7∧w.cell? ⟨g,8,none⟩=some x8∧w.cell? ⟨g,9,none⟩=some x9∧w.cell? ⟨g,10,none⟩=some x10∧w.cell? ⟨g,11,none⟩=some x11∧w.cell? ⟨g,12,none⟩=some x12:=⟨h.f,h.t13⟩
theorem Own.t14 {w:World} {g:Nat} {x0 x1 x2 x3 x4 x5 x6 x7 x8 x9 x10 x11 x12 x13:Value} {l:List Value} (h:Own w g (x0::x1::x2::x3::x4::x5::x6::x7::x8::x9::x10::x11::x12::x13::l)):w.cell? ⟨g,0,none⟩=some x0∧w.cell? ⟨g,1,none⟩=some x1∧w.cell? ⟨g,2,none⟩=some x2∧w.cell? ⟨g,3,none⟩=some x3∧w.cell? ⟨g,4,none⟩=some x4∧w.cell? ⟨g,5,none⟩=some x5∧w.cell? ⟨g,6,none⟩=some x6∧w.cell? ⟨g,7,none⟩=some x7∧w.cell? ⟨g,8,none⟩=some x8∧w.cell? ⟨g,9,none⟩=some x9∧w.cell? ⟨g,10,none⟩=some x10∧w.cell? ⟨g,11,none⟩=some x11∧w.cell? ⟨g,12,none⟩=some x12∧w.cell? ⟨g,13,none⟩=some x13:=⟨h.c0,h.c1,h.c2,h.c3,h.c4,h.c5,h.c6,h.c7,h.c8,h.c9,h.c10,h.c11,h.c12,h.c13⟩
theorem Own.s14 {w:World} {g:Nat} {x0 x1 x2 x3 x4 x5 x6 x7 x8 x9 x10 x11 x12 x13:Value} {l:List Value} (h:Own w g (x0::x1::x2::x3::x4::x5::x6::x7::x8::x9::x10::x11::x12::x13::l)):(∀ j,w.frozen? ⟨g,j,none⟩=false)∧w.cell? ⟨g,0,none⟩=some x0∧w.cell? ⟨g,1,none⟩=some x1∧w.cell? ⟨g,2,none⟩=some x2∧w.cell? ⟨g,3,none⟩=some x3∧w.cell? ⟨g,4,none⟩=some x4∧w.cell? ⟨g,5,none⟩=some x5∧w.cell? ⟨g,6,none⟩=some x6∧w.cell? ⟨g,7,none⟩=some x7∧w.cell? ⟨g,8,none⟩=some x8∧w.cell? ⟨g,9,none⟩=some x9∧w.cell? ⟨g,10,none⟩=some x10∧w.cell? ⟨g,11,none⟩=some x11∧w.cell? ⟨g,12,none⟩=some x12∧w.cell? ⟨g,13,none⟩=some x13:=⟨h.f,h.t14⟩
end Go.Proofs.YtfhmcahfjoliiaaGreatDoor
