/- tariff.Most: the program · the clerk's sell -/
import Derived.Test.YtdjgcenjonegjaaGreatPk11
import Derived.Test.YtdjgcenjonegjaaGreatPk12
import Derived.Test.YtdjgcenjonegjaaGreatPk10
import Derived.Test.YtdjgcenjonegjaaGreatPk09
set_option maxRecDepth 20000
set_option maxHeartbeats 8000000
set_option linter.unusedSimpArgs false
set_option linter.unusedVariables false
namespace Go.Proofs.YtdjgcenjonegjaaGreat
section
open Go Go.RowKit Go.Shelf
attribute [local go_sem] Oper.semAt_some

theorem pieces_any (d:Option Addr) (n c:Nat) (a:Int) (w:World):Calls Tryz.prog 155 #[.slice d n c,I a] w fun e w'=>
    e=.returned (.func (.func 165) #[] #[.pointer (some ⟨w.heap.size,0,none⟩),.pointer (some ⟨w.heap.size+1,0,none⟩)])∧w'=(w.alloc (.cells #[.slice d n c] 22)).alloc (.cells #[I a] 3):=by
  go_enter Tryz.func155,Tryz.ntmps155;go_wp2;go_ret;refine ⟨by simp,rfl⟩
theorem piecesL_ok {xs:List AStep}:∀ {a:Int},0≤a→(∀ s∈xs,okStep s=true)→∀ x∈piecesL xs a,1≤x.1∧x.1≤10000000∧1≤x.2∧x.2≤100000:=by
  induction xs with
  | nil=>intro a _ _ x hx;simp [piecesL] at hx
  | cons s r ih=>
    intro a a0 hall x hx;obtain ⟨u0,u1,p0,p1⟩:=okStep_true.1 (hall s (by simp));rw [piecesL] at hx
    split at hx
    · exact ih a0 (fun s hs=>hall s (List.mem_cons_of_mem _ hs)) x hx
    · rcases List.mem_cons.1 hx with rfl | hx
      · exact ⟨by show 1≤s.upto-a;omega,by show s.upto-a≤_;omega,p0,p1⟩
      · exact ih (by omega) (fun s hs=>hall s (List.mem_cons_of_mem _ hs)) x hx
/-- the iterator's contract -/
theorem pieces_store (n:Nat) (hn:1≤n) (bt g off cap U V z:Nat) (xs:List AStep) (a:Int) (w:World) (hb1:bt+1 < z) (hz:z≤w.heap.size) (hb3:g < w.heap.size) (hg1:g < bt) (hU:U < bt) (hV:V < bt) (hgU:g≠U) (hgV:g≠V)
    (hT:tariffE xs=0) (a0:0≤a) (hct:w.cell? ⟨bt,0,none⟩=some (.slice (some ⟨g,off,none⟩) xs.length cap)) (hcf:w.cell? ⟨bt+1,0,none⟩=some (I a)) (hff:w.frozen? ⟨bt+1,0,none⟩=false)
    (hc:∀ j,j < (xs.flatMap AStep.cells).length→w.cell? ⟨g,off+j,none⟩=some ((xs.flatMap AStep.cells).getD j undef)):
    SeqStore Fence.wide n Tryz.prog 165 #[.pointer (some ⟨bt,0,none⟩),.pointer (some ⟨bt+1,0,none⟩)] (fun x:Int×Int=>#[I x.1,I x.2]) (KpB U V z) (bt+1) (fun ys=>ys=piecesL xs a) (fun pre=>pre <+: piecesL xs a) w:=by
  intro l J Jx W hW hJ _ hY h0;have hs:=hW.size
  exact pieces_in Fence.wide n trivial rfl hn l bt (bt+1) g off cap U V z xs a J Jx W hJ (by omega) (by omega) (by omega) (by omega) (by omega) (by omega) (by omega) (by omega) (by omega) (by omega) (by omega) (by omega) (by omega) hgU hgV hY hT a0
    ((hW.cell (p:=⟨bt,0,none⟩) (by show bt < _;omega)).trans hct) ((hW.cell (p:=⟨bt+1,0,none⟩) (by show bt+1 < _;omega)).trans hcf) ((hW.frozen (p:=⟨bt+1,0,none⟩) (by show bt+1 < _;omega)).trans hff)
    (fun j hj=>(hW.cell (p:=⟨g,off+j,none⟩) hb3).trans (hc j hj)) h0
def encP (x:Int×Int):Array Value:=#[I x.1,I x.2]
theorem three_boxes (w w1:World) (m u p:Int) (k:Below (w.heap.size+3) (((w.alloc (.cells #[I m] 3)).alloc (.cells #[I u] 3)).alloc (.cells #[I p] 3)) w1):
    w1.cell? ⟨w.heap.size,0,none⟩=some (I m)∧w1.cell? ⟨w.heap.size+1,0,none⟩=some (I u)∧w1.cell? ⟨w.heap.size+1+1,0,none⟩=some (I p) ∧
    w1.frozen? ⟨w.heap.size,0,none⟩=false∧w1.frozen? ⟨w.heap.size+1,0,none⟩=false∧w1.frozen? ⟨w.heap.size+1+1,0,none⟩=false∧Below w.heap.size w w1∧w.heap.size+1+1 < w1.heap.size:=by
  have b2:Below w.heap.size w (((w.alloc (.cells #[I m] 3)).alloc (.cells #[I u] 3)).alloc (.cells #[I p] 3)):=((boxed_below w _).alloc (by simp) _).alloc (by simp;omega) _;have k':Below (((w.alloc (.cells #[I m] 3)).alloc (.cells #[I u] 3)).alloc (.cells #[I p] 3)).heap.size (((w.alloc (.cells #[I m] 3)).alloc (.cells #[I u] 3)).alloc (.cells #[I p] 3)) w1:=k.mono (by simp);have o0:=(((Own.new (w:=w) rfl [I m] 3).alloc (.cells #[I u] 3)).alloc (.cells #[I p] 3)).below k';have o1:=((Own.new (w:=w.alloc (.cells #[I m] 3)) (g:=w.heap.size+1) (by simp) [I u] 3).alloc (.cells #[I p] 3)).below k';have o2:=(Own.new (w:=(w.alloc (.cells #[I m] 3)).alloc (.cells #[I u] 3)) (g:=w.heap.size+1+1) (by simp) [I p] 3).below k';exact ⟨o0.cell 0 (by simp),o1.cell 0 (by simp),o2.cell 0 (by simp),o0.frozen 0,o1.frozen 0,o2.frozen 0,b2.trans (k.mono (by omega)),by have:=k.size;simp at this;omega⟩
def MostI (xs:List AStep) (a m:Int) (w:World) (pre:List (Int×Int)) (W:World):Prop:=∃ rest u p,piecesL xs a=pre++rest∧mostP m (piecesL xs a) 0 0=mostP m rest u p∧0≤u∧u≤2097151∧0≤p∧p≤m ∧
  W.cell? ⟨w.heap.size,0,none⟩=some (I m)∧W.cell? ⟨w.heap.size+1,0,none⟩=some (I u)∧W.cell? ⟨w.heap.size+1+1,0,none⟩=some (I p)∧W.frozen? ⟨w.heap.size+1,0,none⟩=false∧W.frozen? ⟨w.heap.size+1+1,0,none⟩=false∧Below w.heap.size w W
def MostX (xs:List AStep) (a m:Int) (w:World) (W:World):Prop:=
  W.cell? ⟨w.heap.size+1,0,none⟩=some (I (mostA xs a m))∧W.cell? ⟨w.heap.size+1+1,0,none⟩=some (I (costA xs a (a+mostA xs a m)))∧W.frozen? ⟨w.heap.size+1,0,none⟩=false∧W.frozen? ⟨w.heap.size+1+1,0,none⟩=false∧Below w.heap.size w W
theorem KpB.two (U V z:Nat) (hU:U < z) (hV:V < z) (W:World) (q:Nat) (x y:Value):KpB U V z W (((W.drewN q).setCell ⟨U,0,none⟩ x).setCell ⟨V,0,none⟩ y):=by
  refine ⟨by simp [World.setCell],fun k o hk _ _ h1 h2=>?_,fun k cur fz hk hz=>?_⟩
  · simp only [World.setCell,Array.getElem?_modify,Ne.symm h1,Ne.symm h2,if_false]
    exact hk
  · simp only [World.setCell,Array.getElem?_modify,show U≠k by omega,show V≠k by omega,if_false]
    exact hk
theorem keeps_drewN (W:World) (q:Nat):KeepsOthers W (W.drewN q):=⟨Nat.le_refl _,fun _ _ h _=>h⟩
theorem two_cells (W:World) (q s:Nat) (m u p:Int) (c0:W.cell? ⟨s,0,none⟩=some (I m)) (c1:W.cell? ⟨s+1,0,none⟩=some (I u)) (c2:W.cell? ⟨s+1+1,0,none⟩=some (I p)) (y z:Value):
    (((W.drewN q).setCell ⟨s+1,0,none⟩ y).setCell ⟨s+1+1,0,none⟩ z).cell? ⟨s,0,none⟩=some (I m)∧(((W.drewN q).setCell ⟨s+1,0,none⟩ y).setCell ⟨s+1+1,0,none⟩ z).cell? ⟨s+1,0,none⟩=some y∧(((W.drewN q).setCell ⟨s+1,0,none⟩ y).setCell ⟨s+1+1,0,none⟩ z).cell? ⟨s+1+1,0,none⟩=some z:=by
  have d0:(W.drewN q).cell? ⟨s,0,none⟩=some (I m):=c0;have d1:(W.drewN q).cell? ⟨s+1,0,none⟩=some (I u):=c1;have d2:(W.drewN q).cell? ⟨s+1+1,0,none⟩=some (I p):=c2;refine ⟨?_,?_,?_⟩
  · rw [set_blk _ _ _ _ _ _ (by omega),set_blk _ _ _ _ _ _ (by omega),d0]
  · rw [set_blk _ _ _ _ _ _ (by omega),set_same,d1];rfl
  · rw [set_same,set_blk _ _ _ _ _ _ (by omega),d2];rfl
theorem two_frozen (W:World) (q s:Nat) (f1:W.frozen? ⟨s+1,0,none⟩=false) (f2:W.frozen? ⟨s+1+1,0,none⟩=false) (y z:Value):
    (((W.drewN q).setCell ⟨s+1,0,none⟩ y).setCell ⟨s+1+1,0,none⟩ z).frozen? ⟨s+1,0,none⟩=false∧(((W.drewN q).setCell ⟨s+1,0,none⟩ y).setCell ⟨s+1+1,0,none⟩ z).frozen? ⟨s+1+1,0,none⟩=false:=by
  rw [World.frozen?_setCell,World.frozen?_setCell,World.frozen?_setCell,World.frozen?_setCell];exact ⟨f1,f2⟩
theorem two_fin (W:World) (s:Nat) (u p:Int) (y z:Value) (c1:W.cell? ⟨s+1,0,none⟩=some (I u)) (c2:W.cell? ⟨s+1+1,0,none⟩=some (I p)) (D:Nat) (hK:((W.setCell ⟨s+1,0,none⟩ y).setCell ⟨s+1+1,0,none⟩ z).drew.heap[D]?=some (.deferred (some []))):
    ((((W.setCell ⟨s+1,0,none⟩ y).setCell ⟨s+1+1,0,none⟩ z).drew).putObj D (.deferred none)).cell? ⟨s+1,0,none⟩=some y∧((((W.setCell ⟨s+1,0,none⟩ y).setCell ⟨s+1+1,0,none⟩ z).drew).putObj D (.deferred none)).cell? ⟨s+1+1,0,none⟩=some z:=by
  have e1:((W.setCell ⟨s+1,0,none⟩ y).setCell ⟨s+1+1,0,none⟩ z).drew.cell? ⟨s+1,0,none⟩=some y:=by
    rw [cell_drew_own,set_blk _ _ _ _ _ _ (by omega),set_same,c1];rfl
  have e2:((W.setCell ⟨s+1,0,none⟩ y).setCell ⟨s+1+1,0,none⟩ z).drew.cell? ⟨s+1+1,0,none⟩=some z:=by
    rw [cell_drew_own,set_same,set_blk _ _ _ _ _ _ (by omega),c2];rfl
  exact ⟨cell_kept e1 (grownBy_putObj' _ D (.deferred none)) (fun r e=>by cases e;exact ⟨_,hK,rfl⟩),cell_kept e2 (grownBy_putObj' _ D (.deferred none)) (fun r e=>by cases e;exact ⟨_,hK,rfl⟩)⟩
theorem KpB.trans {U V z:Nat} {A B C:World} (h:KpB U V z A B) (k:KpB U V z B C):KpB U V z A C:=⟨Nat.le_trans h.1 k.1,fun i o hi hc hz h1 h2=>k.2.1 i o (h.2.1 i o hi hc hz h1 h2) hc hz h1 h2,fun i cur fz hi hz=>k.2.2 i cur fz (h.2.2 i cur fz hi hz) hz⟩
theorem KpB.put {U V z:Nat} {W:World} {l:Nat} {o':Obj} (h:∃ o:Obj,W.heap[l]?=some o∧o.isCells=false):KpB U V z W (W.putObj l o'):=by
  obtain ⟨o,ho,hc⟩:=h
  have hb:∀ (k:Nat) (p:Obj),W.heap[k]?=some p→p.isCells=true→(W.putObj l o').heap[k]?=some p:=fun k p hk hp=>by
    have hne:k≠l:=by rintro rfl;rw [ho] at hk;cases hk;rw [hc] at hp;cases hp
    rw [(grown_put W l o').block k (Array.getElem?_eq_some_iff.1 hk).1 (fun e=>hne (by cases e;rfl))];exact hk
  exact ⟨(grown_put W l o').size,fun k p hk hp _ _ _=>hb k p hk hp,fun k cur fz hk _=>hb k _ hk rfl⟩
theorem grown_cell {W W':World} {row:Option Nat} (hg:W.grownBy W' row) {k:Nat} {v:Value} (h:W.cell? ⟨k,0,none⟩=some v) (hne:some k≠row):W'.cell? ⟨k,0,none⟩=some v:=by
  obtain ⟨o,ho,-⟩:=cells_of_cell h;exact (World.cell?_of_block (hg.block k (Array.getElem?_eq_some_iff.1 ho).1 hne)).trans h
theorem grown_frozen {W W':World} {row:Option Nat} (hg:W.grownBy W' row) {k:Nat} {v:Value} (h:W.cell? ⟨k,0,none⟩=some v) (hf:W.frozen? ⟨k,0,none⟩=false) (hne:some k≠row):W'.frozen? ⟨k,0,none⟩=false:=by
  obtain ⟨o,ho,-⟩:=cells_of_cell h;exact (World.frozen?_of_block (hg.block k (Array.getElem?_eq_some_iff.1 ho).1 hne)).trans hf
theorem not_row {W:World} {row:Option Nat} {B Bf k:Nat} (hr:∀ r,row=some r→r=Bf∨B≤r∧∃ o,W.heap[r]?=some o∧o.isCells=false) (h1:k≠Bf) (h2:k < B):some k≠row:=fun e=>by
  rcases hr k e.symm with h | ⟨h,_⟩<;>omega
theorem below_turn {w W W':World} {row:Option Nat} {B Bf:Nat} (k:Below w.heap.size w W) (hg:W.grownBy W' row) (hr:∀ r,row=some r→r=Bf∨B≤r∧∃ o,W.heap[r]?=some o∧o.isCells=false) (h1:w.heap.size≤Bf) (h2:w.heap.size≤B):Below w.heap.size w W':=
  k.grown hg k.size (fun r e=>by rcases hr r e with h | ⟨h,_⟩<;>omega)
theorem MostI_turned (xs:List AStep) (a m:Int) (w:World) {B s:Nat} (hs2:w.heap.size+1+1 < s) (hB:s < B):Turned B (s+1) (fun pre W=>MostI xs a m w pre W):=by
  rintro pre W W' row ⟨rest,u,p,e1,e2,u0,u1,p0,p1,c0,c1,c2,f1,f2,kW⟩ hg hr;have n0:=not_row (k:=w.heap.size) hr (by omega) (by omega);have n1:=not_row (k:=w.heap.size+1) hr (by omega) (by omega);have n2:=not_row (k:=w.heap.size+1+1) hr (by omega) (by omega);exact ⟨rest,u,p,e1,e2,u0,u1,p0,p1,grown_cell hg c0 n0,grown_cell hg c1 n1,grown_cell hg c2 n2,grown_frozen hg c1 f1 n1,grown_frozen hg c2 f2 n2,below_turn kW hg hr (by omega) (by omega)⟩
theorem MostX_turned (xs:List AStep) (a m:Int) (w:World) {B s c:Nat} (hs2:w.heap.size+1+1 < s) (hB:s < B):Turned (β:=List (Int×Int)) B (s+1) (fun _ W=>c=0∧MostX xs a m w W):=by
  rintro pre W W' row ⟨hc,c1,c2,f1,f2,kW⟩ hg hr;have n1:=not_row (k:=w.heap.size+1) hr (by omega) (by omega);have n2:=not_row (k:=w.heap.size+1+1) hr (by omega) (by omega);exact ⟨hc,grown_cell hg c1 n1,grown_cell hg c2 n2,grown_frozen hg c1 f1 n1,grown_frozen hg c2 f2 n2,below_turn kW hg hr (by omega) (by omega)⟩
theorem out3 {W W2:World} {s:Nat} {m u p:Int} (k:Below W.heap.size W W2) (hs:s+1+1 < W.heap.size) (c0:W.cell? ⟨s,0,none⟩=some (I m)) (c1:W.cell? ⟨s+1,0,none⟩=some (I u)) (c2:W.cell? ⟨s+1+1,0,none⟩=some (I p))
    (f1:W.frozen? ⟨s+1,0,none⟩=false) (f2:W.frozen? ⟨s+1+1,0,none⟩=false) {Z:Prop} (hZ:Z):
    W2.cell? ⟨s,0,none⟩=some (I m)∧W2.cell? ⟨s+1,0,none⟩=some (I u)∧W2.cell? ⟨s+1+1,0,none⟩=some (I p)∧W2.frozen? ⟨s+1,0,none⟩=false∧W2.frozen? ⟨s+1+1,0,none⟩=false∧Z:=
  ⟨(k.cell (p:=⟨s,0,none⟩) (by show s < _;omega)).trans c0,(k.cell (p:=⟨s+1,0,none⟩) (by show s+1 < _;omega)).trans c1,(k.cell (p:=⟨s+1+1,0,none⟩) hs).trans c2,
    (k.frozen (p:=⟨s+1,0,none⟩) (by show s+1 < _;omega)).trans f1,(k.frozen (p:=⟨s+1+1,0,none⟩) hs).trans f2,hZ⟩
theorem Most_any (v : Value) (xs : List AStep) (a m : Int) (w : World) (h : Sl w v 2 xs.length (xs.flatMap AStep.cells)) :
    Calls Tryz.prog 120 #[v,I a,I m] w (Grew (T3 (I (mostU xs a m)) (I (mostC xs a m)) (I (mostE xs a m))) w):=by
  have T:=Lib.hid (fun W hW=>asked_any v xs a 0 W hW)
  by_cases hU:unitsE xs a 0=0
  · rw [hU] at T
    cases p1:inB m 0 1000000000000
    · have hE:mostE xs a m=2:=by simp [mostE,hU,p1]
      obtain ⟨q1,q2⟩:=most_err (xs:=xs) (a:=a) (m:=m) (by rw [hE];decide);rw [q1,q2,hE];clear q1 q2 hE hU;have p1':=inB_false.1 p1;clear p1
      by_cases hm:m < 0
      · have k1:=(((boxed_below w (.cells #[I m] 3)).alloc (by simp) (.cells #[I 0] 3)).alloc (by simp;omega) (.cells #[I 0] 3))
        refine (callsIn_wide (n:=6)).1 ?_;refine callsIn_of_wp_marks Tryz.func120 rfl trivial ?_ rfl;simp only [Tryz.ntmps120,List.size_toArray,List.length_cons,List.length_nil,Nat.reduceAdd,Nat.reduceSub,Array.replicate_succ,Array.replicate_zero,List.push_toArray,List.append_toArray,List.nil_append,List.cons_append]
        gi_wp2_with (refine ⟨trivial,?_⟩;gi_at_call 154;refine (callsIn_wide.2 (T.out _ (h.below k1))).mono ?_;rintro e w1 ⟨rfl,k2⟩;obtain ⟨c0,c1,c2,f0,f1,f2,kB,hz1⟩:=three_boxes w w1 m 0 0 (by simpa using k2);clear k1 k2;have r1:=set_same;have r2:=set_off;have r3:=set_blk)
        have fin:Below w.heap.size w ((w1.setCell ⟨w.heap.size+1,0,none⟩ (.int .i64 0)).setCell ⟨w.heap.size+1+1,0,none⟩ (.int .i64 0)):=(kB.setCell (p:=⟨w.heap.size+1,0,none⟩) (Nat.le_succ _) _).setCell (p:=⟨w.heap.size+1+1,0,none⟩) (by show _≤w.heap.size+1+1;omega) _;refine ⟨_,?_,Grew.intro rfl fin⟩;clear fin;simp [results,Tryz.results120,go_sem, *]
      · have hm2:1000000000000 < m:=by omega
        clear p1';have k1:=(((boxed_below w (.cells #[I m] 3)).alloc (by simp) (.cells #[I 0] 3)).alloc (by simp;omega) (.cells #[I 0] 3));refine (callsIn_wide (n:=6)).1 ?_;refine callsIn_of_wp_marks Tryz.func120 rfl trivial ?_ rfl;simp only [Tryz.ntmps120,List.size_toArray,List.length_cons,List.length_nil,Nat.reduceAdd,Nat.reduceSub,Array.replicate_succ,Array.replicate_zero,List.push_toArray,List.append_toArray,List.nil_append,List.cons_append]
        gi_wp2_with (refine ⟨trivial,?_⟩;gi_at_call 154;refine (callsIn_wide.2 (T.out _ (h.below k1))).mono ?_;rintro e w1 ⟨rfl,k2⟩;obtain ⟨c0,c1,c2,f0,f1,f2,kB,hz1⟩:=three_boxes w w1 m 0 0 (by simpa using k2);clear k1 k2;have r1:=set_same;have r2:=set_off;have r3:=set_blk)
        have fin:Below w.heap.size w ((w1.setCell ⟨w.heap.size+1,0,none⟩ (.int .i64 0)).setCell ⟨w.heap.size+1+1,0,none⟩ (.int .i64 0)):=(kB.setCell (p:=⟨w.heap.size+1,0,none⟩) (Nat.le_succ _) _).setCell (p:=⟨w.heap.size+1+1,0,none⟩) (by show _≤w.heap.size+1+1;omega) _;refine ⟨_,?_,Grew.intro rfl fin⟩;clear fin;simp [results,Tryz.results120,go_sem, *]
    · have hE:mostE xs a m=0:=by simp [mostE,hU,p1]
      obtain ⟨q1,q2⟩:=most_ok hE;rw [q1,q2,hE];obtain ⟨hT,a0,a1,-,-,-⟩:=unitsE_ok hU;obtain ⟨n0,n1⟩:=inB_true.1 p1;clear q1 q2 hE hU;obtain ⟨l0,-,hall,-,-⟩:=tariffE_zero hT;obtain ⟨p,cap,rfl,hn,hl,-,hs⟩:=id h;obtain ⟨g,off,rfl,hg,hc⟩:=hs.resolve_left (by omega);have HC:=Lib.hid hc;clear hc hs hl;have k1:=(((boxed_below w (.cells #[I m] 3)).alloc (by simp) (.cells #[I 0] 3)).alloc (by simp;omega) (.cells #[I 0] 3));refine (callsIn_wide (n:=6)).1 ?_;refine callsIn_of_wp_marks Tryz.func120 rfl trivial ?_ rfl;simp only [Tryz.ntmps120,List.size_toArray,List.length_cons,List.length_nil,Nat.reduceAdd,Nat.reduceSub,Array.replicate_succ,Array.replicate_zero,List.push_toArray,List.append_toArray,List.nil_append,List.cons_append]
      gi_wp2_with (refine ⟨trivial,?_⟩;gi_at_call 154;refine (callsIn_wide.2 (T.out _ (h.below k1))).mono ?_;rintro e w1 ⟨rfl,k2⟩;obtain ⟨c0,c1,c2,f0,f1,f2,kB,hz1⟩:=three_boxes w w1 m 0 0 (by simpa using k2);clear k1 k2;have r1:=set_same;have r2:=set_off;have r3:=set_blk)
      gi_wp2_with (refine ⟨trivial,?_⟩;gi_at_call 155;refine (callsIn_wide.2 (pieces_any _ _ _ _ _)).mono ?_;rintro e w2 ⟨rfl,rfl⟩)
      have hsz:=kB.size;have hbt:=Own.new (w:=w1) (g:=w1.heap.size) rfl [.slice (some ⟨g,off,none⟩) xs.length cap] 22;have hb1:=hbt.alloc (.cells #[I a] 3);have hb2:=Own.new (w:=w1.alloc (.cells #[.slice (some ⟨g,off,none⟩) xs.length cap] 22)) (g:=w1.heap.size+1) (by simp) [I a] 3;have hB2:Below w1.heap.size w1 ((w1.alloc (.cells #[.slice (some ⟨g,off,none⟩) xs.length cap] 22)).alloc (.cells #[I a] 3)):=(boxed_below w1 _).alloc (by simp) _
      refine range_store rfl (by omega) (gf:=165) (lb:=#[.pointer (some ⟨w1.heap.size,0,none⟩),.pointer (some ⟨w1.heap.size+1,0,none⟩)]) rfl trivial (enters_of Tryz.func165 (by kernel_rfl) rfl) (Bf:=w1.heap.size+1) (by simp)
        (pieces_store (6-1) (by omega) w1.heap.size g off cap (w.heap.size+1) (w.heap.size+1+1) (w1.heap.size+1+1) xs a _ (by omega) (by simp) (by simp;omega) (by omega) (by omega) (by omega) (by omega) (by omega) hT a0
          (hb1.cell 0 (by simp)) (hb2.cell 0 (by simp)) (hb2.frozen 0) (fun j hj=>((kB.trans (hB2.mono hsz)).cell (p:=⟨g,off+j,none⟩) hg).trans (HC.out j hj))) (Kp:=KpB (w.heap.size+1) (w.heap.size+1+1) (w1.heap.size+1+1))
        (fun h k=>h.trans k) (fun W l o' _ ho=>KpB.put ho) (fun _=>rfl)
        (fun pre W=>MostI xs a m w pre W) (fun c pre W=>c=0∧MostX xs a m w W) (MostI_turned xs a m w hz1 (by simp;omega)) (fun _=>MostX_turned xs a m w hz1 (by simp;omega)) ⟨_,0,0,rfl,rfl,by omega,by omega,by omega,n0,out3 hB2 hz1 c0 c1 c2 f1 f2 (kB.trans (hB2.mono hsz))⟩
        (fun x=>{ tmps:=#[.slice (some ⟨g,off,none⟩) xs.length cap,I a,I m,undef,undef,.pointer (some ⟨w.heap.size,0,none⟩),.pointer (some ⟨w.heap.size+1,0,none⟩),.pointer (some ⟨w.heap.size+1+1,0,none⟩),.int .i64 0,I 0,I x.1,I x.2,undef,.slice (some ⟨g,off,none⟩) xs.length cap,I a,I 0,I 0,.bool false,undef,I m,.bool (decide (m < 0)),.bool (decide (m < 0)),I m,.bool (decide (1000000000000 < m)),.bool (decide (m < 0)||decide (1000000000000 < m)),.slice (some ⟨g,off,none⟩) xs.length cap,I a,.func (.func 165) #[] #[.pointer (some ⟨w1.heap.size,0,none⟩),.pointer (some ⟨w1.heap.size+1,0,none⟩)],I x.1,I x.2,undef,undef,undef,undef,undef,undef,undef,undef,undef,undef,undef,undef,undef,undef,undef,undef,undef,undef,undef,undef,undef,undef],defers:=[] }) ?assign ?body ?done ?stop
      case assign=>
        intro l x W K hK
        gi_wp2
        exact hK
      case body=>
        rintro l pre x W ⟨rest,u,p,e1,e2,u0,u1,p0,p1,c0,c1,c2,f1,f2,kW⟩ ⟨rest',hr'⟩;rw [e1,List.append_assoc,List.singleton_append] at hr';obtain rfl:=(List.append_cancel_left hr').symm;obtain ⟨x0,x1,y0,y1⟩:=piecesL_ok a0 (List.all_eq_true.1 hall) x (by rw [e1];simp);have hq0:(m-p).tdiv x.2=(m-p) / x.2:=Int.tdiv_eq_ediv_of_nonneg (by omega);have hd0:0≤(m-p) / x.2:=Int.ediv_nonneg (by omega) (by omega);have hd1:(m-p) / x.2*x.2≤m-p:=Int.ediv_mul_le _ (by omega);have hd2:(m-p) / x.2≤m-p:=Int.ediv_le_self _ (by omega);have hn:takeN m u p x=min x.1 (min ((m-p) / x.2) (2097151-u)):=rfl
        have hmul:0≤takeN m u p x*x.2∧takeN m u p x*x.2≤m-p:=by
          have h1:0≤takeN m u p x:=by omega
          have h2:takeN m u p x*x.2≤(m-p) / x.2*x.2:=Int.mul_le_mul_of_nonneg_right (by omega) (by omega);exact ⟨Int.mul_nonneg h1 (by omega),by omega⟩
        have hstep:mostP m (x::rest') u p=if takeN m u p x < x.1 then (u+takeN m u p x,p+takeN m u p x*x.2) else mostP m rest' (u+takeN m u p x) (p+takeN m u p x*x.2):=rfl;have w1':IntKind.i64.wrap (m-p)=m-p:=wrap_small _ (by omega) (by omega);have w2':IntKind.i64.wrap ((m-p).tdiv x.2)=(m-p) / x.2:=by rw [hq0];exact wrap_small _ (by omega) (by omega)
        have w3':IntKind.i64.wrap (2097151-u)=2097151-u:=wrap_small _ (by omega) (by omega);have hx2:x.2≠0:=by omega
        have hmx:Tryz.prog.follows .mixedOrders=true:=by kernel_rfl
        have H:=Lib.hid (And.intro hstep (And.intro hn (And.intro hmul (And.intro e1 e2))));clear hstep hn hmul e1 e2 hq0 hd0 hd1 hd2 hr'
        gi_wp2
        refine region_round l rfl hmx (by kernel_rfl) (by kernel_rfl) ?_
        repeat (gi_big_quiet_step (fail))
        refine wpQuietIn_nil ?_;intro _ hw';obtain ⟨nq,hw''⟩:=hw';subst hw''
        have hmin:(if 2097151-u < (if (m-p) / x.2 < x.1 then (m-p) / x.2 else x.1) then 2097151-u else (if (m-p) / x.2 < x.1 then (m-p) / x.2 else x.1))=takeN m u p x:=by
          rw [H.out.2.1];repeat' split
          all_goals omega
        rw [hmin];obtain ⟨hstep,hn,⟨hm0,hm1⟩,e1,e2⟩:=H.out
        have hn0:0≤takeN m u p x:=by
          have:0≤(m-p) / x.2:=Int.ediv_nonneg (by omega) (by omega);omega
        have hn1:u+takeN m u p x≤2097151:=by omega
        have hn2:takeN m u p x≤x.1:=by omega
        have H2:=Lib.hid (And.intro hstep (And.intro e1 e2));clear hmin H hn hstep e1 e2 w1' w2' w3';generalize takeN m u p x=nn at *;have w4':IntKind.i64.wrap (u+nn)=u+nn:=wrap_small _ (by omega) (by omega);have w5':IntKind.i64.wrap (nn*x.2)=nn*x.2:=wrap_small _ (by omega) (by omega);have w6':IntKind.i64.wrap (p+nn*x.2)=p+nn*x.2:=wrap_small _ (by omega) (by omega);have kO:∀ y z,KeepsOthers W (((W.drewN nq).setCell ⟨w.heap.size+1,0,none⟩ y).setCell ⟨w.heap.size+1+1,0,none⟩ z):=fun y z=>((keeps_drewN W nq).trans (KeepsOthers.setCell _ _ _)).trans (KeepsOthers.setCell _ _ _);have kBe:∀ y z,Below w.heap.size w (((W.drewN nq).setCell ⟨w.heap.size+1,0,none⟩ y).setCell ⟨w.heap.size+1+1,0,none⟩ z):=fun y z=>((drewN_below kW nq).setCell (p:=⟨w.heap.size+1,0,none⟩) (Nat.le_succ _) _).setCell (p:=⟨w.heap.size+1+1,0,none⟩) (by show _≤w.heap.size+1+1;omega) _;have cE:=two_cells W nq w.heap.size m u p c0 c1 c2;have fE:=two_frozen W nq w.heap.size f1 f2;have kk:=Lib.hid (And.intro kO (And.intro kBe (And.intro cE fE)));clear kO kBe cE fE
        by_cases hlt:nn < x.1
        · gi_wp2
          obtain ⟨kO,kBe,cE,fE⟩:=kk.out;obtain ⟨g0,g1,g2⟩:=cE (I (u+nn)) (I (p+nn*x.2));obtain ⟨g3,g4⟩:=fE (I (u+nn)) (I (p+nn*x.2));obtain ⟨hstep,e1,e2⟩:=H2.out;obtain ⟨-,-,-,hK,-⟩:=most_is hT a0 a1 n0;rw [e2,hstep,if_pos hlt] at hK;simp only [Prod.mk.injEq] at hK;refine ⟨kO _ _,rfl,?_,?_,g3,g4,kBe _ _⟩
          · rw [← hK.1];exact g1
          · rw [← hK.2];exact g2
        · gi_wp2
          obtain ⟨kO,kBe,cE,fE⟩:=kk.out;obtain ⟨g0,g1,g2⟩:=cE (I (u+nn)) (I (p+nn*x.2));obtain ⟨g3,g4⟩:=fE (I (u+nn)) (I (p+nn*x.2));obtain ⟨hstep,e1,e2⟩:=H2.out;rw [hstep,if_neg (by omega)] at e2;exact ⟨kO _ _,KpB.two _ _ _ (by omega) (by omega) _ _ _ _,rest',u+nn,p+nn*x.2,by rw [e1];simp,e2,by omega,by omega,by omega,by omega,g0,g1,g2,g3,g4,kBe _ _⟩
      case done=>
        rintro D ys W hD rfl ⟨rest,u,p,e1,e2,u0,u1,p0,p1,c0,c1,c2,f1,f2,kW⟩ hK;obtain rfl:rest=[]:=by simpa using e1
        obtain ⟨-,-,-,hM,-⟩:=most_is hT a0 a1 n0;rw [e2] at hM;obtain ⟨q1,q2⟩:=Prod.mk.inj hM;have q3:p=costA xs a (a+mostA xs a m):=q2;have Q:=Lib.hid (And.intro (show u=mostA xs a m from q1) q3);clear q1 q2 q3 hM e2
        gi_wp2
        gi_region
        gi_wp2
        have hK0:((W.setCell ⟨w.heap.size+1,0,none⟩ (.int .i64 u)).setCell ⟨w.heap.size+1+1,0,none⟩ (.int .i64 p)).drew.heap[D]?=some (.deferred (some [])):=((KeepsOthers.setCell W _ _).trans (KeepsOthers.setCell _ _ _)).same D _ hK rfl;refine ⟨by simp,.inl ⟨_,_,rfl,run_takeDeferred hK0,?_⟩⟩;obtain ⟨g1,g2⟩:=two_fin W w.heap.size u p (I u) (I p) c1 c2 D hK0;have g1':=Lib.hid g1;have fin:Below w.heap.size w ((((W.setCell ⟨w.heap.size+1,0,none⟩ (.int .i64 u)).setCell ⟨w.heap.size+1+1,0,none⟩ (.int .i64 p)).drew).putObj D (.deferred none)):=((drewN_below ((kW.setCell (p:=⟨w.heap.size+1,0,none⟩) (Nat.le_succ _) _).setCell (p:=⟨w.heap.size+1+1,0,none⟩) (by show _≤w.heap.size+1+1;omega) _) 1)).trans (belowK_b (w:=w) (Nat.le_refl _) _ D _ _ (by simp at hD;omega) hK0 rfl rfl);refine ⟨_,?_,Grew.intro rfl fin⟩;clear fin hK0 r1 r2 r3;simp [results,Tryz.results120,go_sem,g1,g2];exact Q.out
      case stop=>
        rintro D c pre W hD hp ⟨rfl,c1,c2,f1,f2,kW⟩ hK;generalize mostA xs a m=u at *;generalize costA xs a (a+u)=p at *
        gi_wp2
        gi_region
        gi_wp2
        have hK0:((W.setCell ⟨w.heap.size+1,0,none⟩ (.int .i64 u)).setCell ⟨w.heap.size+1+1,0,none⟩ (.int .i64 p)).drew.heap[D]?=some (.deferred (some [])):=((KeepsOthers.setCell W _ _).trans (KeepsOthers.setCell _ _ _)).same D _ hK rfl;refine ⟨by simp,.inl ⟨_,_,rfl,run_takeDeferred hK0,?_⟩⟩;obtain ⟨g1,g2⟩:=two_fin W w.heap.size u p (I u) (I p) c1 c2 D hK0;have g1':=Lib.hid g1;have fin:Below w.heap.size w ((((W.setCell ⟨w.heap.size+1,0,none⟩ (.int .i64 u)).setCell ⟨w.heap.size+1+1,0,none⟩ (.int .i64 p)).drew).putObj D (.deferred none)):=((drewN_below ((kW.setCell (p:=⟨w.heap.size+1,0,none⟩) (Nat.le_succ _) _).setCell (p:=⟨w.heap.size+1+1,0,none⟩) (by show _≤w.heap.size+1+1;omega) _) 1)).trans (belowK_b (w:=w) (Nat.le_refl _) _ D _ _ (by simp at hD;omega) hK0 rfl rfl);refine ⟨_,?_,Grew.intro rfl fin⟩;clear fin hK0 r1 r2 r3;simp [results,Tryz.results120,go_sem,g1,g2]
  · have hE:mostE xs a m=unitsE xs a 0:=by simp [mostE,hU]
    obtain ⟨q1,q2⟩:=most_err (xs:=xs) (a:=a) (m:=m) (by rw [hE];exact hU);rw [q1,q2,hE];clear q1 q2 hE;generalize unitsE xs a 0=r at *;have k1:=(((boxed_below w (.cells #[I m] 3)).alloc (by simp) (.cells #[I 0] 3)).alloc (by simp;omega) (.cells #[I 0] 3));refine (callsIn_wide (n:=6)).1 ?_;refine callsIn_of_wp_marks Tryz.func120 rfl trivial ?_ rfl;simp only [Tryz.ntmps120,List.size_toArray,List.length_cons,List.length_nil,Nat.reduceAdd,Nat.reduceSub,Array.replicate_succ,Array.replicate_zero,List.push_toArray,List.append_toArray,List.nil_append,List.cons_append]
    gi_wp2_with (refine ⟨trivial,?_⟩;gi_at_call 154;refine (callsIn_wide.2 (T.out _ (h.below k1))).mono ?_;rintro e w1 ⟨rfl,k2⟩;obtain ⟨c0,c1,c2,f0,f1,f2,kB,hz1⟩:=three_boxes w w1 m 0 0 (by simpa using k2);clear k1 k2;have r1:=set_same;have r2:=set_off;have r3:=set_blk)
    have fin:Below w.heap.size w ((w1.setCell ⟨w.heap.size+1,0,none⟩ (.int .i64 0)).setCell ⟨w.heap.size+1+1,0,none⟩ (.int .i64 0)):=(kB.setCell (p:=⟨w.heap.size+1,0,none⟩) (Nat.le_succ _) _).setCell (p:=⟨w.heap.size+1+1,0,none⟩) (by show _≤w.heap.size+1+1;omega) _;refine ⟨_,?_,Grew.intro rfl fin⟩;clear fin;simp [results,Tryz.results120,go_sem, *]
end
section
open Go.RowKit

def sellR (xs:List ADebt) (t f b d:Int):Int:=t-recP xs t d-(f+partA t b)
def sellU (xs:List ADebt) (ts:List AStep) (bo t f b d:Int):Int:=if 0≤sellR xs t f b d then mostU ts bo (sellR xs t f b d) else 0
def sellP (xs:List ADebt) (ts:List AStep) (bo t f b d:Int):Int:=if 0≤sellR xs t f b d then mostC ts bo (sellR xs t f b d) else 0
def sellE (xs:List ADebt) (ts:List AStep) (bo nx t f b d:Int):Int:=if inB t 1 100000000 then (if sellU xs ts bo t f b d=0 then 19 else if 1048575 < nx then 20 else 0) else 19
theorem recP_bd (xs:List ADebt) (t d:Int):0≤recP xs t d∧recP xs t d≤1000000000000:=by
  unfold recP
  split
  · rename_i h
    simp only [recOk,Bool.and_eq_true,beq_iff_eq] at h;have h0:=debtSum_bd (debtE_zero h.1).1 (debtE_zero h.1).2
    have h1:0≤shareA t d∧shareA t d≤1000000000000:=by
      unfold shareA
      split
      · exact partA_bd t d
      · omega
    omega
  · omega
def GrewSell (g:Nat) (y:AAcc) (ys:List ADebt) (bl:ABill) (tv:Value) (f b d al:Int) (w:World) (e:Ending) (w':World):Prop:=
  ∃ v,e=.returned (T2 (.agg #[I bl.id,I bl.tender,I bl.debt,I bl.fee,I bl.price,I bl.change,I bl.units]) (I 0))∧Own w' g (clerkC y v tv f b d al)∧Sl w' v 2 ys.length (ys.flatMap ADebt.cells)∧Far g v∧FarB w.heap.size v∧Chg g w w'
def GrewSellE (g:Nat) (k:Int) (w:World) (e:Ending) (w':World):Prop:=
  e=.returned (T2 (.agg #[I 0,I 0,I 0,I 0,I 0,I 0,I 0]) (I k))∧Chg g w w'
theorem sell_tender (g:Nat) (t:Int) (w:World) (hi:inB t 1 100000000=false):
    Calls Tryz.prog 70 #[.pointer (some ⟨g,0,none⟩),I t] w (GrewSellE g 19 w):=by
  have k:=boxed_below w (.cells #[I 0,I 0,I 0,I 0,I 0,I 0,I 0] 39);have oz:=Own.new (w:=w) rfl [I 0,I 0,I 0,I 0,I 0,I 0,I 0] 39;have zO:=oz;have zA:=zO.s7;clear zO;clear oz;have r1:=set_same;have r2:=set_off;have r3:=set_blk;go_enter Tryz.func70,Tryz.ntmps70
  go_wp2_with (go_at_call 110;refine (awithin_any _ _ _ _).mono ?_;rintro e w' ⟨rfl,rfl⟩)
  exact bodyPost_ret (v:=T2 (.agg #[I 0,I 0,I 0,I 0,I 0,I 0,I 0]) (I 19)) (by simp [results,Tryz.results70,go_sem, *];try omega) rfl (⟨rfl,Chg.of_below below_autor⟩)
theorem wrap_mid (n:Int) (h0:-9000000000000000000≤n) (h1:n≤9000000000000000000):IntKind.i64.wrap n=n:=by
  rw [IntKind.wrap_i64];omega
theorem Chg.drw {z:Nat} {w w':World} (h:Chg z w w'):Chg z w w'.drew:=⟨h.os,h.tape,h.output,h.size,h.block⟩
theorem sell_neg (g:Nat) (y1 y2 y3 y4 y5 y6:Int) (v tv:Value) (xs ys:List ADebt) (ts:List AStep) (f b d al t p k0 q qe:Int) (w:World) (hO:Own w g [I y1,I y2,I y3,I y4,I y5,I y6,v,tv,I f,I b,I d,I al])
    (hS:Sl w v 2 xs.length (xs.flatMap ADebt.cells)) (tS:Sl w tv 2 ts.length (ts.flatMap AStep.cells)) (hFt:Far g tv) (hFtb:Far (w.heap.size+1) tv) (hi:inB t 1 100000000=true)
    (R:Hid (∀ W,Sl W v 2 xs.length (xs.flatMap ADebt.cells)→Calls Tryz.prog 118 #[v,I t,I d] W (GrewSl3 2 ys.length (ys.flatMap ADebt.cells) p k0 W)))
    (C:Hid (∀ W,Calls Tryz.prog 119 #[I t,I b] W (Pure (T2 (I q) (I qe)) W)))
    (p0:0≤p) (p1:p≤1000000000000) (q0:0≤q) (q1:q≤1000000000000) (f0:0≤f) (f1:f≤100000) (hr:t-p-(f+q) < 0):
    Calls Tryz.prog 70 #[.pointer (some ⟨g,0,none⟩),I t] w (GrewSellE g 19 w):=by
  obtain ⟨t0,t1⟩:=inB_true.1 hi;have x1:IntKind.i64.wrap (f+q)=f+q:=wrap_small _ (by omega) (by omega);have x2:IntKind.i64.wrap (t-p)=t-p:=wrap_mid _ (by omega) (by omega);have x3:IntKind.i64.wrap (t-p-(f+q))=t-p-(f+q):=wrap_mid _ (by omega) (by omega);have hgl:=hO.lt;have r1:=set_same;have r2:=set_off;have r3:=set_blk;obtain ⟨k0,oz,ob⟩:=boxes2 w [I 0,I 0,I 0,I 0,I 0,I 0,I 0] 39 [I y3,I t,I 0,I 0,I 0,I 0,I 0] 39;have o1:=hO.below k0;have hS1:=hS.below k0;have tS1:=tS.below k0;have e2:=hO.cell 2 (by simp);have d2:=(hO.alloc (.cells #[I 0,I 0,I 0,I 0,I 0,I 0,I 0] 39)).cell 2 (by simp);simp only [Nat.zero_add,List.getD_cons_zero,List.getD_cons_succ] at e2 d2;have c6:((w.alloc (.cells #[I 0,I 0,I 0,I 0,I 0,I 0,I 0] 39)).alloc (.cells #[I y3,I t,I 0,I 0,I 0,I 0,I 0] 39)).cell? ⟨g,6,none⟩=some v:=o1.cell 6 (by simp);have c10:((w.alloc (.cells #[I 0,I 0,I 0,I 0,I 0,I 0,I 0] 39)).alloc (.cells #[I y3,I t,I 0,I 0,I 0,I 0,I 0] 39)).cell? ⟨g,10,none⟩=some (I d):=o1.cell 10 (by simp);have hsz:((w.alloc (.cells #[I 0,I 0,I 0,I 0,I 0,I 0,I 0] 39)).alloc (.cells #[I y3,I t,I 0,I 0,I 0,I 0,I 0] 39)).heap.size=w.heap.size+2:=by simp
  obtain ⟨va,vcap,rfl,-⟩:=id hS;obtain ⟨ta,tcap,rfl,-⟩:=id tS;go_enter Tryz.func70,Tryz.ntmps70
  go_wp2_with (go_at_call 110;refine (awithin_any _ _ _ _).mono ?_;rintro e w' ⟨rfl,rfl⟩)
  generalize ((w.alloc (.cells #[I 0,I 0,I 0,I 0,I 0,I 0,I 0] 39)).alloc (.cells #[I y3,I t,I 0,I 0,I 0,I 0,I 0] 39))=W1 at *;refine AnyC.begin 12 (fun w'=>w'.cell? ⟨g,6,none⟩=some (.slice va xs.length vcap)∧w'.cell? ⟨g,10,none⟩=some (I d)) (by kernel_rfl) ?_;have HH:(fun w'=>w'.cell? ⟨g,6,none⟩=some (.slice va xs.length vcap)∧w'.cell? ⟨g,10,none⟩=some (I d)) W1.drew:=⟨c6,c10⟩;refine AnyC.pure (i:=0) (v:=?_) rfl (by decide) (by kernel_rfl) (by kernel_rfl) (by kernel_rfl) (fun _ _ _ h=>h) (Or.inl ⟨by rfl,?_⟩) (fun _=>HH) ?_;rotate_left
  · (intro w;first | (go_simp;done) | (go_simp;with_reducible rfl))
  (try simp only [Act.put,List.setIfInBounds_toArray]);refine AnyC.tk 1 ?_ HH ?_ ?_;rotate_left
  · (intro w hSw;(try dsimp only at hSw);first | (go_simp;done) | (go_simp;with_reducible rfl))
  (try simp only [Act.put]);refine AnyC.tk 2 ?_ HH ?_ ?_;rotate_left
  · (intro w hSw;(try dsimp only at hSw);first | (go_simp;done) | (go_simp;with_reducible rfl))
  (try simp only [Act.put]);refine AnyC.tk 3 ?_ HH ?_ ?_;rotate_left
  · (intro w hSw;(try dsimp only at hSw);first | (go_simp;done) | (go_simp;with_reducible rfl))
  (try simp only [Act.put]);refine AnyC.tk 4 ?_ HH ?_ ?_;rotate_left
  · (intro w hSw;(try dsimp only at hSw);first | (go_simp;done) | (go_simp;with_reducible rfl))
  (try simp only [Act.put]);refine AnyC.tk 5 ?_ HH ?_ ?_;rotate_left
  · (intro w hSw;(try dsimp only at hSw);first | (go_simp;done) | (go_simp;with_reducible rfl))
  (try simp only [Act.put]);refine AnyC.tk 6 ?_ HH ?_ ?_;rotate_left
  · (intro w hSw;(try dsimp only at hSw);first | (go_simp;done) | (go_simp;with_reducible rfl))
  (try simp only [Act.put]);refine AnyC.tk 7 ?_ HH ?_ ?_;rotate_left
  · (intro w hSw;(try dsimp only at hSw);first | (go_simp;done) | (go_simp;with_reducible rfl))
  (try simp only [Act.put]);refine AnyC.tk 8 ?_ HH ?_ ?_;rotate_left
  · (intro w hSw;(try dsimp only at hSw);first | (go_simp;done) | (go_simp;with_reducible rfl))
  (try simp only [Act.put]);refine AnyC.tk 9 ?_ HH ?_ ?_;rotate_left
  · (intro w hSw;(try dsimp only at hSw);first | (go_simp;done) | (go_simp;with_reducible rfl))
  (try simp only [Act.put]);refine AnyC.tk 10 ?_ HH ?_ ?_;rotate_left
  · (intro w hSw;(try dsimp only at hSw);first | (go_simp;done) | (go_simp;with_reducible rfl))
  (try simp only [Act.put]);refine AnyC.tk 11 ?_ HH ?_ ?_;rotate_left
  · (intro w hSw;(try dsimp only at hSw);first | (go_simp;done) | (go_simp;with_reducible rfl))
  (try simp only [Act.put]);refine AnyC.one (i:=12) (by kernel_rfl) (by rfl) (fun K hK=>?_);go_simp;(with_reducible refine (R.out _ ?_).mono ?_)
  · exact hS1
  rintro e w1 ⟨v',rfl,h1,k1,hF1⟩;have k1':Below W1.heap.size W1 w1:=⟨k1.os,k1.tape,k1.output,k1.size,k1.block⟩;have hF1':FarB W1.heap.size v':=hF1;have og:=o1.below k1';have hf6:=og.frozen 6;have g6:w1.cell? ⟨g,6,none⟩=some (.slice va xs.length vcap):=og.cell 6 (by simp);have ob1:=ob.below k1';have b2:w1.cell? ⟨w.heap.size+1,2,none⟩=some (I 0):=ob1.cell 2 (by simp);have bf2:=ob1.frozen 2;obtain ⟨va',vcap',rfl,-⟩:=id h1
  go_wp2_with fail
  refine hK.out _ _ (fun h=>absurd rfl h) ?_;clear hK K;(try simp only [Act.put]);refine AnyC.pu 13 ?_ ?_ ?_;rotate_left
  · (intro w;first | (go_simp;done) | (go_simp;with_reducible rfl))
  (try simp only [Act.put]);refine AnyC.pu 14 ?_ ?_ ?_;rotate_left
  · (intro w;first | (go_simp;done) | (go_simp;with_reducible rfl))
  (try simp only [Act.put]);refine AnyC.pu 15 ?_ ?_ ?_;rotate_left
  · (intro w;first | (go_simp;done) | (go_simp;with_reducible rfl))
  (try simp only [Act.put]);refine AnyC.pu 16 ?_ ?_ ?_;rotate_left
  · (intro w;first | (go_simp;done) | (go_simp;with_reducible rfl))
  (try simp only [Act.put]);refine AnyC.pu 17 ?_ ?_ ?_;rotate_left
  · (intro w;first | (go_simp;done) | (go_simp;with_reducible rfl))
  (try simp only [Act.put]);refine AnyC.pu 18 ?_ ?_ ?_;rotate_left
  · (intro w;first | (go_simp;done) | (go_simp;with_reducible rfl))
  (try simp only [Act.put]);refine AnyC.pu 19 ?_ ?_ ?_;rotate_left
  · (intro w;first | (go_simp;done) | (go_simp;with_reducible rfl))
  (try simp only [Act.put]);refine AnyC.one (i:=20) (by kernel_rfl) (by rfl) (fun K hK=>?_);go_simp;refine hK.out _ _ (fun _ h=>absurd h (by decide)) ?_;clear hK K;(try simp only [Act.put]);refine AnyC.pu 21 ?_ ?_ ?_;rotate_left
  · (intro w;first | (go_simp;done) | (go_simp;with_reducible rfl))
  (try simp only [Act.put]);refine AnyC.one (i:=22) (by kernel_rfl) (by rfl) (fun K hK=>?_);go_simp;refine hK.out _ _ (fun _ h=>absurd h (by decide)) ?_;clear hK K;(try simp only [Act.put]);refine AnyC.done (by kernel_rfl) ?_ _;have hne:g≠w.heap.size+1:=by omega
  have hfz:Far g (.slice va' ys.length vcap'):=hF1'.far (by omega);have hfb:Far (w.heap.size+1) (.slice va' ys.length vcap'):=hF1'.far (by omega);have oG:=(og.set 6 (.slice va' ys.length vcap')).other (a:=⟨w.heap.size+1,2,none⟩) (Ne.symm hne) (I p);have oB:=(ob1.other (a:=⟨g,6,none⟩) hne (.slice va' ys.length vcap')).set 2 (I p);have oZ:=((oz.below k1').other (a:=⟨g,6,none⟩) (by show g≠w.heap.size;omega) (.slice va' ys.length vcap')).other (a:=⟨w.heap.size+1,2,none⟩) (by show w.heap.size+1≠w.heap.size;omega) (I p);have cG:=((((Chg.of_below k0:Chg g w W1)).trans (Chg.of_below k1')).set 6 (.slice va' ys.length vcap')).setNew (w.heap.size+1) 2 (by omega) (I p);have hY:=(h1.set (j:=6) hfz (.slice va' ys.length vcap')).set (j:=2) hfb (I p);have tS2:=((tS1.below k1').set (j:=6) hFt (.slice va' ys.length vcap')).chg (z:=w.heap.size+1) (fun _=>hFtb) ((Chg.refl _ _).set 2 (I p));have hz2:w.heap.size+2≤((w1.setCell ⟨g,6,none⟩ (.slice va' ys.length vcap')).setCell ⟨w.heap.size+1,2,none⟩ (I p)).heap.size:=by have:=k1'.size;simp [World.setCell];omega
  (try simp only [List.set_cons_zero,List.set_cons_succ] at oG oB);clear HH og g6 hf6 ob1 b2 bf2 c6 c10 d2 e2 k1 k1' hF1 o1 oz ob hS1 tS1 h1 k0 hO hS tS;generalize ((w1.setCell ⟨g,6,none⟩ (.slice va' ys.length vcap')).setCell ⟨w.heap.size+1,2,none⟩ (I p))=W2 at *;have gcO:=oG;have gcA:=gcO.s12;clear gcO;have bcO:=oB;have bcA:=bcO.s7;clear bcO;have zcO:=oZ;have zcA:=zcO.s7;clear zcO;clear oG oB oZ hY tS2 R;have hlt:t-p-(f+q) < 0:=hr
  go_wp2_with (go_at_call 119;refine (C.out _).mono ?_;rintro e w' ⟨rfl,rfl⟩)
  exact bodyPost_ret (v:=T2 (.agg #[I 0,I 0,I 0,I 0,I 0,I 0,I 0]) (I 19)) (by simp [results,Tryz.results70,go_sem, *];try omega) rfl (⟨rfl,(by repeat first | with_reducible assumption | with_reducible refine Chg.set ?_ _ _ | with_reducible refine Chg.setNew ?_ _ _ (by omega) _ | with_reducible refine Chg.drewN ?_ _ | with_reducible refine Chg.drw ?_)⟩)
end
end Go.Proofs.YtdjgcenjonegjaaGreat
