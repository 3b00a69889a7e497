/- ref.Granted: what fails early · ref.Granted: 22 · ref.Granted: 21 -/
import Derived.Test.YtdjgcenjonegjaaGreatPk10
import Derived.Test.YtdjgcenjonegjaaGreatPk18
set_option maxRecDepth 20000
set_option maxHeartbeats 8000000
set_option linter.unusedSimpArgs false
set_option linter.unusedVariables false
namespace Go.Proofs.YtdjgcenjonegjaaGreat
section
open Go.RowKit

theorem Granted_may (x1 x2 x3 x4 x5 x6 f b d al m:Int) (v tv:Value) (xs:List ADebt) (ts:List AStep) (w:World) (h:Sl w v 2 xs.length (xs.flatMap ADebt.cells)) (ht:Sl w tv 2 ts.length (ts.flatMap AStep.cells))
    (M:Hid (∀ W,Sl W v 2 xs.length (xs.flatMap ADebt.cells)→Calls Tryz.prog 54 #[.agg #[I x1,I x2,I x3,I x4,I x5,I x6,v]] W (Grew (.bool false) W))):
    Calls Tryz.prog 29 #[.agg #[I x1,I x2,I x3,I x4,I x5,I x6,v],.agg #[tv,I f,I b,I d,I al],I m] w (GrewAccBF ⟨0,0,0,0,0,0⟩ [] ⟨0,0,0,0,0,0,0⟩ 5 w):=by
  unfold GrewAccBF;(try unfold GrewAccF at *);simp only at *;have F:=Lib.hid True.intro;obtain ⟨kB,oa,ot,oz,oy⟩:=boxes4 w [I x1,I x2,I x3,I x4,I x5,I x6,v] 64 [tv,I f,I b,I d,I al] 24 [I 0,I 0,I 0,I 0,I 0,I 0,.slice none 0 0] 64 [I 0,I 0,I 0,I 0,I 0,I 0,I 0] 39;have hS:=h.below kB;have h':=h;have ht':=ht;obtain ⟨a,cap,rfl,-⟩:=h;obtain ⟨ta,tcap,rfl,-⟩:=ht;go_enter Tryz.func29,Tryz.ntmps29
  go_wp2_with fail
  refine (M.out _ hS).mono ?_;rintro e w1 ⟨rfl,k1⟩;have oa1:=oa.below k1;have ot1:=ot.below k1;have oz1:=oz.below k1;have oy1:=oy.below k1;have kk1:=kB.trans (k1.mono kB.size);have hs1:w.heap.size+4≤w1.heap.size:=by have:=k1.size;simp at this;omega
  have tS1:=ht'.below kk1;clear oa ot oz oy kB k1 hS;have r1:=set_same;have r2:=set_off;have r3:=set_blk;have aO:=oa1;have aA:=aO.s7;clear aO;have tO:=ot1;have tA:=tO.s5;clear tO;have zO:=oz1;have zA:=zO.s7;clear zO;have yO:=oy1;have yA:=yO.s7;clear yO;go_wp2;exact bodyPost_ret (v:=T3 (.agg #[I 0,I 0,I 0,I 0,I 0,I 0,.slice none 0 0]) (.agg #[I 0,I 0,I 0,I 0,I 0,I 0,I 0]) (I 5)) (by simp [results,Tryz.results29,go_sem, *];try omega) rfl (⟨_,rfl,Sl.nil _ _,below_autor,FarB.nil _ _ _⟩)
theorem Granted_terms (x1 x2 x3 x4 x5 x6 f b d al m E:Int) (v tv:Value) (xs:List ADebt) (ts:List AStep) (w:World) (h:Sl w v 2 xs.length (xs.flatMap ADebt.cells)) (ht:Sl w tv 2 ts.length (ts.flatMap AStep.cells))
    (M:Hid (∀ W,Sl W v 2 xs.length (xs.flatMap ADebt.cells)→Calls Tryz.prog 54 #[.agg #[I x1,I x2,I x3,I x4,I x5,I x6,v]] W (Grew (.bool true) W)))
    (F:Hid (∀ W,Sl W tv 2 ts.length (ts.flatMap AStep.cells)→Calls Tryz.prog 55 #[.agg #[tv,I f,I b,I d,I al]] W (Grew (I E) W))) (hE0:¬ E=0):
    Calls Tryz.prog 29 #[.agg #[I x1,I x2,I x3,I x4,I x5,I x6,v],.agg #[tv,I f,I b,I d,I al],I m] w (GrewAccBF ⟨0,0,0,0,0,0⟩ [] ⟨0,0,0,0,0,0,0⟩ E w):=by
  unfold GrewAccBF;(try unfold GrewAccF at *);simp only at *;obtain ⟨kB,oa,ot,oz,oy⟩:=boxes4 w [I x1,I x2,I x3,I x4,I x5,I x6,v] 64 [tv,I f,I b,I d,I al] 24 [I 0,I 0,I 0,I 0,I 0,I 0,.slice none 0 0] 64 [I 0,I 0,I 0,I 0,I 0,I 0,I 0] 39;have hS:=h.below kB;have h':=h;have ht':=ht;obtain ⟨a,cap,rfl,-⟩:=h;obtain ⟨ta,tcap,rfl,-⟩:=ht;go_enter Tryz.func29,Tryz.ntmps29
  go_wp2_with fail
  refine (M.out _ hS).mono ?_;rintro e w1 ⟨rfl,k1⟩;have oa1:=oa.below k1;have ot1:=ot.below k1;have oz1:=oz.below k1;have oy1:=oy.below k1;have kk1:=kB.trans (k1.mono kB.size);have hs1:w.heap.size+4≤w1.heap.size:=by have:=k1.size;simp at this;omega
  have tS1:=ht'.below kk1;clear oa ot oz oy kB k1 hS;have r1:=set_same;have r2:=set_off;have r3:=set_blk;have aO:=oa1;have aA:=aO.s7;clear aO;have tO:=ot1;have tA:=tO.s5;clear tO;have zO:=oz1;have zA:=zO.s7;clear zO;have yO:=oy1;have yA:=yO.s7;clear yO
  go_wp2_with fail
  refine (F.out _ tS1).mono ?_;rintro e w2 ⟨rfl,k2⟩;have oa2:=oa1.below k2;have ot2:=ot1.below k2;have oz2:=oz1.below k2;have oy2:=oy1.below k2;have kk2:=kk1.trans (k2.mono kk1.size);have hS2:=h'.below kk2;have hs2:w.heap.size+4≤w2.heap.size:=by have:=k2.size;omega
  clear aA tA zA yA;clear oa1 ot1 oz1 oy1 kk1 k2 tS1;have aO:=oa2;have aA:=aO.s7;clear aO;have tO:=ot2;have tA:=tO.s5;clear tO;have zO:=oz2;have zA:=zO.s7;clear zO;have yO:=oy2;have yA:=yO.s7;clear yO;go_wp2;exact bodyPost_ret (v:=T3 (.agg #[I 0,I 0,I 0,I 0,I 0,I 0,.slice none 0 0]) (.agg #[I 0,I 0,I 0,I 0,I 0,I 0,I 0]) (I E)) (by simp [results,Tryz.results29,go_sem, *];try omega) rfl (⟨_,rfl,Sl.nil _ _,below_autor,FarB.nil _ _ _⟩)
theorem Granted_roll (x1 x2 x3 x4 x5 x6 f b d al m E:Int) (v tv:Value) (xs:List ADebt) (ts:List AStep) (w:World) (h:Sl w v 2 xs.length (xs.flatMap ADebt.cells)) (ht:Sl w tv 2 ts.length (ts.flatMap AStep.cells))
    (M:Hid (∀ W,Sl W v 2 xs.length (xs.flatMap ADebt.cells)→Calls Tryz.prog 54 #[.agg #[I x1,I x2,I x3,I x4,I x5,I x6,v]] W (Grew (.bool true) W)))
    (F:Hid (∀ W,Sl W tv 2 ts.length (ts.flatMap AStep.cells)→Calls Tryz.prog 55 #[.agg #[tv,I f,I b,I d,I al]] W (Grew (I 0) W)))
    (R:Hid (∀ W,Sl W v 2 xs.length (xs.flatMap ADebt.cells)→Calls Tryz.prog 56 #[.agg #[I x1,I x2,I x3,I x4,I x5,I x6,v],I m] W (GrewAccF ⟨0,0,0,0,0,0⟩ [] E W))) (hE0:¬ E=0):
    Calls Tryz.prog 29 #[.agg #[I x1,I x2,I x3,I x4,I x5,I x6,v],.agg #[tv,I f,I b,I d,I al],I m] w (GrewAccBF ⟨0,0,0,0,0,0⟩ [] ⟨0,0,0,0,0,0,0⟩ E w):=by
  unfold GrewAccBF;(try unfold GrewAccF at *);simp only at *;obtain ⟨kB,oa,ot,oz,oy⟩:=boxes4 w [I x1,I x2,I x3,I x4,I x5,I x6,v] 64 [tv,I f,I b,I d,I al] 24 [I 0,I 0,I 0,I 0,I 0,I 0,.slice none 0 0] 64 [I 0,I 0,I 0,I 0,I 0,I 0,I 0] 39;have hS:=h.below kB;have h':=h;have ht':=ht;obtain ⟨a,cap,rfl,-⟩:=h;obtain ⟨ta,tcap,rfl,-⟩:=ht;go_enter Tryz.func29,Tryz.ntmps29
  go_wp2_with fail
  refine (M.out _ hS).mono ?_;rintro e w1 ⟨rfl,k1⟩;have oa1:=oa.below k1;have ot1:=ot.below k1;have oz1:=oz.below k1;have oy1:=oy.below k1;have kk1:=kB.trans (k1.mono kB.size);have hs1:w.heap.size+4≤w1.heap.size:=by have:=k1.size;simp at this;omega
  have tS1:=ht'.below kk1;clear oa ot oz oy kB k1 hS;have r1:=set_same;have r2:=set_off;have r3:=set_blk;have aO:=oa1;have aA:=aO.s7;clear aO;have tO:=ot1;have tA:=tO.s5;clear tO;have zO:=oz1;have zA:=zO.s7;clear zO;have yO:=oy1;have yA:=yO.s7;clear yO
  go_wp2_with fail
  refine (F.out _ tS1).mono ?_;rintro e w2 ⟨rfl,k2⟩;have oa2:=oa1.below k2;have ot2:=ot1.below k2;have oz2:=oz1.below k2;have oy2:=oy1.below k2;have kk2:=kk1.trans (k2.mono kk1.size);have hS2:=h'.below kk2;have hs2:w.heap.size+4≤w2.heap.size:=by have:=k2.size;omega
  clear aA tA zA yA;clear oa1 ot1 oz1 oy1 kk1 k2 tS1;have aO:=oa2;have aA:=aO.s7;clear aO;have tO:=ot2;have tA:=tO.s5;clear tO;have zO:=oz2;have zA:=zO.s7;clear zO;have yO:=oy2;have yA:=yO.s7;clear yO
  go_wp2_with fail
  refine (R.out _ hS2).mono ?_;rintro e w3 ⟨u,rfl,hSu,k3,hFu⟩;have hs3:w.heap.size+4≤w3.heap.size:=by have:=k3.size;omega
  have hSu':=hSu;obtain ⟨a',cap',rfl,-⟩:=hSu';have kA:=boxed_below w3 (.cells #[I 0,I 0,I 0,I 0,I 0,I 0,.slice a' 0 cap'] 64);have oa3:=(oa2.below k3).below kA;have ot3:=(ot2.below k3).below kA;have oz3:=(oz2.below k3).below kA;have oy3:=(oy2.below k3).below kA;have op3:=Own.new (w:=w3) rfl [I 0,I 0,I 0,I 0,I 0,I 0,.slice a' 0 cap'] 64;have kw3:=kk2.trans (k3.mono kk2.size);have kk3:=kw3.trans (kA.mono kw3.size);clear aA tA zA yA;clear oa2 ot2 oz2 oy2 kk2 k3 kw3 hS2;have aO:=oa3;have aA:=aO.s7;clear aO;have tO:=ot3;have tA:=tO.s5;clear tO;have zO:=oz3;have zA:=zO.s7;clear zO;have yO:=oy3;have yA:=yO.s7;clear yO;have pO:=op3;have pA:=pO.s7;clear pO;have hn0:¬ w.heap.size=w3.heap.size:=by omega
  have hn1:¬ w.heap.size+1=w3.heap.size:=by omega
  have hn2:¬ w.heap.size+2=w3.heap.size:=by omega
  have hn3:¬ w.heap.size+3=w3.heap.size:=by omega
  have hn4:¬ w3.heap.size=w.heap.size+2:=by omega
  have hn5:¬ w3.heap.size=w.heap.size+3:=by omega
  have hn6:¬ w3.heap.size=w.heap.size:=by omega
  have hn7:¬ w3.heap.size=w.heap.size+1:=by omega
  go_wp2;exact bodyPost_ret (v:=T3 (.agg #[I 0,I 0,I 0,I 0,I 0,I 0,.slice none 0 0]) (.agg #[I 0,I 0,I 0,I 0,I 0,I 0,I 0]) (I E)) (by simp [results,Tryz.results29,go_sem, *];try omega) rfl (⟨_,rfl,Sl.nil _ _,below_autor,FarB.nil _ _ _⟩)
end
section
open Go.RowKit

theorem Granted_22 (x1 x2 x3 x4 x5 x6 bo f b d m:Int) (v tv:Value) (xs ys:List ADebt) (ts:List AStep) (w:World) (h:Sl w v 2 xs.length (xs.flatMap ADebt.cells)) (ht:Sl w tv 2 ts.length (ts.flatMap AStep.cells))
    (M:Hid (∀ W,Sl W v 2 xs.length (xs.flatMap ADebt.cells)→Calls Tryz.prog 54 #[.agg #[I x1,I x2,I x3,I x4,I x5,I x6,v]] W (Grew (.bool true) W)))
    (F:Hid (∀ W,Sl W tv 2 ts.length (ts.flatMap AStep.cells)→Calls Tryz.prog 55 #[.agg #[tv,I f,I b,I d,I 0]] W (Grew (I 0) W)))
    (R:Hid (∀ W,Sl W v 2 xs.length (xs.flatMap ADebt.cells)→Calls Tryz.prog 56 #[.agg #[I x1,I x2,I x3,I x4,I x5,I x6,v],I m] W (GrewAccF ⟨x1,x2,x3,m,bo,x6⟩ ys 0 W))):
    Calls Tryz.prog 29 #[.agg #[I x1,I x2,I x3,I x4,I x5,I x6,v],.agg #[tv,I f,I b,I d,I 0],I m] w (GrewAccBF ⟨0,0,0,0,0,0⟩ [] ⟨0,0,0,0,0,0,0⟩ 22 w):=by
  unfold GrewAccBF;(try unfold GrewAccF at *);simp only at *;obtain ⟨kB,oa,ot,oz,oy⟩:=boxes4 w [I x1,I x2,I x3,I x4,I x5,I x6,v] 64 [tv,I f,I b,I d,I 0] 24 [I 0,I 0,I 0,I 0,I 0,I 0,.slice none 0 0] 64 [I 0,I 0,I 0,I 0,I 0,I 0,I 0] 39;have hS:=h.below kB;have h':=h;have ht':=ht;obtain ⟨a,cap,rfl,-⟩:=h;obtain ⟨ta,tcap,rfl,-⟩:=ht;go_enter Tryz.func29,Tryz.ntmps29
  go_wp2_with fail
  refine (M.out _ hS).mono ?_;rintro e w1 ⟨rfl,k1⟩;have oa1:=oa.below k1;have ot1:=ot.below k1;have oz1:=oz.below k1;have oy1:=oy.below k1;have kk1:=kB.trans (k1.mono kB.size);have hs1:w.heap.size+4≤w1.heap.size:=by have:=k1.size;simp at this;omega
  have tS1:=ht'.below kk1;clear oa ot oz oy kB k1 hS;have r1:=set_same;have r2:=set_off;have r3:=set_blk;have aO:=oa1;have aA:=aO.s7;clear aO;have tO:=ot1;have tA:=tO.s5;clear tO;have zO:=oz1;have zA:=zO.s7;clear zO;have yO:=oy1;have yA:=yO.s7;clear yO
  go_wp2_with fail
  refine (F.out _ tS1).mono ?_;rintro e w2 ⟨rfl,k2⟩;have oa2:=oa1.below k2;have ot2:=ot1.below k2;have oz2:=oz1.below k2;have oy2:=oy1.below k2;have kk2:=kk1.trans (k2.mono kk1.size);have hS2:=h'.below kk2;have hs2:w.heap.size+4≤w2.heap.size:=by have:=k2.size;omega
  clear aA tA zA yA;clear oa1 ot1 oz1 oy1 kk1 k2 tS1;have aO:=oa2;have aA:=aO.s7;clear aO;have tO:=ot2;have tA:=tO.s5;clear tO;have zO:=oz2;have zA:=zO.s7;clear zO;have yO:=oy2;have yA:=yO.s7;clear yO
  go_wp2_with fail
  refine (R.out _ hS2).mono ?_;rintro e w3 ⟨u,rfl,hSu,k3,hFu⟩;have hs3:w.heap.size+4≤w3.heap.size:=by have:=k3.size;omega
  have hSu':=hSu;obtain ⟨a',cap',rfl,-⟩:=hSu';have kA:=boxed_below w3 (.cells #[I x1,I x2,I x3,I m,I bo,I x6,.slice a' ys.length cap'] 64);have oa3:=(oa2.below k3).below kA;have ot3:=(ot2.below k3).below kA;have oz3:=(oz2.below k3).below kA;have oy3:=(oy2.below k3).below kA;have op3:=Own.new (w:=w3) rfl [I x1,I x2,I x3,I m,I bo,I x6,.slice a' ys.length cap'] 64;have kw3:=kk2.trans (k3.mono kk2.size);have kk3:=kw3.trans (kA.mono kw3.size);clear aA tA zA yA;clear oa2 ot2 oz2 oy2 kk2 k3 kw3 hS2;have aO:=oa3;have aA:=aO.s7;clear aO;have tO:=ot3;have tA:=tO.s5;clear tO;have zO:=oz3;have zA:=zO.s7;clear zO;have yO:=oy3;have yA:=yO.s7;clear yO;have pO:=op3;have pA:=pO.s7;clear pO;have hn0:¬ w.heap.size=w3.heap.size:=by omega
  have hn1:¬ w.heap.size+1=w3.heap.size:=by omega
  have hn2:¬ w.heap.size+2=w3.heap.size:=by omega
  have hn3:¬ w.heap.size+3=w3.heap.size:=by omega
  have hn4:¬ w3.heap.size=w.heap.size+2:=by omega
  have hn5:¬ w3.heap.size=w.heap.size+3:=by omega
  have hn6:¬ w3.heap.size=w.heap.size:=by omega
  have hn7:¬ w3.heap.size=w.heap.size+1:=by omega
  go_wp2;exact bodyPost_ret (v:=T3 (.agg #[I 0,I 0,I 0,I 0,I 0,I 0,.slice none 0 0]) (.agg #[I 0,I 0,I 0,I 0,I 0,I 0,I 0]) (I 22)) (by simp [results,Tryz.results29,go_sem, *];try omega) rfl (⟨_,rfl,Sl.nil _ _,below_autor,FarB.nil _ _ _⟩)
end
section
open Go.RowKit

theorem Granted_21 (x1 x2 x3 x4 x5 x6 bo f b d al:Int) (v tv:Value) (xs ys:List ADebt) (ts:List AStep) (w:World) (h:Sl w v 2 xs.length (xs.flatMap ADebt.cells)) (ht:Sl w tv 2 ts.length (ts.flatMap AStep.cells))
    (M:Hid (∀ W,Sl W v 2 xs.length (xs.flatMap ADebt.cells)→Calls Tryz.prog 54 #[.agg #[I x1,I x2,I x3,I x4,I x5,I x6,v]] W (Grew (.bool true) W)))
    (F:Hid (∀ W,Sl W tv 2 ts.length (ts.flatMap AStep.cells)→Calls Tryz.prog 55 #[.agg #[tv,I f,I b,I d,I al]] W (Grew (I 0) W)))
    (R:Hid (∀ W,Sl W v 2 xs.length (xs.flatMap ADebt.cells)→Calls Tryz.prog 56 #[.agg #[I x1,I x2,I x3,I x4,I x5,I x6,v],I x6] W (GrewAccF ⟨x1,x2,x3,x6,bo,x6⟩ ys 0 W))) (q1:¬ al=0):
    Calls Tryz.prog 29 #[.agg #[I x1,I x2,I x3,I x4,I x5,I x6,v],.agg #[tv,I f,I b,I d,I al],I x6] w (GrewAccBF ⟨0,0,0,0,0,0⟩ [] ⟨0,0,0,0,0,0,0⟩ 21 w):=by
  unfold GrewAccBF;(try unfold GrewAccF at *);simp only at *;obtain ⟨kB,oa,ot,oz,oy⟩:=boxes4 w [I x1,I x2,I x3,I x4,I x5,I x6,v] 64 [tv,I f,I b,I d,I al] 24 [I 0,I 0,I 0,I 0,I 0,I 0,.slice none 0 0] 64 [I 0,I 0,I 0,I 0,I 0,I 0,I 0] 39;have hS:=h.below kB;have h':=h;have ht':=ht;obtain ⟨a,cap,rfl,-⟩:=h;obtain ⟨ta,tcap,rfl,-⟩:=ht;go_enter Tryz.func29,Tryz.ntmps29
  go_wp2_with fail
  refine (M.out _ hS).mono ?_;rintro e w1 ⟨rfl,k1⟩;have oa1:=oa.below k1;have ot1:=ot.below k1;have oz1:=oz.below k1;have oy1:=oy.below k1;have kk1:=kB.trans (k1.mono kB.size);have hs1:w.heap.size+4≤w1.heap.size:=by have:=k1.size;simp at this;omega
  have tS1:=ht'.below kk1;clear oa ot oz oy kB k1 hS;have r1:=set_same;have r2:=set_off;have r3:=set_blk;have aO:=oa1;have aA:=aO.s7;clear aO;have tO:=ot1;have tA:=tO.s5;clear tO;have zO:=oz1;have zA:=zO.s7;clear zO;have yO:=oy1;have yA:=yO.s7;clear yO
  go_wp2_with fail
  refine (F.out _ tS1).mono ?_;rintro e w2 ⟨rfl,k2⟩;have oa2:=oa1.below k2;have ot2:=ot1.below k2;have oz2:=oz1.below k2;have oy2:=oy1.below k2;have kk2:=kk1.trans (k2.mono kk1.size);have hS2:=h'.below kk2;have hs2:w.heap.size+4≤w2.heap.size:=by have:=k2.size;omega
  clear aA tA zA yA;clear oa1 ot1 oz1 oy1 kk1 k2 tS1;have aO:=oa2;have aA:=aO.s7;clear aO;have tO:=ot2;have tA:=tO.s5;clear tO;have zO:=oz2;have zA:=zO.s7;clear zO;have yO:=oy2;have yA:=yO.s7;clear yO
  go_wp2_with fail
  refine (R.out _ hS2).mono ?_;rintro e w3 ⟨u,rfl,hSu,k3,hFu⟩;have hs3:w.heap.size+4≤w3.heap.size:=by have:=k3.size;omega
  have hSu':=hSu;obtain ⟨a',cap',rfl,-⟩:=hSu';have kA:=boxed_below w3 (.cells #[I x1,I x2,I x3,I x6,I bo,I x6,.slice a' ys.length cap'] 64);have oa3:=(oa2.below k3).below kA;have ot3:=(ot2.below k3).below kA;have oz3:=(oz2.below k3).below kA;have oy3:=(oy2.below k3).below kA;have op3:=Own.new (w:=w3) rfl [I x1,I x2,I x3,I x6,I bo,I x6,.slice a' ys.length cap'] 64;have kw3:=kk2.trans (k3.mono kk2.size);have kk3:=kw3.trans (kA.mono kw3.size);clear aA tA zA yA;clear oa2 ot2 oz2 oy2 kk2 k3 kw3 hS2;have aO:=oa3;have aA:=aO.s7;clear aO;have tO:=ot3;have tA:=tO.s5;clear tO;have zO:=oz3;have zA:=zO.s7;clear zO;have yO:=oy3;have yA:=yO.s7;clear yO;have pO:=op3;have pA:=pO.s7;clear pO;have hn0:¬ w.heap.size=w3.heap.size:=by omega
  have hn1:¬ w.heap.size+1=w3.heap.size:=by omega
  have hn2:¬ w.heap.size+2=w3.heap.size:=by omega
  have hn3:¬ w.heap.size+3=w3.heap.size:=by omega
  have hn4:¬ w3.heap.size=w.heap.size+2:=by omega
  have hn5:¬ w3.heap.size=w.heap.size+3:=by omega
  have hn6:¬ w3.heap.size=w.heap.size:=by omega
  have hn7:¬ w3.heap.size=w.heap.size+1:=by omega
  go_wp2;exact bodyPost_ret (v:=T3 (.agg #[I 0,I 0,I 0,I 0,I 0,I 0,.slice none 0 0]) (.agg #[I 0,I 0,I 0,I 0,I 0,I 0,I 0]) (I 21)) (by simp [results,Tryz.results29,go_sem, *];try omega) rfl (⟨_,rfl,Sl.nil _ _,below_autor,FarB.nil _ _ _⟩)
end
end Go.Proofs.YtdjgcenjonegjaaGreat
