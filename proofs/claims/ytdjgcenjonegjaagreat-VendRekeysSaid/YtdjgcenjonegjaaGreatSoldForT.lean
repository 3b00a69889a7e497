/- ref.SoldFor -/
import Derived.Test.YtdjgcenjonegjaaGreatPk10
import Derived.Test.YtdjgcenjonegjaaGreatPk18
import Derived.Test.YtdjgcenjonegjaaGreatPk13
import Derived.Test.YtdjgcenjonegjaaGreatSoldT
set_option maxRecDepth 20000
set_option maxHeartbeats 8000000
set_option linter.unusedSimpArgs false
set_option linter.unusedVariables false
namespace Go.Proofs.YtdjgcenjonegjaaGreat
open Go.RowKit

theorem SoldFor_may (x1 x2 x3 x4 x5 x6 f b d al t m:Int) (v tv:Value) (xs:List ADebt) (ts:List AStep) (w:World) (h:Sl w v 2 xs.length (xs.flatMap ADebt.cells)) (ht:Sl w tv 2 ts.length (ts.flatMap AStep.cells))
    (M:Hid (∀ W,Sl W v 2 xs.length (xs.flatMap ADebt.cells)→Calls Tryz.prog 54 #[.agg #[I x1,I x2,I x3,I x4,I x5,I x6,v]] W (Grew (.bool false) W))):
    Calls Tryz.prog 28 #[.agg #[I x1,I x2,I x3,I x4,I x5,I x6,v],.agg #[tv,I f,I b,I d,I al],I t,I m] w (GrewAccBF ⟨0,0,0,0,0,0⟩ [] ⟨0,0,0,0,0,0,0⟩ 5 w):=by
  unfold GrewAccBF;(try unfold GrewAccF at *);simp only at *;have F:=Lib.hid True.intro;obtain ⟨kB,oa,ot,oz,oy⟩:=boxes4 w [I x1,I x2,I x3,I x4,I x5,I x6,v] 64 [tv,I f,I b,I d,I al] 24 [I 0,I 0,I 0,I 0,I 0,I 0,.slice none 0 0] 64 [I 0,I 0,I 0,I 0,I 0,I 0,I 0] 39;have hS:=h.below kB;have h':=h;have ht':=ht;obtain ⟨a,cap,rfl,-⟩:=h;obtain ⟨ta,tcap,rfl,-⟩:=ht;go_enter Tryz.func28,Tryz.ntmps28
  go_wp2_with fail
  refine (M.out _ hS).mono ?_;rintro e w1 ⟨rfl,k1⟩;have oa1:=oa.below k1;have ot1:=ot.below k1;have oz1:=oz.below k1;have oy1:=oy.below k1;have kk1:=kB.trans (k1.mono kB.size);have hs1:w.heap.size+4≤w1.heap.size:=by have:=k1.size;simp at this;omega
  have tS1:=ht'.below kk1;clear oa ot oz oy kB k1 hS;have r1:=set_same;have r2:=set_off;have r3:=set_blk;have aO:=oa1;have aA:=aO.s7;clear aO;have tO:=ot1;have tA:=tO.s5;clear tO;have zO:=oz1;have zA:=zO.s7;clear zO;have yO:=oy1;have yA:=yO.s7;clear yO;go_wp2;exact bodyPost_ret (v:=T3 (.agg #[I 0,I 0,I 0,I 0,I 0,I 0,.slice none 0 0]) (.agg #[I 0,I 0,I 0,I 0,I 0,I 0,I 0]) (I 5)) (by simp [results,Tryz.results28,go_sem, *];try omega) rfl (⟨_,rfl,Sl.nil _ _,below_autor,FarB.nil _ _ _⟩)
theorem SoldFor_terms (x1 x2 x3 x4 x5 x6 f b d al t m E:Int) (v tv:Value) (xs:List ADebt) (ts:List AStep) (w:World) (h:Sl w v 2 xs.length (xs.flatMap ADebt.cells)) (ht:Sl w tv 2 ts.length (ts.flatMap AStep.cells))
    (M:Hid (∀ W,Sl W v 2 xs.length (xs.flatMap ADebt.cells)→Calls Tryz.prog 54 #[.agg #[I x1,I x2,I x3,I x4,I x5,I x6,v]] W (Grew (.bool true) W)))
    (F:Hid (∀ W,Sl W tv 2 ts.length (ts.flatMap AStep.cells)→Calls Tryz.prog 55 #[.agg #[tv,I f,I b,I d,I al]] W (Grew (I E) W))) (hE0:¬ E=0):
    Calls Tryz.prog 28 #[.agg #[I x1,I x2,I x3,I x4,I x5,I x6,v],.agg #[tv,I f,I b,I d,I al],I t,I m] w (GrewAccBF ⟨0,0,0,0,0,0⟩ [] ⟨0,0,0,0,0,0,0⟩ E w):=by
  unfold GrewAccBF;(try unfold GrewAccF at *);simp only at *;obtain ⟨kB,oa,ot,oz,oy⟩:=boxes4 w [I x1,I x2,I x3,I x4,I x5,I x6,v] 64 [tv,I f,I b,I d,I al] 24 [I 0,I 0,I 0,I 0,I 0,I 0,.slice none 0 0] 64 [I 0,I 0,I 0,I 0,I 0,I 0,I 0] 39;have hS:=h.below kB;have h':=h;have ht':=ht;obtain ⟨a,cap,rfl,-⟩:=h;obtain ⟨ta,tcap,rfl,-⟩:=ht;go_enter Tryz.func28,Tryz.ntmps28
  go_wp2_with fail
  refine (M.out _ hS).mono ?_;rintro e w1 ⟨rfl,k1⟩;have oa1:=oa.below k1;have ot1:=ot.below k1;have oz1:=oz.below k1;have oy1:=oy.below k1;have kk1:=kB.trans (k1.mono kB.size);have hs1:w.heap.size+4≤w1.heap.size:=by have:=k1.size;simp at this;omega
  have tS1:=ht'.below kk1;clear oa ot oz oy kB k1 hS;have r1:=set_same;have r2:=set_off;have r3:=set_blk;have aO:=oa1;have aA:=aO.s7;clear aO;have tO:=ot1;have tA:=tO.s5;clear tO;have zO:=oz1;have zA:=zO.s7;clear zO;have yO:=oy1;have yA:=yO.s7;clear yO
  go_wp2_with fail
  refine (F.out _ tS1).mono ?_;rintro e w2 ⟨rfl,k2⟩;have oa2:=oa1.below k2;have ot2:=ot1.below k2;have oz2:=oz1.below k2;have oy2:=oy1.below k2;have kk2:=kk1.trans (k2.mono kk1.size);have hS2:=h'.below kk2;have hs2:w.heap.size+4≤w2.heap.size:=by have:=k2.size;omega
  clear aA tA zA yA;clear oa1 ot1 oz1 oy1 kk1 k2 tS1;have aO:=oa2;have aA:=aO.s7;clear aO;have tO:=ot2;have tA:=tO.s5;clear tO;have zO:=oz2;have zA:=zO.s7;clear zO;have yO:=oy2;have yA:=yO.s7;clear yO;go_wp2;exact bodyPost_ret (v:=T3 (.agg #[I 0,I 0,I 0,I 0,I 0,I 0,.slice none 0 0]) (.agg #[I 0,I 0,I 0,I 0,I 0,I 0,I 0]) (I E)) (by simp [results,Tryz.results28,go_sem, *];try omega) rfl (⟨_,rfl,Sl.nil _ _,below_autor,FarB.nil _ _ _⟩)
theorem SoldFor_roll (x1 x2 x3 x4 x5 x6 f b d al t m E:Int) (v tv:Value) (xs:List ADebt) (ts:List AStep) (w:World) (h:Sl w v 2 xs.length (xs.flatMap ADebt.cells)) (ht:Sl w tv 2 ts.length (ts.flatMap AStep.cells))
    (M:Hid (∀ W,Sl W v 2 xs.length (xs.flatMap ADebt.cells)→Calls Tryz.prog 54 #[.agg #[I x1,I x2,I x3,I x4,I x5,I x6,v]] W (Grew (.bool true) W)))
    (F:Hid (∀ W,Sl W tv 2 ts.length (ts.flatMap AStep.cells)→Calls Tryz.prog 55 #[.agg #[tv,I f,I b,I d,I al]] W (Grew (I 0) W)))
    (R:Hid (∀ W,Sl W v 2 xs.length (xs.flatMap ADebt.cells)→Calls Tryz.prog 56 #[.agg #[I x1,I x2,I x3,I x4,I x5,I x6,v],I m] W (GrewAccF ⟨0,0,0,0,0,0⟩ [] E W))) (hE0:¬ E=0):
    Calls Tryz.prog 28 #[.agg #[I x1,I x2,I x3,I x4,I x5,I x6,v],.agg #[tv,I f,I b,I d,I al],I t,I m] w (GrewAccBF ⟨0,0,0,0,0,0⟩ [] ⟨0,0,0,0,0,0,0⟩ E w):=by
  unfold GrewAccBF;(try unfold GrewAccF at *);simp only at *;obtain ⟨kB,oa,ot,oz,oy⟩:=boxes4 w [I x1,I x2,I x3,I x4,I x5,I x6,v] 64 [tv,I f,I b,I d,I al] 24 [I 0,I 0,I 0,I 0,I 0,I 0,.slice none 0 0] 64 [I 0,I 0,I 0,I 0,I 0,I 0,I 0] 39;have hS:=h.below kB;have h':=h;have ht':=ht;obtain ⟨a,cap,rfl,-⟩:=h;obtain ⟨ta,tcap,rfl,-⟩:=ht;go_enter Tryz.func28,Tryz.ntmps28
  go_wp2_with fail
  refine (M.out _ hS).mono ?_;rintro e w1 ⟨rfl,k1⟩;have oa1:=oa.below k1;have ot1:=ot.below k1;have oz1:=oz.below k1;have oy1:=oy.below k1;have kk1:=kB.trans (k1.mono kB.size);have hs1:w.heap.size+4≤w1.heap.size:=by have:=k1.size;simp at this;omega
  have tS1:=ht'.below kk1;clear oa ot oz oy kB k1 hS;have r1:=set_same;have r2:=set_off;have r3:=set_blk;have aO:=oa1;have aA:=aO.s7;clear aO;have tO:=ot1;have tA:=tO.s5;clear tO;have zO:=oz1;have zA:=zO.s7;clear zO;have yO:=oy1;have yA:=yO.s7;clear yO
  go_wp2_with fail
  refine (F.out _ tS1).mono ?_;rintro e w2 ⟨rfl,k2⟩;have oa2:=oa1.below k2;have ot2:=ot1.below k2;have oz2:=oz1.below k2;have oy2:=oy1.below k2;have kk2:=kk1.trans (k2.mono kk1.size);have hS2:=h'.below kk2;have hs2:w.heap.size+4≤w2.heap.size:=by have:=k2.size;omega
  clear aA tA zA yA;clear oa1 ot1 oz1 oy1 kk1 k2 tS1;have aO:=oa2;have aA:=aO.s7;clear aO;have tO:=ot2;have tA:=tO.s5;clear tO;have zO:=oz2;have zA:=zO.s7;clear zO;have yO:=oy2;have yA:=yO.s7;clear yO
  go_wp2_with fail
  refine (R.out _ hS2).mono ?_;rintro e w3 ⟨u,rfl,hSu,k3,hFu⟩;have hs3:w.heap.size+4≤w3.heap.size:=by have:=k3.size;omega
  have hSu':=hSu;obtain ⟨a',cap',rfl,-⟩:=hSu';have kA:=boxed_below w3 (.cells #[I 0,I 0,I 0,I 0,I 0,I 0,.slice a' 0 cap'] 64);have oa3:=(oa2.below k3).below kA;have ot3:=(ot2.below k3).below kA;have oz3:=(oz2.below k3).below kA;have oy3:=(oy2.below k3).below kA;have op3:=Own.new (w:=w3) rfl [I 0,I 0,I 0,I 0,I 0,I 0,.slice a' 0 cap'] 64;have kw3:=kk2.trans (k3.mono kk2.size);have kk3:=kw3.trans (kA.mono kw3.size);clear aA tA zA yA;clear oa2 ot2 oz2 oy2 kk2 k3 kw3 hS2;have aO:=oa3;have aA:=aO.s7;clear aO;have tO:=ot3;have tA:=tO.s5;clear tO;have zO:=oz3;have zA:=zO.s7;clear zO;have yO:=oy3;have yA:=yO.s7;clear yO;have ppO:=op3;have ppA:=ppO.s7;clear ppO;have hn0:¬ w.heap.size=w3.heap.size:=by omega
  have hn1:¬ w.heap.size+1=w3.heap.size:=by omega
  have hn2:¬ w.heap.size+2=w3.heap.size:=by omega
  have hn3:¬ w.heap.size+3=w3.heap.size:=by omega
  have hn4:¬ w3.heap.size=w.heap.size+2:=by omega
  have hn5:¬ w3.heap.size=w.heap.size+3:=by omega
  have hn6:¬ w3.heap.size=w.heap.size:=by omega
  have hn7:¬ w3.heap.size=w.heap.size+1:=by omega
  go_wp2;exact bodyPost_ret (v:=T3 (.agg #[I 0,I 0,I 0,I 0,I 0,I 0,.slice none 0 0]) (.agg #[I 0,I 0,I 0,I 0,I 0,I 0,I 0]) (I E)) (by simp [results,Tryz.results28,go_sem, *];try omega) rfl (⟨_,rfl,Sl.nil _ _,below_autor,FarB.nil _ _ _⟩)
theorem SoldFor_tender (x1 x2 x3 x4 x5 x6 bo f b d al t m:Int) (v tv:Value) (xs ys:List ADebt) (ts:List AStep) (w:World) (h:Sl w v 2 xs.length (xs.flatMap ADebt.cells)) (ht:Sl w tv 2 ts.length (ts.flatMap AStep.cells))
    (M:Hid (∀ W,Sl W v 2 xs.length (xs.flatMap ADebt.cells)→Calls Tryz.prog 54 #[.agg #[I x1,I x2,I x3,I x4,I x5,I x6,v]] W (Grew (.bool true) W)))
    (F:Hid (∀ W,Sl W tv 2 ts.length (ts.flatMap AStep.cells)→Calls Tryz.prog 55 #[.agg #[tv,I f,I b,I d,I al]] W (Grew (I 0) W)))
    (R:Hid (∀ W,Sl W v 2 xs.length (xs.flatMap ADebt.cells)→Calls Tryz.prog 56 #[.agg #[I x1,I x2,I x3,I x4,I x5,I x6,v],I m] W (GrewAccF ⟨x1,x2,x3,m,bo,x6⟩ ys 0 W))) (hi:inB t 1 100000000=false):
    Calls Tryz.prog 28 #[.agg #[I x1,I x2,I x3,I x4,I x5,I x6,v],.agg #[tv,I f,I b,I d,I al],I t,I m] w (GrewAccBF ⟨0,0,0,0,0,0⟩ [] ⟨0,0,0,0,0,0,0⟩ 19 w):=by
  unfold GrewAccBF;(try unfold GrewAccF at *);simp only at *;obtain ⟨kB,oa,ot,oz,oy⟩:=boxes4 w [I x1,I x2,I x3,I x4,I x5,I x6,v] 64 [tv,I f,I b,I d,I al] 24 [I 0,I 0,I 0,I 0,I 0,I 0,.slice none 0 0] 64 [I 0,I 0,I 0,I 0,I 0,I 0,I 0] 39;have hS:=h.below kB;have h':=h;have ht':=ht;obtain ⟨a,cap,rfl,-⟩:=h;obtain ⟨ta,tcap,rfl,-⟩:=ht;go_enter Tryz.func28,Tryz.ntmps28
  go_wp2_with fail
  refine (M.out _ hS).mono ?_;rintro e w1 ⟨rfl,k1⟩;have oa1:=oa.below k1;have ot1:=ot.below k1;have oz1:=oz.below k1;have oy1:=oy.below k1;have kk1:=kB.trans (k1.mono kB.size);have hs1:w.heap.size+4≤w1.heap.size:=by have:=k1.size;simp at this;omega
  have tS1:=ht'.below kk1;clear oa ot oz oy kB k1 hS;have r1:=set_same;have r2:=set_off;have r3:=set_blk;have aO:=oa1;have aA:=aO.s7;clear aO;have tO:=ot1;have tA:=tO.s5;clear tO;have zO:=oz1;have zA:=zO.s7;clear zO;have yO:=oy1;have yA:=yO.s7;clear yO
  go_wp2_with fail
  refine (F.out _ tS1).mono ?_;rintro e w2 ⟨rfl,k2⟩;have oa2:=oa1.below k2;have ot2:=ot1.below k2;have oz2:=oz1.below k2;have oy2:=oy1.below k2;have kk2:=kk1.trans (k2.mono kk1.size);have hS2:=h'.below kk2;have hs2:w.heap.size+4≤w2.heap.size:=by have:=k2.size;omega
  clear aA tA zA yA;clear oa1 ot1 oz1 oy1 kk1 k2 tS1;have aO:=oa2;have aA:=aO.s7;clear aO;have tO:=ot2;have tA:=tO.s5;clear tO;have zO:=oz2;have zA:=zO.s7;clear zO;have yO:=oy2;have yA:=yO.s7;clear yO
  go_wp2_with fail
  refine (R.out _ hS2).mono ?_;rintro e w3 ⟨u,rfl,hSu,k3,hFu⟩;have hs3:w.heap.size+4≤w3.heap.size:=by have:=k3.size;omega
  have hSu':=hSu;obtain ⟨a',cap',rfl,-⟩:=hSu';have kA:=boxed_below w3 (.cells #[I x1,I x2,I x3,I m,I bo,I x6,.slice a' ys.length cap'] 64);have oa3:=(oa2.below k3).below kA;have ot3:=(ot2.below k3).below kA;have oz3:=(oz2.below k3).below kA;have oy3:=(oy2.below k3).below kA;have op3:=Own.new (w:=w3) rfl [I x1,I x2,I x3,I m,I bo,I x6,.slice a' ys.length cap'] 64;have kw3:=kk2.trans (k3.mono kk2.size);have kk3:=kw3.trans (kA.mono kw3.size);clear aA tA zA yA;clear oa2 ot2 oz2 oy2 kk2 k3 kw3 hS2;have aO:=oa3;have aA:=aO.s7;clear aO;have tO:=ot3;have tA:=tO.s5;clear tO;have zO:=oz3;have zA:=zO.s7;clear zO;have yO:=oy3;have yA:=yO.s7;clear yO;have ppO:=op3;have ppA:=ppO.s7;clear ppO;have hn0:¬ w.heap.size=w3.heap.size:=by omega
  have hn1:¬ w.heap.size+1=w3.heap.size:=by omega
  have hn2:¬ w.heap.size+2=w3.heap.size:=by omega
  have hn3:¬ w.heap.size+3=w3.heap.size:=by omega
  have hn4:¬ w3.heap.size=w.heap.size+2:=by omega
  have hn5:¬ w3.heap.size=w.heap.size+3:=by omega
  have hn6:¬ w3.heap.size=w.heap.size:=by omega
  have hn7:¬ w3.heap.size=w.heap.size+1:=by omega
  go_wp2_with (go_at_call 57;refine (In_any _ _ _ _).mono ?_;rintro e w' ⟨rfl,rfl⟩)
  exact bodyPost_ret (v:=T3 (.agg #[I 0,I 0,I 0,I 0,I 0,I 0,.slice none 0 0]) (.agg #[I 0,I 0,I 0,I 0,I 0,I 0,I 0]) (I 19)) (by simp [results,Tryz.results28,go_sem, *];try omega) rfl (⟨_,rfl,Sl.nil _ _,below_autor,FarB.nil _ _ _⟩)


theorem SoldFor_neg (x1 x2 x3 x4 x5 x6 bo f b d al t m p k0 q qe:Int) (v tv:Value) (xs ys zs:List ADebt) (ts:List AStep) (w:World) (h:Sl w v 2 xs.length (xs.flatMap ADebt.cells)) (ht:Sl w tv 2 ts.length (ts.flatMap AStep.cells))
    (M:Hid (∀ W,Sl W v 2 xs.length (xs.flatMap ADebt.cells)→Calls Tryz.prog 54 #[.agg #[I x1,I x2,I x3,I x4,I x5,I x6,v]] W (Grew (.bool true) W)))
    (F:Hid (∀ W,Sl W tv 2 ts.length (ts.flatMap AStep.cells)→Calls Tryz.prog 55 #[.agg #[tv,I f,I b,I d,I al]] W (Grew (I 0) W)))
    (R:Hid (∀ W,Sl W v 2 xs.length (xs.flatMap ADebt.cells)→Calls Tryz.prog 56 #[.agg #[I x1,I x2,I x3,I x4,I x5,I x6,v],I m] W (GrewAccF ⟨x1,x2,x3,m,bo,x6⟩ ys 0 W)))
    (V:Hid (∀ u W,Sl W u 2 ys.length (ys.flatMap ADebt.cells)→Calls Tryz.prog 58 #[u,I t,I d] W (GrewSl3 2 zs.length (zs.flatMap ADebt.cells) p k0 W)))
    (C:Hid (∀ W,Calls Tryz.prog 59 #[I t,I b] W (Pure (T2 (I q) (I qe)) W)))
    (p0:0≤p) (p1:p≤1000000000000) (q0:0≤q) (q1:q≤1000000000000) (f0:0≤f) (f1:f≤100000) (hi:inB t 1 100000000=true) (hr:t-p-(f+q) < 0):
    Calls Tryz.prog 28 #[.agg #[I x1,I x2,I x3,I x4,I x5,I x6,v],.agg #[tv,I f,I b,I d,I al],I t,I m] w (GrewAccBF ⟨0,0,0,0,0,0⟩ [] ⟨0,0,0,0,0,0,0⟩ 19 w):=by
  unfold GrewAccBF;(try unfold GrewAccF at *);simp only at *;obtain ⟨t0,t1⟩:=inB_true.1 hi;have e1:IntKind.i64.wrap (f+q)=f+q:=wrap_small _ (by omega) (by omega);have e2:IntKind.i64.wrap (t-p)=t-p:=wrap_mid _ (by omega) (by omega);have e3:IntKind.i64.wrap (t-p-(f+q))=t-p-(f+q):=wrap_mid _ (by omega) (by omega);obtain ⟨kB,oa,ot,oz,oy⟩:=boxes4 w [I x1,I x2,I x3,I x4,I x5,I x6,v] 64 [tv,I f,I b,I d,I al] 24 [I 0,I 0,I 0,I 0,I 0,I 0,.slice none 0 0] 64 [I 0,I 0,I 0,I 0,I 0,I 0,I 0] 39;have hS:=h.below kB;have h':=h;have ht':=ht;obtain ⟨a,cap,rfl,-⟩:=h;obtain ⟨ta,tcap,rfl,-⟩:=ht;go_enter Tryz.func28,Tryz.ntmps28
  go_wp2_with fail
  refine (M.out _ hS).mono ?_;rintro e w1 ⟨rfl,k1⟩;have oa1:=oa.below k1;have ot1:=ot.below k1;have oz1:=oz.below k1;have oy1:=oy.below k1;have kk1:=kB.trans (k1.mono kB.size);have hs1:w.heap.size+4≤w1.heap.size:=by have:=k1.size;simp at this;omega
  have tS1:=ht'.below kk1;clear oa ot oz oy kB k1 hS;have r1:=set_same;have r2:=set_off;have r3:=set_blk;have aO:=oa1;have aA:=aO.s7;clear aO;have tO:=ot1;have tA:=tO.s5;clear tO;have zO:=oz1;have zA:=zO.s7;clear zO;have yO:=oy1;have yA:=yO.s7;clear yO
  go_wp2_with fail
  refine (F.out _ tS1).mono ?_;rintro e w2 ⟨rfl,k2⟩;have oa2:=oa1.below k2;have ot2:=ot1.below k2;have oz2:=oz1.below k2;have oy2:=oy1.below k2;have kk2:=kk1.trans (k2.mono kk1.size);have hS2:=h'.below kk2;have hs2:w.heap.size+4≤w2.heap.size:=by have:=k2.size;omega
  clear aA tA zA yA;clear oa1 ot1 oz1 oy1 kk1 k2 tS1;have aO:=oa2;have aA:=aO.s7;clear aO;have tO:=ot2;have tA:=tO.s5;clear tO;have zO:=oz2;have zA:=zO.s7;clear zO;have yO:=oy2;have yA:=yO.s7;clear yO
  go_wp2_with fail
  refine (R.out _ hS2).mono ?_;rintro e w3 ⟨u,rfl,hSu,k3,hFu⟩;have hs3:w.heap.size+4≤w3.heap.size:=by have:=k3.size;omega
  have hSu':=hSu;obtain ⟨a',cap',rfl,-⟩:=hSu';have kA:=boxed_below w3 (.cells #[I x1,I x2,I x3,I m,I bo,I x6,.slice a' ys.length cap'] 64);have oa3:=(oa2.below k3).below kA;have ot3:=(ot2.below k3).below kA;have oz3:=(oz2.below k3).below kA;have oy3:=(oy2.below k3).below kA;have op3:=Own.new (w:=w3) rfl [I x1,I x2,I x3,I m,I bo,I x6,.slice a' ys.length cap'] 64;have kw3:=kk2.trans (k3.mono kk2.size);have kk3:=kw3.trans (kA.mono kw3.size);clear aA tA zA yA;clear oa2 ot2 oz2 oy2 kk2 k3 kw3 hS2;have aO:=oa3;have aA:=aO.s7;clear aO;have tO:=ot3;have tA:=tO.s5;clear tO;have zO:=oz3;have zA:=zO.s7;clear zO;have yO:=oy3;have yA:=yO.s7;clear yO;have ppO:=op3;have ppA:=ppO.s7;clear ppO;have hn0:¬ w.heap.size=w3.heap.size:=by omega
  have hn1:¬ w.heap.size+1=w3.heap.size:=by omega
  have hn2:¬ w.heap.size+2=w3.heap.size:=by omega
  have hn3:¬ w.heap.size+3=w3.heap.size:=by omega
  have hn4:¬ w3.heap.size=w.heap.size+2:=by omega
  have hn5:¬ w3.heap.size=w.heap.size+3:=by omega
  have hn6:¬ w3.heap.size=w.heap.size:=by omega
  have hn7:¬ w3.heap.size=w.heap.size+1:=by omega
  have hSA:=hSu.below (boxed_below w3 (.cells #[I x1,I x2,I x3,I m,I bo,I x6,.slice a' ys.length cap'] 64));have tSA:=ht'.below kk3;clear hSu
  go_wp2_with (go_at_call 57;refine (In_any _ _ _ _).mono ?_;rintro e w' ⟨rfl,rfl⟩)
  refine (V.out _ _ hSA).mono ?_;rintro e w4 ⟨v',rfl,hv,k4,hFv⟩;have hw34:w3.heap.size+1≤w4.heap.size:=by have:=k4.size;simp at this;omega
  have oa4:=oa3.below k4;have ot4:=ot3.below k4;have oz4:=oz3.below k4;have oy4:=oy3.below k4;have op4:=op3.below k4;have kk4:=kk3.trans (k4.mono kk3.size);have tS4:=tSA.below k4;have hFp:Far w3.heap.size v':=hFv.far (by simp);have hFz:Far (w.heap.size+2) v':=hFv.far (by simp;omega);have hFy:Far (w.heap.size+3) v':=hFv.far (by simp;omega);obtain ⟨va,vc,rfl,-⟩:=id hv;clear aA tA zA yA;clear ppA oa3 ot3 oz3 oy3 op3 kk3 k4 hFv tSA hSA V R hFu;have aO:=oa4;have aA:=aO.s7;clear aO;have tO:=ot4;have tA:=tO.s5;clear tO;have zO:=oz4;have zA:=zO.s7;clear zO;have yO:=oy4;have yA:=yO.s7;clear yO;have ppO:=op4;have ppA:=ppO.s7;clear ppO
  go_wp2_with (go_at_call 59;refine (C.out _).mono ?_;rintro e w' ⟨rfl,rfl⟩)
  exact bodyPost_ret (v:=T3 (.agg #[I 0,I 0,I 0,I 0,I 0,I 0,.slice none 0 0]) (.agg #[I 0,I 0,I 0,I 0,I 0,I 0,I 0]) (I 19)) (by simp [results,Tryz.results28,go_sem, *];try omega) rfl (⟨_,rfl,Sl.nil _ _,below_autor,FarB.nil _ _ _⟩)
theorem SoldFor_zero (x1 x2 x3 x4 x5 x6 bo f b d al t m p k0 q qe Pc me:Int) (v tv:Value) (xs ys zs:List ADebt) (ts:List AStep) (w:World) (h:Sl w v 2 xs.length (xs.flatMap ADebt.cells)) (ht:Sl w tv 2 ts.length (ts.flatMap AStep.cells))
    (M:Hid (∀ W,Sl W v 2 xs.length (xs.flatMap ADebt.cells)→Calls Tryz.prog 54 #[.agg #[I x1,I x2,I x3,I x4,I x5,I x6,v]] W (Grew (.bool true) W)))
    (F:Hid (∀ W,Sl W tv 2 ts.length (ts.flatMap AStep.cells)→Calls Tryz.prog 55 #[.agg #[tv,I f,I b,I d,I al]] W (Grew (I 0) W)))
    (R:Hid (∀ W,Sl W v 2 xs.length (xs.flatMap ADebt.cells)→Calls Tryz.prog 56 #[.agg #[I x1,I x2,I x3,I x4,I x5,I x6,v],I m] W (GrewAccF ⟨x1,x2,x3,m,bo,x6⟩ ys 0 W)))
    (V:Hid (∀ u W,Sl W u 2 ys.length (ys.flatMap ADebt.cells)→Calls Tryz.prog 58 #[u,I t,I d] W (GrewSl3 2 zs.length (zs.flatMap ADebt.cells) p k0 W)))
    (C:Hid (∀ W,Calls Tryz.prog 59 #[I t,I b] W (Pure (T2 (I q) (I qe)) W)))
    (N:Hid (∀ W,Sl W tv 2 ts.length (ts.flatMap AStep.cells)→Calls Tryz.prog 60 #[tv,I bo,I (t-p-(f+q))] W (Grew (T3 (I 0) (I Pc) (I me)) W)))
    (p0:0≤p) (p1:p≤1000000000000) (q0:0≤q) (q1:q≤1000000000000) (f0:0≤f) (f1:f≤100000) (hi:inB t 1 100000000=true) (hr:0≤t-p-(f+q)):
    Calls Tryz.prog 28 #[.agg #[I x1,I x2,I x3,I x4,I x5,I x6,v],.agg #[tv,I f,I b,I d,I al],I t,I m] w (GrewAccBF ⟨0,0,0,0,0,0⟩ [] ⟨0,0,0,0,0,0,0⟩ 19 w):=by
  unfold GrewAccBF;(try unfold GrewAccF at *);simp only at *;obtain ⟨t0,t1⟩:=inB_true.1 hi;have e1:IntKind.i64.wrap (f+q)=f+q:=wrap_small _ (by omega) (by omega);have e2:IntKind.i64.wrap (t-p)=t-p:=wrap_mid _ (by omega) (by omega);have e3:IntKind.i64.wrap (t-p-(f+q))=t-p-(f+q):=wrap_mid _ (by omega) (by omega);have hlt:¬ t-p-(f+q) < 0:=by omega
  obtain ⟨kB,oa,ot,oz,oy⟩:=boxes4 w [I x1,I x2,I x3,I x4,I x5,I x6,v] 64 [tv,I f,I b,I d,I al] 24 [I 0,I 0,I 0,I 0,I 0,I 0,.slice none 0 0] 64 [I 0,I 0,I 0,I 0,I 0,I 0,I 0] 39;have hS:=h.below kB;have h':=h;have ht':=ht;obtain ⟨a,cap,rfl,-⟩:=h;obtain ⟨ta,tcap,rfl,-⟩:=ht;go_enter Tryz.func28,Tryz.ntmps28
  go_wp2_with fail
  refine (M.out _ hS).mono ?_;rintro e w1 ⟨rfl,k1⟩;have oa1:=oa.below k1;have ot1:=ot.below k1;have oz1:=oz.below k1;have oy1:=oy.below k1;have kk1:=kB.trans (k1.mono kB.size);have hs1:w.heap.size+4≤w1.heap.size:=by have:=k1.size;simp at this;omega
  have tS1:=ht'.below kk1;clear oa ot oz oy kB k1 hS;have r1:=set_same;have r2:=set_off;have r3:=set_blk;have aO:=oa1;have aA:=aO.s7;clear aO;have tO:=ot1;have tA:=tO.s5;clear tO;have zO:=oz1;have zA:=zO.s7;clear zO;have yO:=oy1;have yA:=yO.s7;clear yO
  go_wp2_with fail
  refine (F.out _ tS1).mono ?_;rintro e w2 ⟨rfl,k2⟩;have oa2:=oa1.below k2;have ot2:=ot1.below k2;have oz2:=oz1.below k2;have oy2:=oy1.below k2;have kk2:=kk1.trans (k2.mono kk1.size);have hS2:=h'.below kk2;have hs2:w.heap.size+4≤w2.heap.size:=by have:=k2.size;omega
  clear aA tA zA yA;clear oa1 ot1 oz1 oy1 kk1 k2 tS1;have aO:=oa2;have aA:=aO.s7;clear aO;have tO:=ot2;have tA:=tO.s5;clear tO;have zO:=oz2;have zA:=zO.s7;clear zO;have yO:=oy2;have yA:=yO.s7;clear yO
  go_wp2_with fail
  refine (R.out _ hS2).mono ?_;rintro e w3 ⟨u,rfl,hSu,k3,hFu⟩;have hs3:w.heap.size+4≤w3.heap.size:=by have:=k3.size;omega
  have hSu':=hSu;obtain ⟨a',cap',rfl,-⟩:=hSu';have kA:=boxed_below w3 (.cells #[I x1,I x2,I x3,I m,I bo,I x6,.slice a' ys.length cap'] 64);have oa3:=(oa2.below k3).below kA;have ot3:=(ot2.below k3).below kA;have oz3:=(oz2.below k3).below kA;have oy3:=(oy2.below k3).below kA;have op3:=Own.new (w:=w3) rfl [I x1,I x2,I x3,I m,I bo,I x6,.slice a' ys.length cap'] 64;have kw3:=kk2.trans (k3.mono kk2.size);have kk3:=kw3.trans (kA.mono kw3.size);clear aA tA zA yA;clear oa2 ot2 oz2 oy2 kk2 k3 kw3 hS2;have aO:=oa3;have aA:=aO.s7;clear aO;have tO:=ot3;have tA:=tO.s5;clear tO;have zO:=oz3;have zA:=zO.s7;clear zO;have yO:=oy3;have yA:=yO.s7;clear yO;have ppO:=op3;have ppA:=ppO.s7;clear ppO;have hn0:¬ w.heap.size=w3.heap.size:=by omega
  have hn1:¬ w.heap.size+1=w3.heap.size:=by omega
  have hn2:¬ w.heap.size+2=w3.heap.size:=by omega
  have hn3:¬ w.heap.size+3=w3.heap.size:=by omega
  have hn4:¬ w3.heap.size=w.heap.size+2:=by omega
  have hn5:¬ w3.heap.size=w.heap.size+3:=by omega
  have hn6:¬ w3.heap.size=w.heap.size:=by omega
  have hn7:¬ w3.heap.size=w.heap.size+1:=by omega
  have hSA:=hSu.below (boxed_below w3 (.cells #[I x1,I x2,I x3,I m,I bo,I x6,.slice a' ys.length cap'] 64));have tSA:=ht'.below kk3;clear hSu
  go_wp2_with (go_at_call 57;refine (In_any _ _ _ _).mono ?_;rintro e w' ⟨rfl,rfl⟩)
  refine (V.out _ _ hSA).mono ?_;rintro e w4 ⟨v',rfl,hv,k4,hFv⟩;have hw34:w3.heap.size+1≤w4.heap.size:=by have:=k4.size;simp at this;omega
  have oa4:=oa3.below k4;have ot4:=ot3.below k4;have oz4:=oz3.below k4;have oy4:=oy3.below k4;have op4:=op3.below k4;have kk4:=kk3.trans (k4.mono kk3.size);have tS4:=tSA.below k4;have hFp:Far w3.heap.size v':=hFv.far (by simp);have hFz:Far (w.heap.size+2) v':=hFv.far (by simp;omega);have hFy:Far (w.heap.size+3) v':=hFv.far (by simp;omega);obtain ⟨va,vc,rfl,-⟩:=id hv;clear aA tA zA yA;clear ppA oa3 ot3 oz3 oy3 op3 kk3 k4 hFv tSA hSA V R hFu;have aO:=oa4;have aA:=aO.s7;clear aO;have tO:=ot4;have tA:=tO.s5;clear tO;have zO:=oz4;have zA:=zO.s7;clear zO;have yO:=oy4;have yA:=yO.s7;clear yO;have ppO:=op4;have ppA:=ppO.s7;clear ppO
  go_wp2_with (first | (go_at_call 57;refine (In_any _ _ _ _).mono ?_;rintro e w' ⟨rfl,rfl⟩) | (go_at_call 59;refine (C.out _).mono ?_;rintro e w' ⟨rfl,rfl⟩))
  refine (N.out _ tS4).mono ?_;rintro e w5 ⟨rfl,k5⟩;have oa5:=oa4.below k5;have ot5:=ot4.below k5;have oz5:=oz4.below k5;have oy5:=oy4.below k5;have op5:=op4.below k5;have kk5:=kk4.trans (k5.mono kk4.size);have hv5:=hv.below k5;have hw45:w4.heap.size≤w5.heap.size:=k5.size;clear aA tA zA yA;clear ppA oa4 ot4 oz4 oy4 op4 kk4 k5 tS4 hv;have aO:=oa5;have aA:=aO.s7;clear aO;have tO:=ot5;have tA:=tO.s5;clear tO;have zO:=oz5;have zA:=zO.s7;clear zO;have yO:=oy5;have yA:=yO.s7;clear yO;have ppO:=op5;have ppA:=ppO.s7;clear ppO;go_wp2;exact bodyPost_ret (v:=T3 (.agg #[I 0,I 0,I 0,I 0,I 0,I 0,.slice none 0 0]) (.agg #[I 0,I 0,I 0,I 0,I 0,I 0,I 0]) (I 19)) (by simp [results,Tryz.results28,go_sem, *];try omega) rfl (⟨_,rfl,Sl.nil _ _,below_autor,FarB.nil _ _ _⟩)
theorem SoldFor_spent (x1 x2 x3 x4 x5 x6 bo f b d al t m p k0 q qe U Pc me:Int) (v tv:Value) (xs ys zs:List ADebt) (ts:List AStep) (w:World) (h:Sl w v 2 xs.length (xs.flatMap ADebt.cells)) (ht:Sl w tv 2 ts.length (ts.flatMap AStep.cells))
    (M:Hid (∀ W,Sl W v 2 xs.length (xs.flatMap ADebt.cells)→Calls Tryz.prog 54 #[.agg #[I x1,I x2,I x3,I x4,I x5,I x6,v]] W (Grew (.bool true) W)))
    (F:Hid (∀ W,Sl W tv 2 ts.length (ts.flatMap AStep.cells)→Calls Tryz.prog 55 #[.agg #[tv,I f,I b,I d,I al]] W (Grew (I 0) W)))
    (R:Hid (∀ W,Sl W v 2 xs.length (xs.flatMap ADebt.cells)→Calls Tryz.prog 56 #[.agg #[I x1,I x2,I x3,I x4,I x5,I x6,v],I m] W (GrewAccF ⟨x1,x2,x3,m,bo,x6⟩ ys 0 W)))
    (V:Hid (∀ u W,Sl W u 2 ys.length (ys.flatMap ADebt.cells)→Calls Tryz.prog 58 #[u,I t,I d] W (GrewSl3 2 zs.length (zs.flatMap ADebt.cells) p k0 W)))
    (C:Hid (∀ W,Calls Tryz.prog 59 #[I t,I b] W (Pure (T2 (I q) (I qe)) W)))
    (N:Hid (∀ W,Sl W tv 2 ts.length (ts.flatMap AStep.cells)→Calls Tryz.prog 60 #[tv,I bo,I (t-p-(f+q))] W (Grew (T3 (I U) (I Pc) (I me)) W)))
    (p0:0≤p) (p1:p≤1000000000000) (q0:0≤q) (q1:q≤1000000000000) (f0:0≤f) (f1:f≤100000) (hi:inB t 1 100000000=true) (hr:0≤t-p-(f+q)) (hU:¬ U=0) (hn:1048575 < x3):
    Calls Tryz.prog 28 #[.agg #[I x1,I x2,I x3,I x4,I x5,I x6,v],.agg #[tv,I f,I b,I d,I al],I t,I m] w (GrewAccBF ⟨0,0,0,0,0,0⟩ [] ⟨0,0,0,0,0,0,0⟩ 20 w):=by
  unfold GrewAccBF;(try unfold GrewAccF at *);simp only at *;obtain ⟨t0,t1⟩:=inB_true.1 hi;have e1:IntKind.i64.wrap (f+q)=f+q:=wrap_small _ (by omega) (by omega);have e2:IntKind.i64.wrap (t-p)=t-p:=wrap_mid _ (by omega) (by omega);have e3:IntKind.i64.wrap (t-p-(f+q))=t-p-(f+q):=wrap_mid _ (by omega) (by omega);have hlt:¬ t-p-(f+q) < 0:=by omega
  obtain ⟨kB,oa,ot,oz,oy⟩:=boxes4 w [I x1,I x2,I x3,I x4,I x5,I x6,v] 64 [tv,I f,I b,I d,I al] 24 [I 0,I 0,I 0,I 0,I 0,I 0,.slice none 0 0] 64 [I 0,I 0,I 0,I 0,I 0,I 0,I 0] 39;have hS:=h.below kB;have h':=h;have ht':=ht;obtain ⟨a,cap,rfl,-⟩:=h;obtain ⟨ta,tcap,rfl,-⟩:=ht;go_enter Tryz.func28,Tryz.ntmps28
  go_wp2_with fail
  refine (M.out _ hS).mono ?_;rintro e w1 ⟨rfl,k1⟩;have oa1:=oa.below k1;have ot1:=ot.below k1;have oz1:=oz.below k1;have oy1:=oy.below k1;have kk1:=kB.trans (k1.mono kB.size);have hs1:w.heap.size+4≤w1.heap.size:=by have:=k1.size;simp at this;omega
  have tS1:=ht'.below kk1;clear oa ot oz oy kB k1 hS;have r1:=set_same;have r2:=set_off;have r3:=set_blk;have aO:=oa1;have aA:=aO.s7;clear aO;have tO:=ot1;have tA:=tO.s5;clear tO;have zO:=oz1;have zA:=zO.s7;clear zO;have yO:=oy1;have yA:=yO.s7;clear yO
  go_wp2_with fail
  refine (F.out _ tS1).mono ?_;rintro e w2 ⟨rfl,k2⟩;have oa2:=oa1.below k2;have ot2:=ot1.below k2;have oz2:=oz1.below k2;have oy2:=oy1.below k2;have kk2:=kk1.trans (k2.mono kk1.size);have hS2:=h'.below kk2;have hs2:w.heap.size+4≤w2.heap.size:=by have:=k2.size;omega
  clear aA tA zA yA;clear oa1 ot1 oz1 oy1 kk1 k2 tS1;have aO:=oa2;have aA:=aO.s7;clear aO;have tO:=ot2;have tA:=tO.s5;clear tO;have zO:=oz2;have zA:=zO.s7;clear zO;have yO:=oy2;have yA:=yO.s7;clear yO
  go_wp2_with fail
  refine (R.out _ hS2).mono ?_;rintro e w3 ⟨u,rfl,hSu,k3,hFu⟩;have hs3:w.heap.size+4≤w3.heap.size:=by have:=k3.size;omega
  have hSu':=hSu;obtain ⟨a',cap',rfl,-⟩:=hSu';have kA:=boxed_below w3 (.cells #[I x1,I x2,I x3,I m,I bo,I x6,.slice a' ys.length cap'] 64);have oa3:=(oa2.below k3).below kA;have ot3:=(ot2.below k3).below kA;have oz3:=(oz2.below k3).below kA;have oy3:=(oy2.below k3).below kA;have op3:=Own.new (w:=w3) rfl [I x1,I x2,I x3,I m,I bo,I x6,.slice a' ys.length cap'] 64;have kw3:=kk2.trans (k3.mono kk2.size);have kk3:=kw3.trans (kA.mono kw3.size);clear aA tA zA yA;clear oa2 ot2 oz2 oy2 kk2 k3 kw3 hS2;have aO:=oa3;have aA:=aO.s7;clear aO;have tO:=ot3;have tA:=tO.s5;clear tO;have zO:=oz3;have zA:=zO.s7;clear zO;have yO:=oy3;have yA:=yO.s7;clear yO;have ppO:=op3;have ppA:=ppO.s7;clear ppO;have hn0:¬ w.heap.size=w3.heap.size:=by omega
  have hn1:¬ w.heap.size+1=w3.heap.size:=by omega
  have hn2:¬ w.heap.size+2=w3.heap.size:=by omega
  have hn3:¬ w.heap.size+3=w3.heap.size:=by omega
  have hn4:¬ w3.heap.size=w.heap.size+2:=by omega
  have hn5:¬ w3.heap.size=w.heap.size+3:=by omega
  have hn6:¬ w3.heap.size=w.heap.size:=by omega
  have hn7:¬ w3.heap.size=w.heap.size+1:=by omega
  have hSA:=hSu.below (boxed_below w3 (.cells #[I x1,I x2,I x3,I m,I bo,I x6,.slice a' ys.length cap'] 64));have tSA:=ht'.below kk3;clear hSu
  go_wp2_with (go_at_call 57;refine (In_any _ _ _ _).mono ?_;rintro e w' ⟨rfl,rfl⟩)
  refine (V.out _ _ hSA).mono ?_;rintro e w4 ⟨v',rfl,hv,k4,hFv⟩;have hw34:w3.heap.size+1≤w4.heap.size:=by have:=k4.size;simp at this;omega
  have oa4:=oa3.below k4;have ot4:=ot3.below k4;have oz4:=oz3.below k4;have oy4:=oy3.below k4;have op4:=op3.below k4;have kk4:=kk3.trans (k4.mono kk3.size);have tS4:=tSA.below k4;have hFp:Far w3.heap.size v':=hFv.far (by simp);have hFz:Far (w.heap.size+2) v':=hFv.far (by simp;omega);have hFy:Far (w.heap.size+3) v':=hFv.far (by simp;omega);obtain ⟨va,vc,rfl,-⟩:=id hv;clear aA tA zA yA;clear ppA oa3 ot3 oz3 oy3 op3 kk3 k4 hFv tSA hSA V R hFu;have aO:=oa4;have aA:=aO.s7;clear aO;have tO:=ot4;have tA:=tO.s5;clear tO;have zO:=oz4;have zA:=zO.s7;clear zO;have yO:=oy4;have yA:=yO.s7;clear yO;have ppO:=op4;have ppA:=ppO.s7;clear ppO
  go_wp2_with (first | (go_at_call 57;refine (In_any _ _ _ _).mono ?_;rintro e w' ⟨rfl,rfl⟩) | (go_at_call 59;refine (C.out _).mono ?_;rintro e w' ⟨rfl,rfl⟩))
  refine (N.out _ tS4).mono ?_;rintro e w5 ⟨rfl,k5⟩;have oa5:=oa4.below k5;have ot5:=ot4.below k5;have oz5:=oz4.below k5;have oy5:=oy4.below k5;have op5:=op4.below k5;have kk5:=kk4.trans (k5.mono kk4.size);have hv5:=hv.below k5;have hw45:w4.heap.size≤w5.heap.size:=k5.size;clear aA tA zA yA;clear ppA oa4 ot4 oz4 oy4 op4 kk4 k5 tS4 hv;have aO:=oa5;have aA:=aO.s7;clear aO;have tO:=ot5;have tA:=tO.s5;clear tO;have zO:=oz5;have zA:=zO.s7;clear zO;have yO:=oy5;have yA:=yO.s7;clear yO;have ppO:=op5;have ppA:=ppO.s7;clear ppO;go_wp2;exact bodyPost_ret (v:=T3 (.agg #[I 0,I 0,I 0,I 0,I 0,I 0,.slice none 0 0]) (.agg #[I 0,I 0,I 0,I 0,I 0,I 0,I 0]) (I 20)) (by simp [results,Tryz.results28,go_sem, *];try omega) rfl (⟨_,rfl,Sl.nil _ _,below_autor,FarB.nil _ _ _⟩)


theorem SoldFor_ok (x1 x2 x3 x4 x5 x6 bo f b d al t m p k0 q qe U Pc me:Int) (v tv:Value) (xs ys zs:List ADebt) (ts:List AStep) (w:World) (h:Sl w v 2 xs.length (xs.flatMap ADebt.cells)) (ht:Sl w tv 2 ts.length (ts.flatMap AStep.cells))
    (M:Hid (∀ W,Sl W v 2 xs.length (xs.flatMap ADebt.cells)→Calls Tryz.prog 54 #[.agg #[I x1,I x2,I x3,I x4,I x5,I x6,v]] W (Grew (.bool true) W)))
    (F:Hid (∀ W,Sl W tv 2 ts.length (ts.flatMap AStep.cells)→Calls Tryz.prog 55 #[.agg #[tv,I f,I b,I d,I al]] W (Grew (I 0) W)))
    (R:Hid (∀ W,Sl W v 2 xs.length (xs.flatMap ADebt.cells)→Calls Tryz.prog 56 #[.agg #[I x1,I x2,I x3,I x4,I x5,I x6,v],I m] W (GrewAccF ⟨x1,x2,x3,m,bo,x6⟩ ys 0 W)))
    (V:Hid (∀ u W,Sl W u 2 ys.length (ys.flatMap ADebt.cells)→Calls Tryz.prog 58 #[u,I t,I d] W (GrewSl3 2 zs.length (zs.flatMap ADebt.cells) p k0 W)))
    (C:Hid (∀ W,Calls Tryz.prog 59 #[I t,I b] W (Pure (T2 (I q) (I qe)) W)))
    (N:Hid (∀ W,Sl W tv 2 ts.length (ts.flatMap AStep.cells)→Calls Tryz.prog 60 #[tv,I bo,I (t-p-(f+q))] W (Grew (T3 (I U) (I Pc) (I me)) W)))
    (p0:0≤p) (p1:p≤1000000000000) (q0:0≤q) (q1:q≤1000000000000) (f0:0≤f) (f1:f≤100000) (hi:inB t 1 100000000=true) (hr:0≤t-p-(f+q)) (hU:¬ U=0) (hn:¬ 1048575 < x3) (n0:1≤x3) (b0:0≤bo) (b1:bo≤10000000) (u0:0≤U) (u1:U≤2097151) (c0:0≤Pc) (c1:Pc≤1000000000000):
    Calls Tryz.prog 28 #[.agg #[I x1,I x2,I x3,I x4,I x5,I x6,v],.agg #[tv,I f,I b,I d,I al],I t,I m] w (GrewAccBF ⟨x1,x2,x3+1,m,bo+U,x6⟩ zs ⟨x3,t,p,f+q,Pc,t-p-(f+q)-Pc,U⟩ 0 w):=by
  unfold GrewAccBF;(try unfold GrewAccF at *);simp only at *;obtain ⟨t0,t1⟩:=inB_true.1 hi;have e1:IntKind.i64.wrap (f+q)=f+q:=wrap_small _ (by omega) (by omega);have e2:IntKind.i64.wrap (t-p)=t-p:=wrap_mid _ (by omega) (by omega);have e3:IntKind.i64.wrap (t-p-(f+q))=t-p-(f+q):=wrap_mid _ (by omega) (by omega);have hlt:¬ t-p-(f+q) < 0:=by omega
  have e4:IntKind.i64.wrap (t-p-(f+q)-Pc)=t-p-(f+q)-Pc:=wrap_mid _ (by omega) (by omega);have e5:IntKind.i64.wrap (bo+U)=bo+U:=wrap_small _ (by omega) (by omega);have e6:IntKind.i64.wrap (x3+1)=x3+1:=wrap_small _ (by omega) (by omega);obtain ⟨kB,oa,ot,oz,oy⟩:=boxes4 w [I x1,I x2,I x3,I x4,I x5,I x6,v] 64 [tv,I f,I b,I d,I al] 24 [I 0,I 0,I 0,I 0,I 0,I 0,.slice none 0 0] 64 [I 0,I 0,I 0,I 0,I 0,I 0,I 0] 39;have hS:=h.below kB;have h':=h;have ht':=ht;obtain ⟨a,cap,rfl,-⟩:=h;obtain ⟨ta,tcap,rfl,-⟩:=ht;go_enter Tryz.func28,Tryz.ntmps28
  go_wp2_with fail
  refine (M.out _ hS).mono ?_;rintro e w1 ⟨rfl,k1⟩;have oa1:=oa.below k1;have ot1:=ot.below k1;have oz1:=oz.below k1;have oy1:=oy.below k1;have kk1:=kB.trans (k1.mono kB.size);have hs1:w.heap.size+4≤w1.heap.size:=by have:=k1.size;simp at this;omega
  have tS1:=ht'.below kk1;clear oa ot oz oy kB k1 hS;have r1:=set_same;have r2:=set_off;have r3:=set_blk;have aO:=oa1;have afA:=aO.f;have a0:=aO.c0;have a1:=aO.c1;have a2:=aO.c2;have a3:=aO.c3;have a4:=aO.c4;have a5:=aO.c5;have a6:=aO.c6;clear aO;have tO:=ot1;have tA:=tO.s5;clear tO;have zO:=oz1;have zA:=zO.s7;clear zO;have yO:=oy1;have yA:=yO.s7;clear yO
  go_wp2_with fail
  refine (F.out _ tS1).mono ?_;rintro e w2 ⟨rfl,k2⟩;have oa2:=oa1.below k2;have ot2:=ot1.below k2;have oz2:=oz1.below k2;have oy2:=oy1.below k2;have kk2:=kk1.trans (k2.mono kk1.size);have hS2:=h'.below kk2;have hs2:w.heap.size+4≤w2.heap.size:=by have:=k2.size;omega
  clear a0 a1 a2 a3 a4 a5 a6 afA tA zA yA;clear oa1 ot1 oz1 oy1 kk1 k2 tS1;have aO:=oa2;have afA:=aO.f;have a0:=aO.c0;have a1:=aO.c1;have a2:=aO.c2;have a3:=aO.c3;have a4:=aO.c4;have a5:=aO.c5;have a6:=aO.c6;clear aO;have tO:=ot2;have tA:=tO.s5;clear tO;have zO:=oz2;have zA:=zO.s7;clear zO;have yO:=oy2;have yA:=yO.s7;clear yO
  go_wp2_with fail
  refine (R.out _ hS2).mono ?_;rintro e w3 ⟨u,rfl,hSu,k3,hFu⟩;have hs3:w.heap.size+4≤w3.heap.size:=by have:=k3.size;omega
  have hSu':=hSu;obtain ⟨a',cap',rfl,-⟩:=hSu';have kA:=boxed_below w3 (.cells #[I x1,I x2,I x3,I m,I bo,I x6,.slice a' ys.length cap'] 64);have oa3:=(oa2.below k3).below kA;have ot3:=(ot2.below k3).below kA;have oz3:=(oz2.below k3).below kA;have oy3:=(oy2.below k3).below kA;have op3:=Own.new (w:=w3) rfl [I x1,I x2,I x3,I m,I bo,I x6,.slice a' ys.length cap'] 64;have kw3:=kk2.trans (k3.mono kk2.size);have kk3:=kw3.trans (kA.mono kw3.size);clear a0 a1 a2 a3 a4 a5 a6 afA tA zA yA;clear oa2 ot2 oz2 oy2 kk2 k3 kw3 hS2;have aO:=oa3;have afA:=aO.f;have a0:=aO.c0;have a1:=aO.c1;have a2:=aO.c2;have a3:=aO.c3;have a4:=aO.c4;have a5:=aO.c5;have a6:=aO.c6;clear aO;have tO:=ot3;have tA:=tO.s5;clear tO;have zO:=oz3;have zA:=zO.s7;clear zO;have yO:=oy3;have yA:=yO.s7;clear yO;have ppO:=op3;have ppA:=ppO.s7;clear ppO;have hn0:¬ w.heap.size=w3.heap.size:=by omega
  have hn1:¬ w.heap.size+1=w3.heap.size:=by omega
  have hn2:¬ w.heap.size+2=w3.heap.size:=by omega
  have hn3:¬ w.heap.size+3=w3.heap.size:=by omega
  have hn4:¬ w3.heap.size=w.heap.size+2:=by omega
  have hn5:¬ w3.heap.size=w.heap.size+3:=by omega
  have hn6:¬ w3.heap.size=w.heap.size:=by omega
  have hn7:¬ w3.heap.size=w.heap.size+1:=by omega
  have hSA:=hSu.below (boxed_below w3 (.cells #[I x1,I x2,I x3,I m,I bo,I x6,.slice a' ys.length cap'] 64));have tSA:=ht'.below kk3;clear hSu
  go_wp2_with (go_at_call 57;refine (In_any _ _ _ _).mono ?_;rintro e w' ⟨rfl,rfl⟩)
  refine (V.out _ _ hSA).mono ?_;rintro e w4 ⟨v',rfl,hv,k4,hFv⟩;have hw34:w3.heap.size+1≤w4.heap.size:=by have:=k4.size;simp at this;omega
  have oa4:=oa3.below k4;have ot4:=ot3.below k4;have oz4:=oz3.below k4;have oy4:=oy3.below k4;have op4:=op3.below k4;have kk4:=kk3.trans (k4.mono kk3.size);have tS4:=tSA.below k4;have HFB:=Lib.hid (show FarB w.heap.size v' from hFv.mono (by simp;omega));have hFp:Far w3.heap.size v':=hFv.far (by simp);have hFz:Far (w.heap.size+2) v':=hFv.far (by simp;omega);have hFy:Far (w.heap.size+3) v':=hFv.far (by simp;omega);obtain ⟨va,vc,rfl,-⟩:=id hv;clear a0 a1 a2 a3 a4 a5 a6 afA tA zA yA;clear ppA oa3 ot3 oz3 oy3 op3 kk3 k4 hFv tSA hSA V R hFu;have aO:=oa4;have afA:=aO.f;have a0:=aO.c0;have a1:=aO.c1;have a2:=aO.c2;have a3:=aO.c3;have a4:=aO.c4;have a5:=aO.c5;have a6:=aO.c6;clear aO;have tO:=ot4;have tA:=tO.s5;clear tO;have zO:=oz4;have zA:=zO.s7;clear zO;have yO:=oy4;have yA:=yO.s7;clear yO;have ppO:=op4;have ppA:=ppO.s7;clear ppO
  go_wp2_with (first | (go_at_call 57;refine (In_any _ _ _ _).mono ?_;rintro e w' ⟨rfl,rfl⟩) | (go_at_call 59;refine (C.out _).mono ?_;rintro e w' ⟨rfl,rfl⟩))
  refine (N.out _ tS4).mono ?_;rintro e w5 ⟨rfl,k5⟩;have oa5:=oa4.below k5;have ot5:=ot4.below k5;have oz5:=oz4.below k5;have oy5:=oy4.below k5;have op5:=op4.below k5;have kk5:=kk4.trans (k5.mono kk4.size);have hv5:=hv.below k5;have hw45:w4.heap.size≤w5.heap.size:=k5.size;clear a0 a1 a2 a3 a4 a5 a6 afA tA zA yA;clear ppA oa4 ot4 oz4 oy4 op4 kk4 k5 tS4 hv;have aO:=oa5;have afA:=aO.f;have a0:=aO.c0;have a1:=aO.c1;have a2:=aO.c2;have a3:=aO.c3;have a4:=aO.c4;have a5:=aO.c5;have a6:=aO.c6;clear aO;have tO:=ot5;have tA:=tO.s5;clear tO;have zO:=oz5;have zA:=zO.s7;clear zO;have yO:=oy5;have yA:=yO.s7;clear yO;have ppO:=op5;have ppA:=ppO.s7;clear ppO;have ha2:w5.cell? ⟨w.heap.size,2,none⟩=some (I x3):=a2;clear a0 a1 a2 a3 a4 a5 a6 afA tA zA yA;have zO:=oz5;have zA:=zO.s7;clear zO;have yO:=oy5;have yA:=yO.s7;clear yO;have HS:=Lib.hid hv5;have HF:=Lib.hid (And.intro hFp (And.intro hFz hFy));clear oa5 ot5 oz5 oy5 op5 hv5 hFp hFz hFy;go_wp2;go_region
  all_goals
    go_wp2;obtain ⟨hfp,hfz,hfy⟩:=HF.out;exact bodyPost_ret (v:=T3 (.agg #[I x1,I x2,I (x3+1),I m,I (bo+U),I x6,.slice va zs.length vc]) (.agg #[I x3,I t,I p,I (f+q),I Pc,I (t-p-(f+q)-Pc),I U]) (I 0)) (by simp [results,Tryz.results28,go_sem, *];try omega) rfl (⟨_,rfl,(by repeat (first | with_reducible exact HS.out | with_reducible refine Sl.set ?_ (by assumption) _ | with_reducible refine Sl.drew ?_)),below_autor,HFB.out⟩)

theorem SoldFor_f (x : AAcc) (v tv : Value) (xs : List ADebt) (ts : List AStep) (f b d al t m : Int) (w : World) (h : Sl w v 2 xs.length (xs.flatMap ADebt.cells)) (ht : Sl w tv 2 ts.length (ts.flatMap AStep.cells)) :
    Calls Tryz.prog 28 #[.agg #[I x.meter,I x.rev,I x.next,I x.month,I x.bought,I x.free,v],.agg #[tv,I f,I b,I d,I al],I t,I m] w (GrewAccBF (soldX x xs ts f b d t m (soldE x xs ts f b d al t m)) (soldL x xs d t m (soldE x xs ts f b d al t m)) (soldB x xs ts f b d t m (soldE x xs ts f b d al t m)) (soldE x xs ts f b d al t m) w):=by
  have hr:soldE x xs ts f b d al t m=if openErr x xs ts f b d al=0 then (if rollE x m=0 then sellE (rollL x xs m) ts (rollX x m).bought x.next t f b d else rollE x m) else openErr x xs ts f b d al:=rfl;have M:=Lib.hid (fun W (hW:Sl W v 2 xs.length (xs.flatMap ADebt.cells))=>AccountMay_any x v xs W hW);have F:=Lib.hid (fun W (hW:Sl W tv 2 ts.length (ts.flatMap AStep.cells))=>TermsFault_any tv ts f b d al W hW);have R:=Lib.hid (fun W (hW:Sl W v 2 xs.length (xs.flatMap ADebt.cells))=>RolledF_any x v xs m W hW);unfold openErr at hr;cases c0:accMay x xs
  · rw [c0] at hr M
    simp only [Bool.false_eq_true,if_false] at hr;rw [if_neg (by decide)] at hr;obtain ⟨e1,e2,e3⟩:=sold_err x xs ts f b d t m (E:=soldE x xs ts f b d al t m) (by rw [hr];decide);rw [e1,e2,e3,hr];exact SoldFor_may x.meter x.rev x.next x.month x.bought x.free f b d al t m v tv xs ts w h ht M
  rw [c0] at hr M;simp only [if_true] at hr;obtain ⟨-,-,-,-,b5,b6,-,-,b7,b8,-⟩:=accMay_bd c0
  by_cases h1:termsE ts f b d al=0
  · rw [if_pos h1] at hr
    obtain ⟨hT,f0,f1⟩:=termsE_zero h1;rw [h1] at F
    by_cases h2:rollE x m=0
    · rw [if_pos h2] at hr
      have hrE:rolledE x xs m=0:=by simp [rolledE,c0,h2]
      obtain ⟨s1,s2⟩:=rolled_ok hrE;rw [hrE,s1,s2] at R
      have hb:0≤(rollX x m).bought∧(rollX x m).bought≤10000000:=by
        show 0≤(if m=x.month then x.bought else 0)∧(if m=x.month then x.bought else 0)≤10000000
        split<;>omega
      have hR:GrewAccF (rollX x m) (rollL x xs m) 0=GrewAccF ⟨x.meter,x.rev,x.next,m,(rollX x m).bought,x.free⟩ (rollL x xs m) 0:=rfl;rw [hR] at R;generalize hbo:(rollX x m).bought=bo at *;generalize hys:rollL x xs m=ys at *;have hd:sellE ys ts bo x.next t f b d=if inB t 1 100000000 then (if sellU ys ts bo t f b d=0 then 19 else if 1048575 < x.next then 20 else 0) else 19:=rfl;obtain ⟨p0,p1⟩:=recP_bd ys t d;obtain ⟨q0,q1⟩:=partA_bd t b;have V:=Lib.hid (fun u W hW=>Recovered_any u ys t d W hW);have C:=Lib.hid (fun W=>parted_any t b W);cases hi:inB t 1 100000000
      · rw [hi] at hd
        simp only [Bool.false_eq_true,if_false] at hd;rw [hd] at hr;obtain ⟨e1,e2,e3⟩:=sold_err x xs ts f b d t m (E:=soldE x xs ts f b d al t m) (by rw [hr];decide);rw [e1,e2,e3,hr];exact SoldFor_tender x.meter x.rev x.next x.month x.bought x.free bo f b d al t m v tv xs ys ts w h ht M F R hi
      · rw [hi, if_pos rfl] at hd
        have hrr:sellR ys t f b d=t-recP ys t d-(f+partA t b):=rfl
        by_cases h0:0≤sellR ys t f b d
        · have hU:sellU ys ts bo t f b d=mostU ts bo (sellR ys t f b d):=by rw [sellU,if_pos h0]
          have hP:sellP ys ts bo t f b d=mostC ts bo (sellR ys t f b d):=by rw [sellP,if_pos h0]
          have N:=Lib.hid (fun W hW=>MostFor_any tv ts bo (sellR ys t f b d) W hW);obtain ⟨u0,u1,c0,c1⟩:=most_bd ts bo (sellR ys t f b d);rw [hrr] at h0
          by_cases hz:sellU ys ts bo t f b d=0
          · rw [if_pos hz] at hd
            rw [hd] at hr;obtain ⟨e1,e2,e3⟩:=sold_err x xs ts f b d t m (E:=soldE x xs ts f b d al t m) (by rw [hr];decide);rw [e1,e2,e3,hr];rw [hU] at hz;rw [hz] at N;exact SoldFor_zero x.meter x.rev x.next x.month x.bought x.free bo f b d al t m _ _ _ _ _ _ v tv xs ys _ ts w h ht M F R V C N p0 p1 q0 q1 f0 f1 hi h0
          · rw [if_neg hz] at hd
            by_cases hn:1048575 < x.next
            · rw [if_pos hn] at hd
              rw [hd] at hr;obtain ⟨e1,e2,e3⟩:=sold_err x xs ts f b d t m (E:=soldE x xs ts f b d al t m) (by rw [hr];decide);rw [e1,e2,e3,hr];rw [hU] at hz;exact SoldFor_spent x.meter x.rev x.next x.month x.bought x.free bo f b d al t m _ _ _ _ _ _ _ v tv xs ys _ ts w h ht M F R V C N p0 p1 q0 q1 f0 f1 hi h0 hz hn
            · rw [if_neg hn] at hd
              rw [hd] at hr;rw [hr];have e1:soldX x xs ts f b d t m 0=⟨x.meter,x.rev,x.next+1,m,bo+mostU ts bo (sellR ys t f b d),x.free⟩:=by simp only [soldX,if_true,hys,hbo,hU]
              have e2:soldL x xs d t m 0=recL ys t d:=by simp only [soldL,if_true,hys]
              have e3:soldB x xs ts f b d t m 0=⟨x.next,t,recP ys t d,f+partA t b,mostC ts bo (sellR ys t f b d),sellR ys t f b d-mostC ts bo (sellR ys t f b d),mostU ts bo (sellR ys t f b d)⟩:=by simp only [soldB,if_true,hys,hbo,hU,hP]
              rw [e1,e2,e3];rw [hU] at hz;exact SoldFor_ok x.meter x.rev x.next x.month x.bought x.free bo f b d al t m _ _ _ _ _ _ _ v tv xs ys _ ts w h ht M F R V C N p0 p1 q0 q1 f0 f1 hi h0 hz hn b5 hb.1 hb.2 u0 u1 c0 c1
        · have hU:sellU ys ts bo t f b d=0:=by rw [sellU,if_neg h0]
          rw [if_pos hU] at hd;rw [hd] at hr;obtain ⟨e1,e2,e3⟩:=sold_err x xs ts f b d t m (E:=soldE x xs ts f b d al t m) (by rw [hr];decide);rw [e1,e2,e3,hr];rw [hrr] at h0;exact SoldFor_neg x.meter x.rev x.next x.month x.bought x.free bo f b d al t m _ _ _ _ v tv xs ys _ ts w h ht M F R V C p0 p1 q0 q1 f0 f1 hi (by omega)
    · rw [if_neg h2] at hr
      have hrE:rolledE x xs m=rollE x m:=by simp [rolledE,c0]
      obtain ⟨s1,s2⟩:=rolled_err (x:=x) (xs:=xs) (m:=m) (by rw [hrE];exact h2);rw [hrE,s1,s2] at R;obtain ⟨e1,e2,e3⟩:=sold_err x xs ts f b d t m (E:=soldE x xs ts f b d al t m) (by rw [hr];exact h2);rw [e1,e2,e3,hr];exact SoldFor_roll x.meter x.rev x.next x.month x.bought x.free f b d al t m (rollE x m) v tv xs ts w h ht M F R h2
  · rw [if_neg h1] at hr
    try rw [if_neg h1] at hr
    obtain ⟨e1,e2,e3⟩:=sold_err x xs ts f b d t m (E:=soldE x xs ts f b d al t m) (by rw [hr];exact h1);rw [e1,e2,e3,hr];exact SoldFor_terms x.meter x.rev x.next x.month x.bought x.free f b d al t m (termsE ts f b d al) v tv xs ts w h ht M F h1

end Go.Proofs.YtdjgcenjonegjaaGreat
