/- account.Grant: Grant_22 · account.Grant: Grant_21 · account.Grant: Grant_20 · account.Grant: Grant_ok · account.Grant · account.Rekey · what (*book.keeper).sell answers -/
import Derived.Test.YtdjgcenjonegjaaGreatPk10
import Derived.Test.YtdjgcenjonegjaaGreatPk07
import Derived.Deep.RegionHeld3
import Derived.Test.YtdjgcenjonegjaaGreatPk27
import Derived.Test.YtdjgcenjonegjaaGreatPk03
import Derived.Test.YtdjgcenjonegjaaGreatPk18
import Derived.Test.YtdjgcenjonegjaaGreatSoldT
import Derived.Test.YtdjgcenjonegjaaGreatPk09
import Derived.Deep.RegionLaw
import Derived.Deep.AppendLies
import Derived.Deep.DeepCutAuto
set_option maxRecDepth 20000
set_option maxHeartbeats 8000000
set_option linter.unusedSimpArgs false
set_option linter.unusedVariables false
namespace Go.Proofs.YtdjgcenjonegjaaGreat
section
open Go.RowKit

theorem Grant_22 (x1 x2 x3 x4 x5 x6 bo:Int) (v tv:Value) (xs ys:List ADebt) (ts:List AStep) (f b d m:Int) (w:World) (h:Sl w v 2 xs.length (xs.flatMap ADebt.cells)) (ht:Sl w tv 2 ts.length (ts.flatMap AStep.cells))
    (G:Hid (∀ W,Sl W v 2 xs.length (xs.flatMap ADebt.cells)→Sl W tv 2 ts.length (ts.flatMap AStep.cells)→Calls Tryz.prog 68 #[.agg #[I x1,I x2,I x3,I x4,I x5,I x6,v],.agg #[tv,I f,I b,I d,I 0]] W (GrewClerk ⟨x1,x2,x3,x4,x5,x6⟩ xs tv f b d 0 W)))
    (R:Hid (∀ W g u,Own W g (clerkC ⟨x1,x2,x3,x4,x5,x6⟩ u tv f b d 0)→Sl W u 2 xs.length (xs.flatMap ADebt.cells)→Far g u→Calls Tryz.prog 69 #[.pointer (some ⟨g,0,none⟩),I m] W (fun e w'=>∃ v',e=.returned (I 0)∧Own w' g (clerkC ⟨x1,x2,x3,m,bo,x6⟩ v' tv f b d 0)∧Sl w' v' 2 ys.length (ys.flatMap ADebt.cells)∧Far g v'∧(∀ B,B≤W.heap.size→FarB B u→FarB B v')∧Chg g W w'))):
    Calls Tryz.prog 37 #[.agg #[I x1,I x2,I x3,I x4,I x5,I x6,v],.agg #[tv,I f,I b,I d,I 0],I m] w (GrewAccBF ⟨0,0,0,0,0,0⟩ [] ⟨0,0,0,0,0,0,0⟩ 22 w):=by
  unfold GrewAccBF;unfold GrewClerk at G;simp only at *;obtain ⟨kB,-,ot,oz,oy⟩:=boxes4 w [I x1,I x2,I x3,I x4,I x5,I x6,v] 64 [tv,I f,I b,I d,I 0] 24 [I 0,I 0,I 0,I 0,I 0,I 0,.slice none 0 0] 64 [I 0,I 0,I 0,I 0,I 0,I 0,I 0] 39;have hS:=h.below kB;have tS:=ht.below kB;obtain ⟨a,cap,rfl,-⟩:=h;obtain ⟨ta,tcap,rfl,-⟩:=ht;go_enter Tryz.func37,Tryz.ntmps37
  go_wp2_with fail
  refine (G.out _ hS tS).mono ?_;rintro e w1 ⟨g,u,rfl,hg,hO,hS1,hF,hFB,k1⟩;have oz1:=oz.below k1;have oy1:=oy.below k1;have ot1:=ot.below k1;have k:=kB.trans (k1.mono kB.size);have hg2:w.heap.size+4≤g:=by have:=hg;simp at this;omega
  have hk1s:=k1.size;clear k1 kB oz oy ot hS tS G hg
  go_wp2_with fail
  refine (R.out _ _ _ hO hS1 hF).mono ?_;rintro e w2 ⟨v',rfl,hO2,hS2,hF2,hB2,cg⟩;have hfz:Far (w.heap.size+2) v':=(hB2 _ hk1s hFB).far (by first | (simp;done) | (simp;omega));have hfy:Far (w.heap.size+3) v':=(hB2 _ hk1s hFB).far (by first | (simp;done) | (simp;omega));have hO3:Own w2 g [I x1,I x2,I x3,I m,I bo,I x6,v',.slice ta ts.length tcap,I f,I b,I d,I 0]:=hO2;have kk:=cg.below k (by omega) k.size;have HFB:=Lib.hid ((hB2 _ hk1s hFB).mono1 (show w.heap.size≤_ by first | (simp;done) | (simp;omega)));have hS3:=hS2;obtain ⟨a',cap',rfl,-⟩:=hS2;have cO:=hO3;have cfA:=cO.f;have c0:=cO.c0;have c1:=cO.c1;have c2:=cO.c2;have c3:=cO.c3;have c4:=cO.c4;have c5:=cO.c5;have c6:=cO.c6;clear cO;have zO:=oz1.chg cg (by omega);have zA:=zO.s7;clear zO;have yO:=oy1.chg cg (by omega);have yA:=yO.s7;clear yO;have tO:=ot1.chg cg (by omega);have tfA:=tO.f;have t0:=tO.c0;have t1:=tO.c1;have t2:=tO.c2;have t3:=tO.c3;have t4:=tO.c4;clear tO;clear t0 t1 t2 t3 tfA;have hne2:¬ g=w.heap.size+2:=by omega
  have hne3:¬ g=w.heap.size+3:=by omega
  have hne1:¬ g=w.heap.size+1:=by omega
  have HS:=Lib.hid hS3;have HFg:=Lib.hid hF2;have HFz:=Lib.hid hfz;have HFy:=Lib.hid hfy;clear hO2 hO3 hS3 hF2 hB2 cg k oz1 oy1 ot1 hO hS1 hF hFB R hfz hfy;have r1:=set_same;have r2:=set_off;have r3:=set_blk;clear c0 c1 c3 c4 c6;go_wp2;exact bodyPost_ret (v:=T3 (.agg #[I 0,I 0,I 0,I 0,I 0,I 0,.slice none 0 0]) (.agg #[I 0,I 0,I 0,I 0,I 0,I 0,I 0]) (I 22)) (by simp [results,Tryz.results37,go_sem, *];try omega) rfl (⟨_,rfl,Sl.nil _ _,below_autor,FarB.nil _ _ _⟩)

end
section
open Go.RowKit

theorem Grant_21 (x1 x2 x3 x4 x5 x6 bo:Int) (v tv:Value) (xs ys:List ADebt) (ts:List AStep) (f b d al:Int) (w:World) (h:Sl w v 2 xs.length (xs.flatMap ADebt.cells)) (ht:Sl w tv 2 ts.length (ts.flatMap AStep.cells))
    (G:Hid (∀ W,Sl W v 2 xs.length (xs.flatMap ADebt.cells)→Sl W tv 2 ts.length (ts.flatMap AStep.cells)→Calls Tryz.prog 68 #[.agg #[I x1,I x2,I x3,I x4,I x5,I x6,v],.agg #[tv,I f,I b,I d,I al]] W (GrewClerk ⟨x1,x2,x3,x4,x5,x6⟩ xs tv f b d al W)))
    (R:Hid (∀ W g u,Own W g (clerkC ⟨x1,x2,x3,x4,x5,x6⟩ u tv f b d al)→Sl W u 2 xs.length (xs.flatMap ADebt.cells)→Far g u→Calls Tryz.prog 69 #[.pointer (some ⟨g,0,none⟩),I x6] W (fun e w'=>∃ v',e=.returned (I 0)∧Own w' g (clerkC ⟨x1,x2,x3,x6,bo,x6⟩ v' tv f b d al)∧Sl w' v' 2 ys.length (ys.flatMap ADebt.cells)∧Far g v'∧(∀ B,B≤W.heap.size→FarB B u→FarB B v')∧Chg g W w'))) (q1:¬ al=0):
    Calls Tryz.prog 37 #[.agg #[I x1,I x2,I x3,I x4,I x5,I x6,v],.agg #[tv,I f,I b,I d,I al],I x6] w (GrewAccBF ⟨0,0,0,0,0,0⟩ [] ⟨0,0,0,0,0,0,0⟩ 21 w):=by
  unfold GrewAccBF;unfold GrewClerk at G;simp only at *;obtain ⟨kB,-,ot,oz,oy⟩:=boxes4 w [I x1,I x2,I x3,I x4,I x5,I x6,v] 64 [tv,I f,I b,I d,I al] 24 [I 0,I 0,I 0,I 0,I 0,I 0,.slice none 0 0] 64 [I 0,I 0,I 0,I 0,I 0,I 0,I 0] 39;have hS:=h.below kB;have tS:=ht.below kB;obtain ⟨a,cap,rfl,-⟩:=h;obtain ⟨ta,tcap,rfl,-⟩:=ht;go_enter Tryz.func37,Tryz.ntmps37
  go_wp2_with fail
  refine (G.out _ hS tS).mono ?_;rintro e w1 ⟨g,u,rfl,hg,hO,hS1,hF,hFB,k1⟩;have oz1:=oz.below k1;have oy1:=oy.below k1;have ot1:=ot.below k1;have k:=kB.trans (k1.mono kB.size);have hg2:w.heap.size+4≤g:=by have:=hg;simp at this;omega
  have hk1s:=k1.size;clear k1 kB oz oy ot hS tS G hg
  go_wp2_with fail
  refine (R.out _ _ _ hO hS1 hF).mono ?_;rintro e w2 ⟨v',rfl,hO2,hS2,hF2,hB2,cg⟩;have hfz:Far (w.heap.size+2) v':=(hB2 _ hk1s hFB).far (by first | (simp;done) | (simp;omega));have hfy:Far (w.heap.size+3) v':=(hB2 _ hk1s hFB).far (by first | (simp;done) | (simp;omega));have hO3:Own w2 g [I x1,I x2,I x3,I x6,I bo,I x6,v',.slice ta ts.length tcap,I f,I b,I d,I al]:=hO2;have kk:=cg.below k (by omega) k.size;have HFB:=Lib.hid ((hB2 _ hk1s hFB).mono1 (show w.heap.size≤_ by first | (simp;done) | (simp;omega)));have hS3:=hS2;obtain ⟨a',cap',rfl,-⟩:=hS2;have cO:=hO3;have cfA:=cO.f;have c0:=cO.c0;have c1:=cO.c1;have c2:=cO.c2;have c3:=cO.c3;have c4:=cO.c4;have c5:=cO.c5;have c6:=cO.c6;clear cO;have zO:=oz1.chg cg (by omega);have zA:=zO.s7;clear zO;have yO:=oy1.chg cg (by omega);have yA:=yO.s7;clear yO;have tO:=ot1.chg cg (by omega);have tfA:=tO.f;have t0:=tO.c0;have t1:=tO.c1;have t2:=tO.c2;have t3:=tO.c3;have t4:=tO.c4;clear tO;clear t0 t1 t2 t3 tfA;have hne2:¬ g=w.heap.size+2:=by omega
  have hne3:¬ g=w.heap.size+3:=by omega
  have hne1:¬ g=w.heap.size+1:=by omega
  have HS:=Lib.hid hS3;have HFg:=Lib.hid hF2;have HFz:=Lib.hid hfz;have HFy:=Lib.hid hfy;clear hO2 hO3 hS3 hF2 hB2 cg k oz1 oy1 ot1 hO hS1 hF hFB R hfz hfy;have r1:=set_same;have r2:=set_off;have r3:=set_blk;clear c0 c1 c3 c4 c6;go_wp2;exact bodyPost_ret (v:=T3 (.agg #[I 0,I 0,I 0,I 0,I 0,I 0,.slice none 0 0]) (.agg #[I 0,I 0,I 0,I 0,I 0,I 0,I 0]) (I 21)) (by simp [results,Tryz.results37,go_sem, *];try omega) rfl (⟨_,rfl,Sl.nil _ _,below_autor,FarB.nil _ _ _⟩)

end
section
open Go.RowKit

theorem Grant_20 (x1 x2 x3 x4 x5 x6 bo:Int) (v tv:Value) (xs ys:List ADebt) (ts:List AStep) (f b d al m:Int) (w:World) (h:Sl w v 2 xs.length (xs.flatMap ADebt.cells)) (ht:Sl w tv 2 ts.length (ts.flatMap AStep.cells))
    (G:Hid (∀ W,Sl W v 2 xs.length (xs.flatMap ADebt.cells)→Sl W tv 2 ts.length (ts.flatMap AStep.cells)→Calls Tryz.prog 68 #[.agg #[I x1,I x2,I x3,I x4,I x5,I x6,v],.agg #[tv,I f,I b,I d,I al]] W (GrewClerk ⟨x1,x2,x3,x4,x5,x6⟩ xs tv f b d al W)))
    (R:Hid (∀ W g u,Own W g (clerkC ⟨x1,x2,x3,x4,x5,x6⟩ u tv f b d al)→Sl W u 2 xs.length (xs.flatMap ADebt.cells)→Far g u→Calls Tryz.prog 69 #[.pointer (some ⟨g,0,none⟩),I m] W (fun e w'=>∃ v',e=.returned (I 0)∧Own w' g (clerkC ⟨x1,x2,x3,m,bo,x6⟩ v' tv f b d al)∧Sl w' v' 2 ys.length (ys.flatMap ADebt.cells)∧Far g v'∧(∀ B,B≤W.heap.size→FarB B u→FarB B v')∧Chg g W w'))) (q1:¬ al=0) (q2:¬ x6=m) (q4:1048575 < x3):
    Calls Tryz.prog 37 #[.agg #[I x1,I x2,I x3,I x4,I x5,I x6,v],.agg #[tv,I f,I b,I d,I al],I m] w (GrewAccBF ⟨0,0,0,0,0,0⟩ [] ⟨0,0,0,0,0,0,0⟩ 20 w):=by
  unfold GrewAccBF;unfold GrewClerk at G;simp only at *;obtain ⟨kB,-,ot,oz,oy⟩:=boxes4 w [I x1,I x2,I x3,I x4,I x5,I x6,v] 64 [tv,I f,I b,I d,I al] 24 [I 0,I 0,I 0,I 0,I 0,I 0,.slice none 0 0] 64 [I 0,I 0,I 0,I 0,I 0,I 0,I 0] 39;have hS:=h.below kB;have tS:=ht.below kB;obtain ⟨a,cap,rfl,-⟩:=h;obtain ⟨ta,tcap,rfl,-⟩:=ht;go_enter Tryz.func37,Tryz.ntmps37
  go_wp2_with fail
  refine (G.out _ hS tS).mono ?_;rintro e w1 ⟨g,u,rfl,hg,hO,hS1,hF,hFB,k1⟩;have oz1:=oz.below k1;have oy1:=oy.below k1;have ot1:=ot.below k1;have k:=kB.trans (k1.mono kB.size);have hg2:w.heap.size+4≤g:=by have:=hg;simp at this;omega
  have hk1s:=k1.size;clear k1 kB oz oy ot hS tS G hg
  go_wp2_with fail
  refine (R.out _ _ _ hO hS1 hF).mono ?_;rintro e w2 ⟨v',rfl,hO2,hS2,hF2,hB2,cg⟩;have hfz:Far (w.heap.size+2) v':=(hB2 _ hk1s hFB).far (by first | (simp;done) | (simp;omega));have hfy:Far (w.heap.size+3) v':=(hB2 _ hk1s hFB).far (by first | (simp;done) | (simp;omega));have hO3:Own w2 g [I x1,I x2,I x3,I m,I bo,I x6,v',.slice ta ts.length tcap,I f,I b,I d,I al]:=hO2;have kk:=cg.below k (by omega) k.size;have HFB:=Lib.hid ((hB2 _ hk1s hFB).mono1 (show w.heap.size≤_ by first | (simp;done) | (simp;omega)));have hS3:=hS2;obtain ⟨a',cap',rfl,-⟩:=hS2;have cO:=hO3;have cfA:=cO.f;have c0:=cO.c0;have c1:=cO.c1;have c2:=cO.c2;have c3:=cO.c3;have c4:=cO.c4;have c5:=cO.c5;have c6:=cO.c6;clear cO;have zO:=oz1.chg cg (by omega);have zA:=zO.s7;clear zO;have yO:=oy1.chg cg (by omega);have yA:=yO.s7;clear yO;have tO:=ot1.chg cg (by omega);have tfA:=tO.f;have t0:=tO.c0;have t1:=tO.c1;have t2:=tO.c2;have t3:=tO.c3;have t4:=tO.c4;clear tO;clear t0 t1 t2 t3 tfA;have hne2:¬ g=w.heap.size+2:=by omega
  have hne3:¬ g=w.heap.size+3:=by omega
  have hne1:¬ g=w.heap.size+1:=by omega
  have HS:=Lib.hid hS3;have HFg:=Lib.hid hF2;have HFz:=Lib.hid hfz;have HFy:=Lib.hid hfy;clear hO2 hO3 hS3 hF2 hB2 cg k oz1 oy1 ot1 hO hS1 hF hFB R hfz hfy;have r1:=set_same;have r2:=set_off;have r3:=set_blk;clear c0 c1 c3 c4 c6;go_wp2;exact bodyPost_ret (v:=T3 (.agg #[I 0,I 0,I 0,I 0,I 0,I 0,.slice none 0 0]) (.agg #[I 0,I 0,I 0,I 0,I 0,I 0,I 0]) (I 20)) (by simp [results,Tryz.results37,go_sem, *];try omega) rfl (⟨_,rfl,Sl.nil _ _,below_autor,FarB.nil _ _ _⟩)

end
section
open Go.RowKit

theorem Grant_ok (x1 x2 x3 x4 x5 x6 bo:Int) (v tv:Value) (xs ys:List ADebt) (ts:List AStep) (f b d al m:Int) (w:World) (h:Sl w v 2 xs.length (xs.flatMap ADebt.cells)) (ht:Sl w tv 2 ts.length (ts.flatMap AStep.cells))
    (G:Hid (∀ W,Sl W v 2 xs.length (xs.flatMap ADebt.cells)→Sl W tv 2 ts.length (ts.flatMap AStep.cells)→Calls Tryz.prog 68 #[.agg #[I x1,I x2,I x3,I x4,I x5,I x6,v],.agg #[tv,I f,I b,I d,I al]] W (GrewClerk ⟨x1,x2,x3,x4,x5,x6⟩ xs tv f b d al W)))
    (R:Hid (∀ W g u,Own W g (clerkC ⟨x1,x2,x3,x4,x5,x6⟩ u tv f b d al)→Sl W u 2 xs.length (xs.flatMap ADebt.cells)→Far g u→Calls Tryz.prog 69 #[.pointer (some ⟨g,0,none⟩),I m] W (fun e w'=>∃ v',e=.returned (I 0)∧Own w' g (clerkC ⟨x1,x2,x3,m,bo,x6⟩ v' tv f b d al)∧Sl w' v' 2 ys.length (ys.flatMap ADebt.cells)∧Far g v'∧(∀ B,B≤W.heap.size→FarB B u→FarB B v')∧Chg g W w'))) (q1:¬ al=0) (q2:¬ x6=m) (q4:¬ 1048575 < x3) (q0:1≤x3):
    Calls Tryz.prog 37 #[.agg #[I x1,I x2,I x3,I x4,I x5,I x6,v],.agg #[tv,I f,I b,I d,I al],I m] w (GrewAccBF ⟨x1,x2,x3+1,m,bo,m⟩ ys ⟨x3,0,0,0,0,0,al⟩ 0 w):=by
  unfold GrewAccBF;unfold GrewClerk at G;simp only at *;have q5:x3+1-1=x3:=by omega
  obtain ⟨kB,-,ot,oz,oy⟩:=boxes4 w [I x1,I x2,I x3,I x4,I x5,I x6,v] 64 [tv,I f,I b,I d,I al] 24 [I 0,I 0,I 0,I 0,I 0,I 0,.slice none 0 0] 64 [I 0,I 0,I 0,I 0,I 0,I 0,I 0] 39;have hS:=h.below kB;have tS:=ht.below kB;obtain ⟨a,cap,rfl,-⟩:=h;obtain ⟨ta,tcap,rfl,-⟩:=ht;go_enter Tryz.func37,Tryz.ntmps37
  go_wp2_with fail
  refine (G.out _ hS tS).mono ?_;rintro e w1 ⟨g,u,rfl,hg,hO,hS1,hF,hFB,k1⟩;have oz1:=oz.below k1;have oy1:=oy.below k1;have ot1:=ot.below k1;have k:=kB.trans (k1.mono kB.size);have hg2:w.heap.size+4≤g:=by have:=hg;simp at this;omega
  have hk1s:=k1.size;clear k1 kB oz oy ot hS tS G hg
  go_wp2_with fail
  refine (R.out _ _ _ hO hS1 hF).mono ?_;rintro e w2 ⟨v',rfl,hO2,hS2,hF2,hB2,cg⟩;have hfz:Far (w.heap.size+2) v':=(hB2 _ hk1s hFB).far (by first | (simp;done) | (simp;omega));have hfy:Far (w.heap.size+3) v':=(hB2 _ hk1s hFB).far (by first | (simp;done) | (simp;omega));have hO3:Own w2 g [I x1,I x2,I x3,I m,I bo,I x6,v',.slice ta ts.length tcap,I f,I b,I d,I al]:=hO2;have kk:=cg.below k (by omega) k.size;have HFB:=Lib.hid ((hB2 _ hk1s hFB).mono1 (show w.heap.size≤_ by first | (simp;done) | (simp;omega)));have hS3:=hS2;obtain ⟨a',cap',rfl,-⟩:=hS2;have cO:=hO3;have cA:=cO.s7;clear cO;have zO:=oz1.chg cg (by omega);have zA:=zO.s7;clear zO;have yO:=oy1.chg cg (by omega);have yA:=yO.s7;clear yO;have tO:=ot1.chg cg (by omega);have tfA:=tO.f;have t0:=tO.c0;have t1:=tO.c1;have t2:=tO.c2;have t3:=tO.c3;have t4:=tO.c4;clear tO;clear t0 t1 t2 t3 tfA;have hne2:¬ g=w.heap.size+2:=by omega
  have hne3:¬ g=w.heap.size+3:=by omega
  have hne1:¬ g=w.heap.size+1:=by omega
  have HS:=Lib.hid hS3;have HFg:=Lib.hid hF2;have HFz:=Lib.hid hfz;have HFy:=Lib.hid hfy;clear hO2 hO3 hS3 hF2 hB2 cg k oz1 oy1 ot1 hO hS1 hF hFB R hfz hfy;have r1:=set_same;have r2:=set_off;have r3:=set_blk;go_wp2;go_region
  all_goals
    go_wp2;have hfg:=HFg.out;have hfz:=HFz.out;have hfy:=HFy.out;exact bodyPost_ret (v:=T3 (.agg #[I x1,I x2,I (x3+1),I m,I bo,I m,.slice a' ys.length cap']) (.agg #[I x3,I 0,I 0,I 0,I 0,I 0,I al]) (I 0)) (by simp [results,Tryz.results37,go_sem, *];try omega) rfl (⟨_,rfl,(by repeat (first | with_reducible exact HS.out | with_reducible refine Sl.set ?_ (by assumption) _ | with_reducible refine Sl.drew ?_)),below_autor,HFB.out⟩)

end
section
open Go.RowKit
theorem Grant_any (x : AAcc) (v tv : Value) (xs : List ADebt) (ts : List AStep) (f b d al m : Int) (w : World) (h : Sl w v 2 xs.length (xs.flatMap ADebt.cells)) (ht : Sl w tv 2 ts.length (ts.flatMap AStep.cells)) :
    Calls Tryz.prog 37 #[.agg #[I x.meter,I x.rev,I x.next,I x.month,I x.bought,I x.free,v],.agg #[tv,I f,I b,I d,I al],I m] w (GrewAccBF (grantX x m (grantE x xs ts f b d al m)) (grantL x xs m (grantE x xs ts f b d al m)) (grantB x al (grantE x xs ts f b d al m)) (grantE x xs ts f b d al m) w):=by
  have hr:grantE x xs ts f b d al m=if openErr x xs ts f b d al=0 then (if rollE x m=0 then (if al=0 then 22 else if x.free=m then 21 else if x.next=1048576 then 20 else 0) else rollE x m) else openErr x xs ts f b d al:=rfl
  by_cases h1:openErr x xs ts f b d al=0
  · rw [if_pos h1] at hr
    have c0:accMay x xs=true:=by
      unfold openErr at h1;cases c:accMay x xs
      · rw [c] at h1;simp at h1
      · rfl
    obtain ⟨-,-,-,-,b5,b6,-⟩:=accMay_bd c0;have G:=Lib.hid (fun W hS tS=>open_good x v tv xs ts f b d al W hS tS h1)
    by_cases h2:rollE x m=0
    · rw [if_pos h2] at hr
      have R:=Lib.hid (fun W g u hO hS hF=>roll_good g x u tv xs f b d al m W hO hS hF c0 h2);unfold GrewRoll at R
      by_cases q1:al=0
      · rw [if_pos q1] at hr
        obtain ⟨e1,e2,e3⟩:=grant_err x xs m al (E:=grantE x xs ts f b d al m) (by rw [hr];decide);rw [e1,e2,e3,hr];subst q1;exact Grant_22 x.meter x.rev x.next x.month x.bought x.free (rollX x m).bought v tv xs (rollL x xs m) ts f b d m w h ht G R
      rw [if_neg q1] at hr
      by_cases q2:x.free=m
      · rw [if_pos q2] at hr
        obtain ⟨e1,e2,e3⟩:=grant_err x xs m al (E:=grantE x xs ts f b d al m) (by rw [hr];decide);rw [e1,e2,e3,hr];subst q2;exact Grant_21 x.meter x.rev x.next x.month x.bought x.free (rollX x x.free).bought v tv xs (rollL x xs x.free) ts f b d al w h ht G R q1
      rw [if_neg q2] at hr
      by_cases q3:x.next=1048576
      · rw [if_pos q3] at hr
        obtain ⟨e1,e2,e3⟩:=grant_err x xs m al (E:=grantE x xs ts f b d al m) (by rw [hr];decide);rw [e1,e2,e3,hr];exact Grant_20 x.meter x.rev x.next x.month x.bought x.free (rollX x m).bought v tv xs (rollL x xs m) ts f b d al m w h ht G R q1 q2 (by omega)
      rw [if_neg q3] at hr;rw [hr];have hgL:grantL x xs m 0=rollL x xs m:=by simp [grantL]
      have hgX:grantX x m 0=⟨x.meter,x.rev,x.next+1,m,(rollX x m).bought,m⟩:=by simp [grantX]
      have hgB:grantB x al 0=⟨x.next,0,0,0,0,0,al⟩:=by simp [grantB]
      rw [hgL,hgX,hgB];exact Grant_ok x.meter x.rev x.next x.month x.bought x.free (rollX x m).bought v tv xs (rollL x xs m) ts f b d al m w h ht G R q1 q2 (by omega) (by omega)
    · rw [if_neg h2] at hr
      obtain ⟨e1,e2,e3⟩:=grant_err x xs m al (E:=grantE x xs ts f b d al m) (by rw [hr];exact h2);rw [e1,e2,e3,hr];exact Grant_roll x.meter x.rev x.next x.month x.bought x.free v tv xs ts f b d al m (rollE x m) w h ht G (Lib.hid (fun W g u hO=>roll_bad g x u tv f b d al m W hO h2)) h2
  · rw [if_neg h1] at hr
    obtain ⟨e1,e2,e3⟩:=grant_err x xs m al (E:=grantE x xs ts f b d al m) (by rw [hr];exact h1);rw [e1,e2,e3,hr];exact Grant_open x.meter x.rev x.next x.month x.bought x.free v tv xs ts f b d al m (openErr x xs ts f b d al) w h ht (Lib.hid (fun W hS tS=>open_bad x v tv xs ts f b d al W hS tS h1)) h1
end
section
open Go.RowKit

theorem Rekey_f (x : AAcc) (v : Value) (xs : List ADebt) (w : World) (h : Sl w v 2 xs.length (xs.flatMap ADebt.cells)) :
    Calls Tryz.prog 27 #[.agg #[I x.meter,I x.rev,I x.next,I x.month,I x.bought,I x.free,v]] w (GrewAccBF (rekeyX x xs) (rekeyL x xs) (rekeyB x xs) (rekeyE x xs) w):=by
  obtain ⟨i0,hi,hz0,hz1,hz2⟩:=info_parts info_debts;have M:=Lib.hid (fun W (hW:Sl W v 2 xs.length (xs.flatMap ADebt.cells))=>may_any x v xs W hW);obtain ⟨x1,x2,x3,x4,x5,x6⟩:=x;simp only at *;have hb1:=boxed_below w (.cells #[I x1,I x2,I x3,I x4,I x5,I x6,v] 64);have hb2:=hb1.alloc hb1.size (.cells #[I 0,I 0,I 0,I 0,I 0,I 0,.slice none 0 0] 64);have hb:=hb2.alloc hb2.size (.cells #[I 0,I 0,I 0,I 0,I 0,I 0,I 0] 39);have h1:=h.below hb;have h':=h;obtain ⟨a,cap,rfl,-⟩:=h';clear hb1 hb2;cases c0:accMay ⟨x1,x2,x3,x4,x5,x6⟩ xs
  · obtain ⟨q1,q2,q3,q4⟩:=rekey_err (x:=⟨x1,x2,x3,x4,x5,x6⟩) (xs:=xs) 5 (by unfold rekeyE;rw [c0];simp []) (by decide)
    rw [q1,q2,q3,q4];clear q1 q2 q3 q4;rw [c0] at M;clear c0 h;go_enter Tryz.func27,Tryz.ntmps27
    go_wp2_with fail
    refine (M.out _ h1).mono ?_;rintro e w1 ⟨rfl,k1⟩;have oc:=(((Own.new (w:=w) rfl [I x1,I x2,I x3,I x4,I x5,I x6,.slice a xs.length cap] 64).alloc (.cells #[I 0,I 0,I 0,I 0,I 0,I 0,.slice none 0 0] 64)).alloc (.cells #[I 0,I 0,I 0,I 0,I 0,I 0,I 0] 39)).below k1;have oz:=((Own.new (w:=(w.alloc (.cells #[I x1,I x2,I x3,I x4,I x5,I x6,.slice a xs.length cap] 64))) (g:=w.heap.size+1) (by simp) [I 0,I 0,I 0,I 0,I 0,I 0,.slice none 0 0] 64).alloc (.cells #[I 0,I 0,I 0,I 0,I 0,I 0,I 0] 39)).below k1;have oy:=(Own.new (w:=(w.alloc (.cells #[I x1,I x2,I x3,I x4,I x5,I x6,.slice a xs.length cap] 64)).alloc (.cells #[I 0,I 0,I 0,I 0,I 0,I 0,.slice none 0 0] 64)) (g:=w.heap.size+2) (by simp) [I 0,I 0,I 0,I 0,I 0,I 0,I 0] 39).below k1;have cO:=oc;have cfA:=cO.f;have c0:=cO.c0;have c1:=cO.c1;have c2:=cO.c2;have c3:=cO.c3;have c4:=cO.c4;have c5:=cO.c5;have c6:=cO.c6;clear cO;have yO:=oy;have yA:=yO.s7;clear yO;have zO:=oz;have zA:=zO.s7;clear zO;have k:=hb.trans (k1.mono hb.size);have hzw:w.heap.size+3≤w1.heap.size:=by have:=k1.size;simp at this;omega
    clear k1 hb h1;have r1:=set_same;have r2:=set_off;have r3:=set_blk;go_wp2;exact bodyPost_ret (v:=T3 (.agg #[I 0,I 0,I 0,I 0,I 0,I 0,.slice none 0 0]) (.agg #[I 0,I 0,I 0,I 0,I 0,I 0,I 0]) (I 5)) (by simp [results,Tryz.results27,go_sem, *];try omega) rfl (⟨_,rfl,Sl.nil _ _,below_autor,FarB.nil _ _ _⟩)
  · have h8 := accMay_len c0
    obtain ⟨-,-,b3,b4,b5,b6,-⟩:=accMay_bd c0;simp only at b3 b4 b5 b6
    by_cases c1:x2=15
    · obtain ⟨q1,q2,q3,q4⟩:=rekey_err (x:=⟨x1,x2,x3,x4,x5,x6⟩) (xs:=xs) 24 (by unfold rekeyE;rw [c0];simp [c1]) (by decide)
      rw [q1,q2,q3,q4];clear q1 q2 q3 q4;have c1b:(x2==15)=true:=by simp [c1]
      rw [c0] at M;clear c0 h h8 c1;go_enter Tryz.func27,Tryz.ntmps27
      go_wp2_with fail
      refine (M.out _ h1).mono ?_;rintro e w1 ⟨rfl,k1⟩;have oc:=(((Own.new (w:=w) rfl [I x1,I x2,I x3,I x4,I x5,I x6,.slice a xs.length cap] 64).alloc (.cells #[I 0,I 0,I 0,I 0,I 0,I 0,.slice none 0 0] 64)).alloc (.cells #[I 0,I 0,I 0,I 0,I 0,I 0,I 0] 39)).below k1;have oz:=((Own.new (w:=(w.alloc (.cells #[I x1,I x2,I x3,I x4,I x5,I x6,.slice a xs.length cap] 64))) (g:=w.heap.size+1) (by simp) [I 0,I 0,I 0,I 0,I 0,I 0,.slice none 0 0] 64).alloc (.cells #[I 0,I 0,I 0,I 0,I 0,I 0,I 0] 39)).below k1;have oy:=(Own.new (w:=(w.alloc (.cells #[I x1,I x2,I x3,I x4,I x5,I x6,.slice a xs.length cap] 64)).alloc (.cells #[I 0,I 0,I 0,I 0,I 0,I 0,.slice none 0 0] 64)) (g:=w.heap.size+2) (by simp) [I 0,I 0,I 0,I 0,I 0,I 0,I 0] 39).below k1;have cO:=oc;have cfA:=cO.f;have c0:=cO.c0;have c1:=cO.c1;have c2:=cO.c2;have c3:=cO.c3;have c4:=cO.c4;have c5:=cO.c5;have c6:=cO.c6;clear cO;have yO:=oy;have yA:=yO.s7;clear yO;have zO:=oz;have zA:=zO.s7;clear zO;have k:=hb.trans (k1.mono hb.size);have hzw:w.heap.size+3≤w1.heap.size:=by have:=k1.size;simp at this;omega
      clear k1 hb h1;have r1:=set_same;have r2:=set_off;have r3:=set_blk;go_wp2;exact bodyPost_ret (v:=T3 (.agg #[I 0,I 0,I 0,I 0,I 0,I 0,.slice none 0 0]) (.agg #[I 0,I 0,I 0,I 0,I 0,I 0,I 0]) (I 24)) (by simp [results,Tryz.results27,go_sem, *];try omega) rfl (⟨_,rfl,Sl.nil _ _,below_autor,FarB.nil _ _ _⟩)
    have c1b:(x2==15)=false:=by simp [c1]
    by_cases c2:x3=1048576
    · obtain ⟨q1,q2,q3,q4⟩:=rekey_err (x:=⟨x1,x2,x3,x4,x5,x6⟩) (xs:=xs) 20 (by unfold rekeyE;rw [c0];simp [c1,c2]) (by decide)
      rw [q1,q2,q3,q4];clear q1 q2 q3 q4;have c2b:1048575 < x3:=by omega
      rw [c0] at M;clear c0 h h8 c1 c2;go_enter Tryz.func27,Tryz.ntmps27
      go_wp2_with fail
      refine (M.out _ h1).mono ?_;rintro e w1 ⟨rfl,k1⟩;have oc:=(((Own.new (w:=w) rfl [I x1,I x2,I x3,I x4,I x5,I x6,.slice a xs.length cap] 64).alloc (.cells #[I 0,I 0,I 0,I 0,I 0,I 0,.slice none 0 0] 64)).alloc (.cells #[I 0,I 0,I 0,I 0,I 0,I 0,I 0] 39)).below k1;have oz:=((Own.new (w:=(w.alloc (.cells #[I x1,I x2,I x3,I x4,I x5,I x6,.slice a xs.length cap] 64))) (g:=w.heap.size+1) (by simp) [I 0,I 0,I 0,I 0,I 0,I 0,.slice none 0 0] 64).alloc (.cells #[I 0,I 0,I 0,I 0,I 0,I 0,I 0] 39)).below k1;have oy:=(Own.new (w:=(w.alloc (.cells #[I x1,I x2,I x3,I x4,I x5,I x6,.slice a xs.length cap] 64)).alloc (.cells #[I 0,I 0,I 0,I 0,I 0,I 0,.slice none 0 0] 64)) (g:=w.heap.size+2) (by simp) [I 0,I 0,I 0,I 0,I 0,I 0,I 0] 39).below k1;have cO:=oc;have cfA:=cO.f;have c0:=cO.c0;have c1:=cO.c1;have c2:=cO.c2;have c3:=cO.c3;have c4:=cO.c4;have c5:=cO.c5;have c6:=cO.c6;clear cO;have yO:=oy;have yA:=yO.s7;clear yO;have zO:=oz;have zA:=zO.s7;clear zO;have k:=hb.trans (k1.mono hb.size);have hzw:w.heap.size+3≤w1.heap.size:=by have:=k1.size;simp at this;omega
      clear k1 hb h1;have r1:=set_same;have r2:=set_off;have r3:=set_blk;go_wp2;exact bodyPost_ret (v:=T3 (.agg #[I 0,I 0,I 0,I 0,I 0,I 0,.slice none 0 0]) (.agg #[I 0,I 0,I 0,I 0,I 0,I 0,I 0]) (I 20)) (by simp [results,Tryz.results27,go_sem, *];try omega) rfl (⟨_,rfl,Sl.nil _ _,below_autor,FarB.nil _ _ _⟩)
    have c2b:¬ 1048575 < x3:=by omega
    obtain ⟨q1,q2,q3,q4⟩:=rekey_ok (x:=⟨x1,x2,x3,x4,x5,x6⟩) (xs:=xs) (by unfold rekeyE;rw [c0];simp [c1,c2]);rw [q1,q2,q3,q4];clear q1 q2 q3 q4;rw [c0] at M;clear c0 c1 c2
    by_cases he:xs=[]
    · subst he
      go_enter Tryz.func27,Tryz.ntmps27
      go_wp2_with fail
      refine (M.out _ h1).mono ?_;rintro e w1 ⟨rfl,k1⟩;have oc:=(((Own.new (w:=w) rfl [I x1,I x2,I x3,I x4,I x5,I x6,.slice a ([]:List ADebt).length cap] 64).alloc (.cells #[I 0,I 0,I 0,I 0,I 0,I 0,.slice none 0 0] 64)).alloc (.cells #[I 0,I 0,I 0,I 0,I 0,I 0,I 0] 39)).below k1;have oz:=((Own.new (w:=(w.alloc (.cells #[I x1,I x2,I x3,I x4,I x5,I x6,.slice a ([]:List ADebt).length cap] 64))) (g:=w.heap.size+1) (by simp) [I 0,I 0,I 0,I 0,I 0,I 0,.slice none 0 0] 64).alloc (.cells #[I 0,I 0,I 0,I 0,I 0,I 0,I 0] 39)).below k1;have oy:=(Own.new (w:=(w.alloc (.cells #[I x1,I x2,I x3,I x4,I x5,I x6,.slice a ([]:List ADebt).length cap] 64)).alloc (.cells #[I 0,I 0,I 0,I 0,I 0,I 0,.slice none 0 0] 64)) (g:=w.heap.size+2) (by simp) [I 0,I 0,I 0,I 0,I 0,I 0,I 0] 39).below k1;have cO:=oc;have cfA:=cO.f;have c0:=cO.c0;have c1:=cO.c1;have c2:=cO.c2;have c3:=cO.c3;have c4:=cO.c4;have c5:=cO.c5;have c6:=cO.c6;clear cO;have yO:=oy;have yA:=yO.s7;clear yO;have zO:=oz;have zA:=zO.s7;clear zO;have k:=hb.trans (k1.mono hb.size);have hzw:w.heap.size+3≤w1.heap.size:=by have:=k1.size;simp at this;omega
      clear k1 hb h1;have r1:=set_same;have r2:=set_off;have r3:=set_blk;cases a
      all_goals
        go_wp2;go_region
        all_goals
          go_wp2;exact bodyPost_ret (v:=T3 (.agg #[I x1,I (x2+1),I (x3+1),I x4,I x5,I x6,.slice none 0 0]) (.agg #[I x3,I 0,I 0,I 0,I 0,I 0,I 0]) (I 0)) (by simp [results,Tryz.results27,go_sem, *];try omega) rfl (⟨_,rfl,Sl.nil _ _,below_autor,FarB.nil _ _ _⟩)
    · have hpos:0 < xs.length:=List.length_pos_iff.2 he
      have hS0:=h;obtain ⟨a',cap',hv,hn,hl,h0,hr⟩:=h;injection hv with e1 e2 e3
      subst e1 e3;clear e2;obtain ⟨b,off,rfl,hbl,hcl⟩:=hr.resolve_left (by omega);have hone:=debts_one xs;have Hl:=Lib.hid hl;have Hone:=Lib.hid hone;have hlen:xs.length≤281474976710656:=by omega
      clear h0 hl hcl hone hr;go_enter Tryz.func27,Tryz.ntmps27
      go_wp2_with fail
      refine (M.out _ h1).mono ?_;rintro e w1 ⟨rfl,k1⟩;have oc:=(((Own.new (w:=w) rfl [I x1,I x2,I x3,I x4,I x5,I x6,.slice (some ⟨b,off,none⟩) xs.length cap] 64).alloc (.cells #[I 0,I 0,I 0,I 0,I 0,I 0,.slice none 0 0] 64)).alloc (.cells #[I 0,I 0,I 0,I 0,I 0,I 0,I 0] 39)).below k1;have oz:=((Own.new (w:=(w.alloc (.cells #[I x1,I x2,I x3,I x4,I x5,I x6,.slice (some ⟨b,off,none⟩) xs.length cap] 64))) (g:=w.heap.size+1) (by simp) [I 0,I 0,I 0,I 0,I 0,I 0,.slice none 0 0] 64).alloc (.cells #[I 0,I 0,I 0,I 0,I 0,I 0,I 0] 39)).below k1;have oy:=(Own.new (w:=(w.alloc (.cells #[I x1,I x2,I x3,I x4,I x5,I x6,.slice (some ⟨b,off,none⟩) xs.length cap] 64)).alloc (.cells #[I 0,I 0,I 0,I 0,I 0,I 0,.slice none 0 0] 64)) (g:=w.heap.size+2) (by simp) [I 0,I 0,I 0,I 0,I 0,I 0,I 0] 39).below k1;have cO:=oc;have cfA:=cO.f;have c0:=cO.c0;have c1:=cO.c1;have c2:=cO.c2;have c3:=cO.c3;have c4:=cO.c4;have c5:=cO.c5;have c6:=cO.c6;clear cO;have yO:=oy;have yA:=yO.s7;clear yO;have zO:=oz;have zA:=zO.s7;clear zO;have k:=hb.trans (k1.mono hb.size);have hzw:w.heap.size+3≤w1.heap.size:=by have:=k1.size;simp at this;omega
      clear k1 hb h1;have r1:=set_same;have r2:=set_off;have r3:=set_blk;have HN:=Lib.hid (Sl.news (hS0.below k));clear hS0
      go_wp2_with
        (at_builtin
         refine wpList_append_lies _ rfl _ _ 62 rfl w1.heap.size 46 i0 (.agg #[.int .i64 0,.int .i64 0]) 2 16 Tryz.underlying62 hi hz0 hz1 hz2 rfl (by decide) (.slice none 0 0) 0 [] rfl (World.ownsRow_nil _ _ _ _) ⟨b,off,none⟩ xs.length cap (xs.flatMap ADebt.cells) rfl Hl.out HN.out Hone.out hpos (by unfold maxLen;omega) (by omega) (Nat.le_refl _) _ rfl ?_;intro g2 cap2 w2 hown2 hgrow2 hat2 hlt2;rw [Nat.zero_add,List.nil_append] at hown2;have k2:Below w1.heap.size w1 w2:=Below.grown (B:=w1.heap.size) (Below.refl _ _) hgrow2 (Nat.le_refl _) (fun j hj=>by cases hj);have kB:=k.trans (k2.mono k.size);have cO:=oc.below k2;have cfA:=cO.f;have c0:=cO.c0;have c1:=cO.c1;have c2:=cO.c2;have c3:=cO.c3;have c4:=cO.c4;have c5:=cO.c5;have c6:=cO.c6;clear cO;have zO:=oz.below k2;have zA:=zO.s7;clear zO;have yO:=oy.below k2;have yA:=yO.s7;clear yO;have hfA:Far w.heap.size (.slice (some ⟨g2,0,none⟩) xs.length cap2):=Far.lit (by rcases hat2 with h | h;(cases h);omega);have hfB:Far (w.heap.size+1) (.slice (some ⟨g2,0,none⟩) xs.length cap2):=Far.lit (by rcases hat2 with h | h;(cases h);omega);have hfC:Far (w.heap.size+1+1) (.slice (some ⟨g2,0,none⟩) xs.length cap2):=Far.lit (by rcases hat2 with h | h;(cases h);omega);have HS:=Lib.hid (Sl.of_owns hown2 hlen);have HFB:=Lib.hid (show FarB w.heap.size (.slice (some ⟨g2,0,none⟩) xs.length cap2) from FarB.lit (by rcases hat2 with h | h;(cases h);omega));clear hat2 hgrow2 hown2 k2 k)
      go_region
      all_goals
        go_wp2;exact bodyPost_ret (v:=T3 (.agg #[I x1,I (x2+1),I (x3+1),I x4,I x5,I x6,.slice (some ⟨g2,0,none⟩) xs.length cap2]) (.agg #[I x3,I 0,I 0,I 0,I 0,I 0,I 0]) (I 0)) (by simp [results,Tryz.results27,go_sem, *];try omega) rfl (⟨_,rfl,(by repeat (first | with_reducible exact HS.out | with_reducible refine Sl.set ?_ (by assumption) _ | with_reducible refine Sl.drew ?_)),below_autor,HFB.out⟩)
theorem Rekey_any (x:AAcc) (v:Value) (xs:List ADebt) (w:World) (h:Sl w v 2 xs.length (xs.flatMap ADebt.cells)):
    Calls Tryz.prog 27 #[.agg #[I x.meter,I x.rev,I x.next,I x.month,I x.bought,I x.free,v]] w (GrewAccB (rekeyX x xs) (rekeyL x xs) (rekeyB x xs) (rekeyE x xs) w):=(Rekey_f x v xs w h).mono fun _ _ h=>h.drop
end
section
open Go Go.RowKit
/-- it returns, and the book v holds the customers cs; or it throws F, and what was there is as it was -/
def SellP (B:Nat) (F:Int) (v:Value) (cs:List PCust) (w:World) (e:Ending) (w':World):Prop:=
  (F=0→e=.returned (.tuple #[])∧(∃ ys,BookAt w' B v cs ys)∧Below B w w')∧(F≠0→e=.panicked [{ v:=refV F,recovered:=false }]∧Below w.heap.size w w')
theorem SellP.no {B:Nat} {F k:Int} {v:Value} {cs:List PCust} {w w':World} (h:F=k) (hk:k≠0) (hb:Below w.heap.size w w'):SellP B F v cs w (.panicked [{ v:=refV k,recovered:=false }]) w':=by
  subst h;exact ⟨fun h=>absurd h hk,fun _=>⟨rfl,hb⟩⟩
theorem SellP.yes {B:Nat} {F:Int} {v:Value} {cs:List PCust} {w w':World} (h:F=0) (hb:(∃ ys,BookAt w' B v cs ys)∧Below B w w'):SellP B F v cs w (.returned (.tuple #[])) w':=⟨fun _=>⟨rfl,hb⟩,fun hk=>absurd h hk⟩
end
end Go.Proofs.YtdjgcenjonegjaaGreat
