/- account.Sell -/
import Derived.Test.YtdjgcenjonegjaaGreatPk10
import Derived.Test.YtdjgcenjonegjaaGreatSellC
import Derived.Test.YtdjgcenjonegjaaGreatPk09
set_option maxRecDepth 20000
set_option maxHeartbeats 8000000
set_option linter.unusedSimpArgs false
set_option linter.unusedVariables false
namespace Go.Proofs.YtdjgcenjonegjaaGreat
open Go.RowKit

def soldE (x:AAcc) (xs:List ADebt) (ts:List AStep) (f b d al t m:Int):Int:=
  if openErr x xs ts f b d al=0 then (if rollE x m=0 then sellE (rollL x xs m) ts (rollX x m).bought x.next t f b d else rollE x m) else openErr x xs ts f b d al
def soldX (x:AAcc) (xs:List ADebt) (ts:List AStep) (f b d t m E:Int):AAcc:=if E=0 then ⟨x.meter,x.rev,x.next+1,m,(rollX x m).bought+sellU (rollL x xs m) ts (rollX x m).bought t f b d,x.free⟩ else ⟨0,0,0,0,0,0⟩
def soldL (x:AAcc) (xs:List ADebt) (d t m E:Int):List ADebt:=if E=0 then recL (rollL x xs m) t d else []
def soldB (x:AAcc) (xs:List ADebt) (ts:List AStep) (f b d t m E:Int):ABill:=if E=0 then ⟨x.next,t,recP (rollL x xs m) t d,f+partA t b,sellP (rollL x xs m) ts (rollX x m).bought t f b d,sellR (rollL x xs m) t f b d-sellP (rollL x xs m) ts (rollX x m).bought t f b d,sellU (rollL x xs m) ts (rollX x m).bought t f b d⟩ else ⟨0,0,0,0,0,0,0⟩
theorem sold_err (x:AAcc) (xs:List ADebt) (ts:List AStep) (f b d t m:Int) {E:Int} (h:E≠0):soldX x xs ts f b d t m E=⟨0,0,0,0,0,0⟩∧soldL x xs d t m E=[]∧soldB x xs ts f b d t m E=⟨0,0,0,0,0,0,0⟩:=by simp [soldX,soldL,soldB,h]

theorem Sell_roll (x1 x2 x3 x4 x5 x6:Int) (v tv:Value) (xs:List ADebt) (ts:List AStep) (f b d al t m E:Int) (w:World) (h:Sl w v 2 xs.length (xs.flatMap ADebt.cells)) (ht:Sl w tv 2 ts.length (ts.flatMap AStep.cells))
    (G:Hid (∀ W,Sl W v 2 xs.length (xs.flatMap ADebt.cells)→Sl W tv 2 ts.length (ts.flatMap AStep.cells)→Calls Tryz.prog 68 #[.agg #[I x1,I x2,I x3,I x4,I x5,I x6,v],.agg #[tv,I f,I b,I d,I al]] W (GrewClerk ⟨x1,x2,x3,x4,x5,x6⟩ xs tv f b d al W)))
    (R:Hid (∀ W g u,Own W g (clerkC ⟨x1,x2,x3,x4,x5,x6⟩ u tv f b d al)→Calls Tryz.prog 69 #[.pointer (some ⟨g,0,none⟩),I m] W (Grew (I E) W))) (hE0:¬ E=0):
    Calls Tryz.prog 35 #[.agg #[I x1,I x2,I x3,I x4,I x5,I x6,v],.agg #[tv,I f,I b,I d,I al],I t,I m] w (GrewAccBF ⟨0,0,0,0,0,0⟩ [] ⟨0,0,0,0,0,0,0⟩ E w):=by
  unfold GrewAccBF;unfold GrewClerk at G;simp only at *;obtain ⟨kB,-,ot,oz,oy⟩:=boxes4 w [I x1,I x2,I x3,I x4,I x5,I x6,v] 64 [tv,I f,I b,I d,I al] 24 [I 0,I 0,I 0,I 0,I 0,I 0,.slice none 0 0] 64 [I 0,I 0,I 0,I 0,I 0,I 0,I 0] 39;have hS:=h.below kB;have tS:=ht.below kB;obtain ⟨a,cap,rfl,-⟩:=h;obtain ⟨ta,tcap,rfl,-⟩:=ht;go_enter Tryz.func35,Tryz.ntmps35
  go_wp2_with fail
  refine (G.out _ hS tS).mono ?_;rintro e w1 ⟨g,u,rfl,hg,hO,hS1,hF,hFB,k1⟩;have oz1:=oz.below k1;have oy1:=oy.below k1;have k:=kB.trans (k1.mono kB.size);clear k1 kB oz oy ot hS tS G hS1 hF hFB hg
  go_wp2_with fail
  refine (R.out _ _ _ hO).mono ?_;rintro e w2 ⟨rfl,k2⟩;have zO:=oz1.below k2;have zA:=zO.s7;clear zO;have yO:=oy1.below k2;have yA:=yO.s7;clear yO;have kk:=k.trans (k2.mono k.size);clear k2 k oz1 oy1 hO R;have r1:=set_same;have r2:=set_off;have r3:=set_blk;go_wp2;exact bodyPost_ret (v:=T3 (.agg #[I 0,I 0,I 0,I 0,I 0,I 0,.slice none 0 0]) (.agg #[I 0,I 0,I 0,I 0,I 0,I 0,I 0]) (I E)) (by simp [results,Tryz.results35,go_sem, *];try omega) rfl (⟨_,rfl,Sl.nil _ _,below_autor,FarB.nil _ _ _⟩)
theorem Sell_open (x1 x2 x3 x4 x5 x6:Int) (v tv:Value) (xs:List ADebt) (ts:List AStep) (f b d al t m E:Int) (w:World) (h:Sl w v 2 xs.length (xs.flatMap ADebt.cells)) (ht:Sl w tv 2 ts.length (ts.flatMap AStep.cells))
    (B:Hid (∀ W,Sl W v 2 xs.length (xs.flatMap ADebt.cells)→Sl W tv 2 ts.length (ts.flatMap AStep.cells)→Calls Tryz.prog 68 #[.agg #[I x1,I x2,I x3,I x4,I x5,I x6,v],.agg #[tv,I f,I b,I d,I al]] W (Grew (T2 (.pointer none) (I E)) W))) (hE0:¬ E=0):
    Calls Tryz.prog 35 #[.agg #[I x1,I x2,I x3,I x4,I x5,I x6,v],.agg #[tv,I f,I b,I d,I al],I t,I m] w (GrewAccBF ⟨0,0,0,0,0,0⟩ [] ⟨0,0,0,0,0,0,0⟩ E w):=by
  unfold GrewAccBF;simp only at *;obtain ⟨kB,-,ot,oz,oy⟩:=boxes4 w [I x1,I x2,I x3,I x4,I x5,I x6,v] 64 [tv,I f,I b,I d,I al] 24 [I 0,I 0,I 0,I 0,I 0,I 0,.slice none 0 0] 64 [I 0,I 0,I 0,I 0,I 0,I 0,I 0] 39;have hS:=h.below kB;have tS:=ht.below kB;obtain ⟨a,cap,rfl,-⟩:=h;obtain ⟨ta,tcap,rfl,-⟩:=ht;go_enter Tryz.func35,Tryz.ntmps35
  go_wp2_with fail
  refine (B.out _ hS tS).mono ?_;rintro e w1 ⟨rfl,k1⟩;have zO:=oz.below k1;have zA:=zO.s7;clear zO;have yO:=oy.below k1;have yA:=yO.s7;clear yO;have k:=kB.trans (k1.mono kB.size);clear k1 kB oz oy ot hS tS B;have r1:=set_same;have r2:=set_off;have r3:=set_blk;go_wp2;exact bodyPost_ret (v:=T3 (.agg #[I 0,I 0,I 0,I 0,I 0,I 0,.slice none 0 0]) (.agg #[I 0,I 0,I 0,I 0,I 0,I 0,I 0]) (I E)) (by simp [results,Tryz.results35,go_sem, *];try omega) rfl (⟨_,rfl,Sl.nil _ _,below_autor,FarB.nil _ _ _⟩)
theorem Sell_bad (x1 x2 x3 x4 x5 x6 bo:Int) (v tv:Value) (xs ys:List ADebt) (ts:List AStep) (f b d al t m E:Int) (w:World) (h:Sl w v 2 xs.length (xs.flatMap ADebt.cells)) (ht:Sl w tv 2 ts.length (ts.flatMap AStep.cells)) (hT:∀ z,w.heap.size≤z→Far z tv)
    (G:Hid (∀ W,Sl W v 2 xs.length (xs.flatMap ADebt.cells)→Sl W tv 2 ts.length (ts.flatMap AStep.cells)→Calls Tryz.prog 68 #[.agg #[I x1,I x2,I x3,I x4,I x5,I x6,v],.agg #[tv,I f,I b,I d,I al]] W (GrewClerk ⟨x1,x2,x3,x4,x5,x6⟩ xs tv f b d al W)))
    (R:Hid (∀ W g u,Own W g (clerkC ⟨x1,x2,x3,x4,x5,x6⟩ u tv f b d al)→Sl W u 2 xs.length (xs.flatMap ADebt.cells)→Far g u→Calls Tryz.prog 69 #[.pointer (some ⟨g,0,none⟩),I m] W (fun e w'=>∃ v',e=.returned (I 0)∧Own w' g (clerkC ⟨x1,x2,x3,m,bo,x6⟩ v' tv f b d al)∧Sl w' v' 2 ys.length (ys.flatMap ADebt.cells)∧Far g v'∧(∀ B,B≤W.heap.size→FarB B u→FarB B v')∧Chg g W w')))
    (S:Hid (∀ W g u,Own W g (clerkC ⟨x1,x2,x3,m,bo,x6⟩ u tv f b d al)→Sl W u 2 ys.length (ys.flatMap ADebt.cells)→Sl W tv 2 ts.length (ts.flatMap AStep.cells)→Far g tv→Far (W.heap.size+1) tv→Calls Tryz.prog 70 #[.pointer (some ⟨g,0,none⟩),I t] W (GrewSellE g E W))) (hE0:¬ E=0):
    Calls Tryz.prog 35 #[.agg #[I x1,I x2,I x3,I x4,I x5,I x6,v],.agg #[tv,I f,I b,I d,I al],I t,I m] w (GrewAccBF ⟨0,0,0,0,0,0⟩ [] ⟨0,0,0,0,0,0,0⟩ E w):=by
  unfold GrewAccBF;unfold GrewClerk at G;unfold GrewSellE at S;simp only at *;obtain ⟨kB,-,ot,oz,oy⟩:=boxes4 w [I x1,I x2,I x3,I x4,I x5,I x6,v] 64 [tv,I f,I b,I d,I al] 24 [I 0,I 0,I 0,I 0,I 0,I 0,.slice none 0 0] 64 [I 0,I 0,I 0,I 0,I 0,I 0,I 0] 39;have hS:=h.below kB;have tS:=ht.below kB;obtain ⟨a,cap,rfl,-⟩:=h;obtain ⟨ta,tcap,rfl,-⟩:=ht;go_enter Tryz.func35,Tryz.ntmps35
  go_wp2_with fail
  refine (G.out _ hS tS).mono ?_;rintro e w1 ⟨g,u,rfl,hg,hO,hS1,hF,hFB,k1⟩;have oz1:=oz.below k1;have oy1:=oy.below k1;have k:=kB.trans (k1.mono kB.size);have hg2:w.heap.size+4≤g:=by have:=hg;simp at this;omega
  have hk1s:=k1.size;have tS1:=tS.below k1;clear k1 kB oz oy ot hS tS G hg
  go_wp2_with fail
  refine (R.out _ _ _ hO hS1 hF).mono ?_;rintro e w2 ⟨v',rfl,hO2,hS2,hF2,hB2,cg⟩;have hfg:Far g (.slice ta ts.length tcap):=hT g (by omega);have tS2:=tS1.chg (fun _=>hfg) cg;have oz2:=oz1.chg cg (by omega);have oy2:=oy1.chg cg (by omega);have kk:=cg.below k (by omega) k.size;have hsz2:=kk.size;have hg3:g < w2.heap.size:=hO2.lt;clear hO hS1 hF hFB hB2 tS1 oz1 oy1 cg k R hk1s
  go_wp2_with fail
  refine (S.out _ _ _ hO2 hS2 tS2 hfg (hT _ (by omega))).mono ?_;rintro e w3 ⟨rfl,cg3⟩;have zO:=(oz2.chg cg3 (by omega)).alloc (.cells #[I 0,I 0,I 0,I 0,I 0,I 0,I 0] 39);have zA:=zO.s7;clear zO;have yO:=(oy2.chg cg3 (by omega)).alloc (.cells #[I 0,I 0,I 0,I 0,I 0,I 0,I 0] 39);have yA:=yO.s7;clear yO;have k3:=cg3.below kk (by omega) kk.size;have hE1:(E != 0)=true:=by simp [hE0]
  have hz3:w.heap.size+4≤w3.heap.size:=by have:=cg3.size;omega
  clear kk oz2 oy2 hO2 hS2 hF2 tS2 hfg S cg3;have r1:=set_same;have r2:=set_off;have r3:=set_blk;go_wp2;exact bodyPost_ret (v:=T3 (.agg #[I 0,I 0,I 0,I 0,I 0,I 0,.slice none 0 0]) (.agg #[I 0,I 0,I 0,I 0,I 0,I 0,I 0]) (I E)) (by simp [results,Tryz.results35,go_sem, *];try omega) rfl (⟨_,rfl,Sl.nil _ _,below_autor,FarB.nil _ _ _⟩)
theorem Sell_ok (x1 x2 x3 x4 x5 x6 bo:Int) (v tv:Value) (xs ys zs:List ADebt) (ts:List AStep) (f b d al t m:Int) (U p fee Pc ch:Int) (w:World) (h:Sl w v 2 xs.length (xs.flatMap ADebt.cells)) (ht:Sl w tv 2 ts.length (ts.flatMap AStep.cells)) (hT:∀ z,w.heap.size≤z→Far z tv)
    (G:Hid (∀ W,Sl W v 2 xs.length (xs.flatMap ADebt.cells)→Sl W tv 2 ts.length (ts.flatMap AStep.cells)→Calls Tryz.prog 68 #[.agg #[I x1,I x2,I x3,I x4,I x5,I x6,v],.agg #[tv,I f,I b,I d,I al]] W (GrewClerk ⟨x1,x2,x3,x4,x5,x6⟩ xs tv f b d al W)))
    (R:Hid (∀ W g u,Own W g (clerkC ⟨x1,x2,x3,x4,x5,x6⟩ u tv f b d al)→Sl W u 2 xs.length (xs.flatMap ADebt.cells)→Far g u→Calls Tryz.prog 69 #[.pointer (some ⟨g,0,none⟩),I m] W (fun e w'=>∃ v',e=.returned (I 0)∧Own w' g (clerkC ⟨x1,x2,x3,m,bo,x6⟩ v' tv f b d al)∧Sl w' v' 2 ys.length (ys.flatMap ADebt.cells)∧Far g v'∧(∀ B,B≤W.heap.size→FarB B u→FarB B v')∧Chg g W w')))
    (S:Hid (∀ W g u,Own W g (clerkC ⟨x1,x2,x3,m,bo,x6⟩ u tv f b d al)→Sl W u 2 ys.length (ys.flatMap ADebt.cells)→Sl W tv 2 ts.length (ts.flatMap AStep.cells)→Far g tv→Far (W.heap.size+1) tv→Calls Tryz.prog 70 #[.pointer (some ⟨g,0,none⟩),I t] W (GrewSell g ⟨x1,x2,x3+1,m,bo+U,x6⟩ zs ⟨x3,t,p,fee,Pc,ch,U⟩ tv f b d al W))):
    Calls Tryz.prog 35 #[.agg #[I x1,I x2,I x3,I x4,I x5,I x6,v],.agg #[tv,I f,I b,I d,I al],I t,I m] w (GrewAccBF ⟨x1,x2,x3+1,m,bo+U,x6⟩ zs ⟨x3,t,p,fee,Pc,ch,U⟩ 0 w):=by
  unfold GrewAccBF;unfold GrewClerk at G;unfold GrewSell at S;simp only at *;generalize x3+1=n3 at *;generalize bo+U=b5 at *;obtain ⟨kB,-,ot,oz,oy⟩:=boxes4 w [I x1,I x2,I x3,I x4,I x5,I x6,v] 64 [tv,I f,I b,I d,I al] 24 [I 0,I 0,I 0,I 0,I 0,I 0,.slice none 0 0] 64 [I 0,I 0,I 0,I 0,I 0,I 0,I 0] 39;have hS:=h.below kB;have tS:=ht.below kB;obtain ⟨a,cap,rfl,-⟩:=h;obtain ⟨ta,tcap,rfl,-⟩:=ht;go_enter Tryz.func35,Tryz.ntmps35
  go_wp2_with fail
  refine (G.out _ hS tS).mono ?_;rintro e w1 ⟨g,u,rfl,hg,hO,hS1,hF,hFB,k1⟩;have oz1:=oz.below k1;have oy1:=oy.below k1;have k:=kB.trans (k1.mono kB.size);have hg2:w.heap.size+4≤g:=by have:=hg;simp at this;omega
  have hk1s:=k1.size;have tS1:=tS.below k1;clear k1 kB oz oy ot hS tS G hg
  go_wp2_with fail
  refine (R.out _ _ _ hO hS1 hF).mono ?_;rintro e w2 ⟨v',rfl,hO2,hS2,hF2,hB2,cg⟩;have hfg:Far g (.slice ta ts.length tcap):=hT g (by omega);have tS2:=tS1.chg (fun _=>hfg) cg;have oz2:=oz1.chg cg (by omega);have oy2:=oy1.chg cg (by omega);have kk:=cg.below k (by omega) k.size;have hsz2:=kk.size;have hg3:g < w2.heap.size:=hO2.lt;clear hO hS1 hF hFB hB2 tS1 oz1 oy1 cg k R hk1s
  go_wp2_with fail
  refine (S.out _ _ _ hO2 hS2 tS2 hfg (hT _ (by omega))).mono ?_;rintro e w3 ⟨v3,rfl,hO3,hS3,hF3,hFB3,cg3⟩;obtain ⟨a',cap',rfl,-⟩:=id hS3;have hO4:Own w3 g [I x1,I x2,I n3,I m,I b5,I x6,.slice a' zs.length cap',.slice ta ts.length tcap,I f,I b,I d,I al]:=hO3;have hz3:w2.heap.size≤w3.heap.size:=cg3.size;have hgb:g < w3.heap.size:=hO4.lt;have cO:=hO4.alloc (.cells #[I x3,I t,I p,I fee,I Pc,I ch,I U] 39);have cA:=cO.s7;clear cO;have qO:=Own.new (w:=w3) rfl [I x3,I t,I p,I fee,I Pc,I ch,I U] 39;have qA:=qO.s7;clear qO;have zO:=(oz2.chg cg3 (by omega)).alloc (.cells #[I x3,I t,I p,I fee,I Pc,I ch,I U] 39);have zA:=zO.s7;clear zO;have yO:=(oy2.chg cg3 (by omega)).alloc (.cells #[I x3,I t,I p,I fee,I Pc,I ch,I U] 39);have yA:=yO.s7;clear yO;have k3:=cg3.below kk (by omega) kk.size;have hfz:Far (w.heap.size+2) (.slice a' zs.length cap'):=hFB3.far (by omega);have hfy:Far (w.heap.size+3) (.slice a' zs.length cap'):=hFB3.far (by omega);have HS:=Lib.hid (hS3.below (boxed_below w3 (.cells #[I x3,I t,I p,I fee,I Pc,I ch,I U] 39)));have HFB:=Lib.hid (hFB3.mono1 (show w.heap.size≤_ by omega));have HFz:=Lib.hid hfz;have HFy:=Lib.hid hfy;have kz:=k3.alloc k3.size (.cells #[I x3,I t,I p,I fee,I Pc,I ch,I U] 39);have ne1:¬ g=w.heap.size+2:=by omega
  have ne2:¬ g=w.heap.size+3:=by omega
  have ne3:¬ w3.heap.size=w.heap.size+2:=by omega
  have ne4:¬ w3.heap.size=w.heap.size+3:=by omega
  have ne5:¬ w.heap.size+2=w3.heap.size:=by omega
  have ne6:¬ w.heap.size+3=w3.heap.size:=by omega
  clear kk oz2 oy2 hO2 hS2 hF2 tS2 hfg S cg3 hO3 hO4 hS3 hF3 hFB3 hfz hfy;have r1:=set_same;have r2:=set_off;have r3:=set_blk;go_wp2;go_region
  all_goals
    go_wp2;have hfz:=HFz.out;have hfy:=HFy.out;exact bodyPost_ret (v:=T3 (.agg #[I x1,I x2,I n3,I m,I b5,I x6,.slice a' zs.length cap']) (.agg #[I x3,I t,I p,I fee,I Pc,I ch,I U]) (I 0)) (by simp [results,Tryz.results35,go_sem, *];try omega) rfl (⟨_,rfl,(by repeat (first | with_reducible exact HS.out | with_reducible refine Sl.set ?_ (by assumption) _ | with_reducible refine Sl.drew ?_)),below_autor,HFB.out⟩)


theorem most_bd (xs : List AStep) (a m : Int) : 0 ≤ mostU xs a m ∧ mostU xs a m ≤ 2097151 ∧ 0 ≤ mostC xs a m ∧ mostC xs a m ≤ 1000000000000 := by
  by_cases h:mostE xs a m=0
  · obtain ⟨e1,e2⟩:=most_ok h
    rw [e1,e2];unfold mostE at h
    split at h
    · rename_i hu
      split at h
      · rename_i hm
        obtain ⟨m0,m1⟩:=inB_true.1 hm;obtain ⟨hT,a0,a1,-,-,-⟩:=unitsE_ok hu;obtain ⟨k0,k1,k2,-,k4⟩:=most_is hT a0 a1 m0;have h4:=(k4 _ k0 k1 k2).2 (Int.le_refl _);obtain ⟨-,-,hall,-,-⟩:=tariffE_zero hT;have h5:=costN_bd hall a (a+mostA xs a m) (k:=xs.length) (Nat.le_refl _);have h6:costA xs a (a+mostA xs a m)=costN xs a (a+mostA xs a m) xs.length:=rfl;omega
      · omega
    · rename_i hu;exact absurd h hu
  · obtain ⟨e1,e2⟩:=most_err h
    rw [e1,e2];omega
theorem termsE_zero {ts:List AStep} {f b d al:Int} (h:termsE ts f b d al=0):tariffE ts=0∧0≤f∧f≤100000:=by
  unfold termsE at h
  split at h
  · rename_i hT
    split at h
    · rename_i ho
      simp only [termsOk,Bool.and_eq_true,inB_true] at ho;exact ⟨hT,ho.1.1.1.1,ho.1.1.1.2⟩
    · omega
  · rename_i hT;exact absurd h hT
theorem sell_err (g : Nat) (y : AAcc) (v tv : Value) (xs : List ADebt) (ts : List AStep) (f b d al t : Int) (w : World) (hO : Own w g (clerkC y v tv f b d al)) (hS : Sl w v 2 xs.length (xs.flatMap ADebt.cells)) (tS : Sl w tv 2 ts.length (ts.flatMap AStep.cells)) (hFt : Far g tv) (hFtb : Far (w.heap.size + 1) tv)
    (f0:0≤f) (f1:f≤100000) (hE:¬ sellE xs ts y.bought y.next t f b d=0):Calls Tryz.prog 70 #[.pointer (some ⟨g,0,none⟩),I t] w (GrewSellE g (sellE xs ts y.bought y.next t f b d) w):=by
  obtain ⟨y1,y2,y3,y4,y5,y6⟩:=y;have hO':Own w g [I y1,I y2,I y3,I y4,I y5,I y6,v,tv,I f,I b,I d,I al]:=hO;have hd:sellE xs ts y5 y3 t f b d=if inB t 1 100000000 then (if sellU xs ts y5 t f b d=0 then 19 else if 1048575 < y3 then 20 else 0) else 19:=rfl;simp only at hE ⊢;obtain ⟨p0,p1⟩:=recP_bd xs t d;obtain ⟨q0,q1⟩:=partA_bd t b;have R:=Lib.hid (fun W hW=>Recover_any v xs t d W hW);have C:=Lib.hid (fun W=>part_any t b W);cases hi:inB t 1 100000000
  · rw [hd,hi]
    exact sell_tender g t w hi
  · rw [hi, if_pos rfl] at hd
    have hr:sellR xs t f b d=t-recP xs t d-(f+partA t b):=rfl
    by_cases h0:0≤sellR xs t f b d
    · have hU:sellU xs ts y5 t f b d=mostU ts y5 (sellR xs t f b d):=by rw [sellU,if_pos h0]
      have M:=Lib.hid (fun W hW=>Most_any tv ts y5 (sellR xs t f b d) W hW);rw [hr] at h0
      by_cases hz:sellU xs ts y5 t f b d=0
      · rw [if_pos hz] at hd
        rw [hU] at hz;rw [hz] at M;rw [hd];exact sell_zero g y1 y2 y3 y4 y5 y6 v tv xs _ ts f b d al t _ _ _ _ _ _ w hO' hS tS hFt hFtb hi R C M p0 p1 q0 q1 f0 f1 h0
      · rw [if_neg hz] at hd
        by_cases hn:1048575 < y3
        · rw [if_pos hn] at hd
          rw [hU] at hz;rw [hd];exact sell_spent g y1 y2 y3 y4 y5 y6 v tv xs _ ts f b d al t _ _ _ _ _ _ _ w hO' hS tS hFt hFtb hi R C M p0 p1 q0 q1 f0 f1 h0 hz hn
        · rw [if_neg hn] at hd
          exact absurd hd hE
    · have hU:sellU xs ts y5 t f b d=0:=by rw [sellU,if_neg h0]
      rw [if_pos hU] at hd;rw [hd];rw [hr] at h0;exact sell_neg g y1 y2 y3 y4 y5 y6 v tv xs _ ts f b d al t _ _ _ _ w hO' hS tS hFt hFtb hi R C p0 p1 q0 q1 f0 f1 (by omega)
theorem sell_good (g : Nat) (y : AAcc) (v tv : Value) (xs : List ADebt) (ts : List AStep) (f b d al t : Int) (w : World) (hO : Own w g (clerkC y v tv f b d al)) (hS : Sl w v 2 xs.length (xs.flatMap ADebt.cells)) (tS : Sl w tv 2 ts.length (ts.flatMap AStep.cells)) (hFt : Far g tv) (hFtb : Far (w.heap.size + 1) tv)
    (f0:0≤f) (f1:f≤100000) (n0:1≤y.next) (b0:0≤y.bought) (b1:y.bought≤10000000) (hE:sellE xs ts y.bought y.next t f b d=0):
    Calls Tryz.prog 70 #[.pointer (some ⟨g,0,none⟩),I t] w (GrewSell g ⟨y.meter,y.rev,y.next+1,y.month,y.bought+sellU xs ts y.bought t f b d,y.free⟩ (recL xs t d) ⟨y.next,t,recP xs t d,f+partA t b,sellP xs ts y.bought t f b d,sellR xs t f b d-sellP xs ts y.bought t f b d,sellU xs ts y.bought t f b d⟩ tv f b d al w):=by
  obtain ⟨y1,y2,y3,y4,y5,y6⟩:=y;have hO':Own w g [I y1,I y2,I y3,I y4,I y5,I y6,v,tv,I f,I b,I d,I al]:=hO;have hd:sellE xs ts y5 y3 t f b d=if inB t 1 100000000 then (if sellU xs ts y5 t f b d=0 then 19 else if 1048575 < y3 then 20 else 0) else 19:=rfl;simp only at hE n0 b0 b1 ⊢;obtain ⟨p0,p1⟩:=recP_bd xs t d;obtain ⟨q0,q1⟩:=partA_bd t b;have R:=Lib.hid (fun W hW=>Recover_any v xs t d W hW);have C:=Lib.hid (fun W=>part_any t b W);rw [hE] at hd
  split at hd
  · rename_i hi
    split at hd
    · omega
    · rename_i hz
      split at hd
      · omega
      · rename_i hn
        have hr:sellR xs t f b d=t-recP xs t d-(f+partA t b):=rfl
        by_cases h0:0≤sellR xs t f b d
        · have hU:sellU xs ts y5 t f b d=mostU ts y5 (sellR xs t f b d):=by rw [sellU,if_pos h0]
          have hP:sellP xs ts y5 t f b d=mostC ts y5 (sellR xs t f b d):=by rw [sellP,if_pos h0]
          have M:=Lib.hid (fun W hW=>Most_any tv ts y5 (sellR xs t f b d) W hW);obtain ⟨u0,u1,c0,c1⟩:=most_bd ts y5 (sellR xs t f b d);rw [hU,hP];rw [hU] at hz;rw [hr] at h0;exact sell_ok g y1 y2 y3 y4 y5 y6 v tv xs _ ts f b d al t _ _ _ _ _ _ _ w hO' hS tS hFt hFtb hi R C M p0 p1 q0 q1 f0 f1 h0 hz hn n0 b0 b1 u0 u1 c0 c1
        · have hU:sellU xs ts y5 t f b d=0:=by rw [sellU,if_neg h0]
          exact absurd hU hz
  · omega
theorem Sell_any (x : AAcc) (v tv : Value) (xs : List ADebt) (ts : List AStep) (f b d al t m : Int) (w : World) (h : Sl w v 2 xs.length (xs.flatMap ADebt.cells)) (ht : Sl w tv 2 ts.length (ts.flatMap AStep.cells)) :
    Calls Tryz.prog 35 #[.agg #[I x.meter,I x.rev,I x.next,I x.month,I x.bought,I x.free,v],.agg #[tv,I f,I b,I d,I al],I t,I m] w (GrewAccBF (soldX x xs ts f b d t m (soldE x xs ts f b d al t m)) (soldL x xs d t m (soldE x xs ts f b d al t m)) (soldB x xs ts f b d t m (soldE x xs ts f b d al t m)) (soldE x xs ts f b d al t m) w):=by
  have hr:soldE x xs ts f b d al t m=if openErr x xs ts f b d al=0 then (if rollE x m=0 then sellE (rollL x xs m) ts (rollX x m).bought x.next t f b d else rollE x m) else openErr x xs ts f b d al:=rfl
  by_cases h1:openErr x xs ts f b d al=0
  · rw [if_pos h1] at hr
    have c0:accMay x xs=true:=by
      unfold openErr at h1;cases c:accMay x xs
      · rw [c] at h1;simp at h1
      · rfl
    have hterm:termsE ts f b d al=0:=by unfold openErr at h1;rwa [c0,if_pos rfl] at h1
    obtain ⟨hT,f0,f1⟩:=termsE_zero hterm;obtain ⟨l0,-,-,-,-⟩:=tariffE_zero hT;obtain ⟨-,-,-,-,b5,b6,-,-,b7,b8,-⟩:=accMay_bd c0
    have hb:0≤(rollX x m).bought∧(rollX x m).bought≤10000000:=by
      show 0≤(if m=x.month then x.bought else 0)∧(if m=x.month then x.bought else 0)≤10000000
      split<;>omega
    have hFar:∀ z,w.heap.size≤z→Far z tv:=fun z hz=>ht.farNew hz (by omega);have G:=Lib.hid (fun W hS tS=>open_good x v tv xs ts f b d al W hS tS h1)
    by_cases h2:rollE x m=0
    · rw [if_pos h2] at hr
      have R:=Lib.hid (fun W g u hO hS hF=>roll_good g x u tv xs f b d al m W hO hS hF c0 h2);unfold GrewRoll at R
      by_cases h3:sellE (rollL x xs m) ts (rollX x m).bought x.next t f b d=0
      · rw [h3] at hr
        rw [hr];have S:=Lib.hid (fun W g u hO hS tS h1 h2=>sell_good g (rollX x m) u tv (rollL x xs m) ts f b d al t W hO hS tS h1 h2 f0 f1 b5 hb.1 hb.2 h3);have e1:soldX x xs ts f b d t m 0=⟨x.meter,x.rev,x.next+1,m,(rollX x m).bought+sellU (rollL x xs m) ts (rollX x m).bought t f b d,x.free⟩:=by simp [soldX]
        have e2:soldL x xs d t m 0=recL (rollL x xs m) t d:=by simp [soldL]
        have e3:soldB x xs ts f b d t m 0=⟨x.next,t,recP (rollL x xs m) t d,f+partA t b,sellP (rollL x xs m) ts (rollX x m).bought t f b d,sellR (rollL x xs m) t f b d-sellP (rollL x xs m) ts (rollX x m).bought t f b d,sellU (rollL x xs m) ts (rollX x m).bought t f b d⟩:=by simp [soldB]
        rw [e1,e2,e3];exact Sell_ok x.meter x.rev x.next x.month x.bought x.free (rollX x m).bought v tv xs (rollL x xs m) _ ts f b d al t m _ _ _ _ _ w h ht hFar G R S
      · obtain ⟨e1,e2,e3⟩:=sold_err x xs ts f b d t m (E:=soldE x xs ts f b d al t m) (by rw [hr];exact h3)
        rw [e1,e2,e3,hr];have S:=Lib.hid (fun W g u hO hS tS h1 h2=>sell_err g (rollX x m) u tv (rollL x xs m) ts f b d al t W hO hS tS h1 h2 f0 f1 h3);exact Sell_bad x.meter x.rev x.next x.month x.bought x.free (rollX x m).bought v tv xs (rollL x xs m) ts f b d al t m _ w h ht hFar G R S h3
    · rw [if_neg h2] at hr
      obtain ⟨e1,e2,e3⟩:=sold_err x xs ts f b d t m (E:=soldE x xs ts f b d al t m) (by rw [hr];exact h2);rw [e1,e2,e3,hr];exact Sell_roll x.meter x.rev x.next x.month x.bought x.free v tv xs ts f b d al t m (rollE x m) w h ht G (Lib.hid (fun W g u hO=>roll_bad g x u tv f b d al m W hO h2)) h2
  · rw [if_neg h1] at hr
    obtain ⟨e1,e2,e3⟩:=sold_err x xs ts f b d t m (E:=soldE x xs ts f b d al t m) (by rw [hr];exact h1);rw [e1,e2,e3,hr];exact Sell_open x.meter x.rev x.next x.month x.bought x.free v tv xs ts f b d al t m (openErr x xs ts f b d al) w h ht (Lib.hid (fun W hS tS=>open_bad x v tv xs ts f b d al W hS tS h1)) h1

end Go.Proofs.YtdjgcenjonegjaaGreat
