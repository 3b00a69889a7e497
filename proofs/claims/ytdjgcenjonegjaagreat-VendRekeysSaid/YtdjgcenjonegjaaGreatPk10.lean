/- the clerk's roll · account.Roll · account.Grant: what it answers; what fails early · cents.Part and its reference: the contracts · the share of a sale that goes to debts -/
import Derived.Test.YtdjgcenjonegjaaGreatPk09
import Derived.Test.YtdjgcenjonegjaaGreatPk01
import Derived.Test.YtdjgcenjonegjaaGreatPk05
set_option maxRecDepth 20000
set_option maxHeartbeats 8000000
set_option linter.unusedSimpArgs false
set_option linter.unusedVariables false
namespace Go.Proofs.YtdjgcenjonegjaaGreat
section
open Go.RowKit

def rollE (x:AAcc) (m:Int):Int:=if inB m 0 2399 then (if m < x.month then 23 else 0) else 2
def rollX (x:AAcc) (m:Int):AAcc:=⟨x.meter,x.rev,x.next,m,if m=x.month then x.bought else 0,x.free⟩
def rollL (x:AAcc) (xs:List ADebt) (m:Int):List ADebt:=if m=x.month then xs else ageL xs (m-x.month)
theorem rollE_zero {x:AAcc} {m:Int} (h:rollE x m=0):0≤m∧m≤2399∧x.month≤m:=by
  unfold rollE at h
  split at h
  · rename_i h1
    rw [inB_true] at h1
    split at h
    · omega
    · omega
  · omega
theorem accMay_debt {x:AAcc} {xs:List ADebt} (h:accMay x xs=true):debtE xs=0:=by
  simp only [accMay,Bool.and_eq_true] at h
  first | exact h.1.1.1.1.1.1 | (simp_all)
def GrewRoll (g:Nat) (x:AAcc) (xs:List ADebt) (m:Int) (u tv:Value) (f b d al:Int) (w:World) (e:Ending) (w':World):Prop:=
  ∃ v,e=.returned (I 0)∧Own w' g (clerkC (rollX x m) v tv f b d al)∧Sl w' v 2 (rollL x xs m).length ((rollL x xs m).flatMap ADebt.cells)∧Far g v∧(∀ B,B≤w.heap.size→FarB B u→FarB B v)∧Chg g w w'
theorem roll_bad (g:Nat) (x:AAcc) (v tv:Value) (f b d al m:Int) (w:World) (hO:Own w g (clerkC x v tv f b d al)) (hE:rollE x m≠0):
    Calls Tryz.prog 69 #[.pointer (some ⟨g,0,none⟩),I m] w (Grew (I (rollE x m)) w):=by
  have HEE:=Lib.hid (show rollE x m=if inB m 0 2399 then (if m < x.month then 23 else 0) else 2 from rfl);generalize rollE x m=E at *;obtain ⟨x1,x2,x3,x4,x5,x6⟩:=x;have hO':Own w g [I x1,I x2,I x3,I x4,I x5,I x6,v,tv,I f,I b,I d,I al]:=hO;clear hO;have cO:=hO';have cA:=cO.s12;clear cO;simp only at HEE;cases hi:inB m 0 2399
  · have hr:=HEE.out
    simp only [hi,Bool.false_eq_true,if_false] at hr;subst hr;clear HEE hE hO';go_enter Tryz.func69,Tryz.ntmps69
    go_wp2_with (go_at_call 110;refine (awithin_any _ _ _ _).mono ?_;rintro e w' ⟨rfl,rfl⟩)
    go_ret;exact Grew.intro rfl below_auto
  · have hr:=HEE.out
    simp only [hi,if_true] at hr
    have hlt:m < x4:=by
      refine Decidable.byContradiction fun h=>hE ?_
      rw [hr,if_neg h]
    rw [if_pos hlt] at hr;subst hr;clear HEE hE hO';go_enter Tryz.func69,Tryz.ntmps69
    go_wp2_with (go_at_call 110;refine (awithin_any _ _ _ _).mono ?_;rintro e w' ⟨rfl,rfl⟩)
    go_ret;exact Grew.intro rfl below_auto
theorem roll_good (g:Nat) (x:AAcc) (v tv:Value) (xs:List ADebt) (f b d al m:Int) (w:World) (hO:Own w g (clerkC x v tv f b d al)) (hS:Sl w v 2 xs.length (xs.flatMap ADebt.cells)) (hF:Far g v) (hmay:accMay x xs=true) (hE:rollE x m=0):
    Calls Tryz.prog 69 #[.pointer (some ⟨g,0,none⟩),I m] w (GrewRoll g x xs m v tv f b d al w):=by
  obtain ⟨m0,m1,m2⟩:=rollE_zero hE;have hdebt:=accMay_debt hmay;obtain ⟨-,-,-,-,-,-,b7,b8,-⟩:=accMay_bd hmay;have hi:inB m 0 2399=true:=inB_true.2 ⟨m0,m1⟩;clear hE hmay;obtain ⟨x1,x2,x3,x4,x5,x6⟩:=x;simp only at m2 b7 b8;have hO':Own w g [I x1,I x2,I x3,I x4,I x5,I x6,v,tv,I f,I b,I d,I al]:=hO
  by_cases hmm:m=x4
  · subst hmm
    have e1:rollX ⟨x1,x2,x3,m,x5,x6⟩ m=⟨x1,x2,x3,m,x5,x6⟩:=by simp [rollX]
    have e2:rollL ⟨x1,x2,x3,m,x5,x6⟩ xs m=xs:=by simp [rollL]
    have hfin:Hid (∀ q,GrewRoll g ⟨x1,x2,x3,m,x5,x6⟩ xs m v tv f b d al w (.returned (I 0)) (w.drewN q)):=fun q=>by
      unfold GrewRoll;rw [e1,e2];exact ⟨v,rfl,hO.drewN q,hS,hF,fun _ _ h=>h,(Chg.refl g w).drewN q⟩
    have cO:=hO';have cfA:=cO.f;have c0:=cO.c0;have c1:=cO.c1;have c2:=cO.c2;have c3:=cO.c3;have c4:=cO.c4;have c5:=cO.c5;have c6:=cO.c6;have c7:=cO.c7;have c8:=cO.c8;have c9:=cO.c9;have c10:=cO.c10;have c11:=cO.c11;clear cO;clear e1 e2 hO hO' hS hF;have hge:¬ m < m:=by omega
    go_enter Tryz.func69,Tryz.ntmps69
    go_wp2_with (go_at_call 110;refine (awithin_any _ _ _ _).mono ?_;rintro e w' ⟨rfl,rfl⟩)
    go_ret;exact hfin.out 0
  · have hlt:x4 < m:=by omega
    have hge:¬ m < x4:=by omega
    have hA0:ageE xs (m-x4)=0:=by
      unfold ageE;rw [if_pos hdebt,if_pos (inB_true.2 ⟨by omega,by omega⟩)]
    have e1:rollX ⟨x1,x2,x3,x4,x5,x6⟩ m=⟨x1,x2,x3,m,0,x6⟩:=by simp [rollX,hmm]
    have e2:rollL ⟨x1,x2,x3,x4,x5,x6⟩ xs m=ageL xs (m-x4):=by simp [rollL,hmm]
    have hgl:=hO'.lt;have A:=Lib.hid (fun W hW=>AgeF_any v xs (m-x4) W hW);rw [hA0] at A;have hwr:IntKind.i64.wrap (m-x4)=m-x4:=wrap_small _ (by omega) (by omega);have HS:=Lib.hid hS;have HE12:=Lib.hid (And.intro e1 e2);generalize ageL xs (m-x4)=ys at *;obtain ⟨a,cap,rfl,-⟩:=hS;have cO:=hO';have cfA:=cO.f;have c0:=cO.c0;have c1:=cO.c1;have c2:=cO.c2;have c3:=cO.c3;have c4:=cO.c4;have c5:=cO.c5;have c6:=cO.c6;have c7:=cO.c7;have c8:=cO.c8;have c9:=cO.c9;have c10:=cO.c10;have c11:=cO.c11;clear cO;have HO:=Lib.hid hO';clear hA0 hO hO' hF hdebt e1 e2 c0 c1 c2 c4 c5 c7 c8 c9 c10 c11 cfA;go_enter Tryz.func69,Tryz.ntmps69
    go_wp2_with (go_at_call 110;refine (awithin_any _ _ _ _).mono ?_;rintro e w' ⟨rfl,rfl⟩)
    refine AnyC.begin 20 (fun w'=>w'.cell? ⟨g,3,none⟩=some (I x4)∧w'.cell? ⟨g,6,none⟩=some (.slice a xs.length cap)) (by kernel_rfl) ?_;have HH:(fun w'=>w'.cell? ⟨g,3,none⟩=some (I x4)∧w'.cell? ⟨g,6,none⟩=some (.slice a xs.length cap)) w.drew:=⟨c3,c6⟩;refine AnyC.tk 0 ?_ HH ?_ ?_;rotate_left
    · (intro w hSw;(try dsimp only at hSw);first | (go_simp;done) | (go_simp;with_reducible rfl))
    (try simp only [Act.put,List.setIfInBounds_toArray]);refine AnyC.tk 1 ?_ HH ?_ ?_;rotate_left
    · (intro w hSw;(try dsimp only at hSw);first | (go_simp;done) | (go_simp;with_reducible rfl))
    (try simp only [Act.put]);refine AnyC.tk 2 ?_ HH ?_ ?_;rotate_left
    · (intro w hSw;(try dsimp only at hSw);first | (go_simp;done) | (go_simp;with_reducible rfl))
    (try simp only [Act.put]);refine AnyC.tk 3 ?_ HH ?_ ?_;rotate_left
    · (intro w hSw;(try dsimp only at hSw);first | (go_simp;done) | (go_simp;with_reducible rfl))
    (try simp only [Act.put]);refine AnyC.tk 4 ?_ HH ?_ ?_;rotate_left
    · (intro w hSw;(try dsimp only at hSw);first | (go_simp;done) | (go_simp;with_reducible rfl))
    (try simp only [Act.put]);refine AnyC.tk 5 ?_ HH ?_ ?_;rotate_left
    · (intro w hSw;(try dsimp only at hSw);first | (go_simp;done) | (go_simp;with_reducible rfl))
    (try simp only [Act.put]);refine AnyC.tk 6 ?_ HH ?_ ?_;rotate_left
    · (intro w hSw;(try dsimp only at hSw);first | (go_simp;done) | (go_simp;with_reducible rfl))
    (try simp only [Act.put]);refine AnyC.tk 7 ?_ HH ?_ ?_;rotate_left
    · (intro w hSw;(try dsimp only at hSw);first | (go_simp;done) | (go_simp;with_reducible rfl))
    (try simp only [Act.put]);refine AnyC.tk 8 ?_ HH ?_ ?_;rotate_left
    · (intro w hSw;(try dsimp only at hSw);first | (go_simp;done) | (go_simp;with_reducible rfl))
    (try simp only [Act.put]);refine AnyC.tk 9 ?_ HH ?_ ?_;rotate_left
    · (intro w hSw;(try dsimp only at hSw);first | (go_simp;done) | (go_simp;with_reducible rfl))
    (try simp only [Act.put]);refine AnyC.tk 10 ?_ HH ?_ ?_;rotate_left
    · (intro w hSw;(try dsimp only at hSw);first | (go_simp;done) | (go_simp;with_reducible rfl))
    (try simp only [Act.put]);refine AnyC.tk 11 ?_ HH ?_ ?_;rotate_left
    · (intro w hSw;(try dsimp only at hSw);first | (go_simp;done) | (go_simp;with_reducible rfl))
    (try simp only [Act.put]);refine AnyC.tk 12 ?_ HH ?_ ?_;rotate_left
    · (intro w hSw;(try dsimp only at hSw);first | (go_simp;done) | (go_simp;with_reducible rfl))
    (try simp only [Act.put]);refine AnyC.one (i:=13) (by kernel_rfl) (by rfl) (fun K hK=>?_);go_simp;(with_reducible refine (A.out _ ?_).mono ?_)
    · exact HS.out
    rintro e w1 ⟨v',rfl,h1,k1,hF1⟩;have k1':Below w.heap.size w w1:=⟨k1.os,k1.tape,k1.output,k1.size,k1.block⟩;have h1':=h1;obtain ⟨a1,cap1,rfl,-⟩:=h1';have o1:=HO.out.below k1';have gx3:w1.cell? ⟨g,3,none⟩=some (I x4):=(k1'.cell (p:=⟨g,3,none⟩) hgl).trans c3;have gx6:w1.cell? ⟨g,6,none⟩=some (.slice a xs.length cap):=(k1'.cell (p:=⟨g,6,none⟩) hgl).trans c6;have gx4:w1.cell? ⟨g,4,none⟩=some (I x5):=o1.cell 4 (by simp);have gf3:=o1.frozen 3;have gf4:=o1.frozen 4;have gf6:=o1.frozen 6;have hFg:Far g (.slice a1 ys.length cap1):=hF1.far hgl
    have HR:=Lib.hid (show GrewRoll g ⟨x1,x2,x3,x4,x5,x6⟩ xs m (.slice a xs.length cap) tv f b d al w (.returned (I 0)) (((w1.setCell ⟨g,6,none⟩ (.slice a1 ys.length cap1)).setCell ⟨g,3,none⟩ (I m)).setCell ⟨g,4,none⟩ (I 0)) by
      unfold GrewRoll;rw [HE12.out.1,HE12.out.2];exact ⟨_,rfl,((o1.set 6 _).set 3 (I m)).set 4 (I 0),((h1.set hFg _).set hFg _).set hFg _,hFg,(fun B hB _ a n c e=>Nat.le_trans hB (hF1 a n c e)),(((Chg.of_below k1').set 6 _).set 3 (I m)).set 4 (I 0)⟩)
    go_wp2_with fail
    refine hK.out _ _ (fun _ _=>⟨gx3,gx6⟩) ?_;clear hK K;(try simp only [Act.put]);refine AnyC.one (i:=14) (by kernel_rfl) (by rfl) (fun K hK=>?_);go_simp;refine hK.out _ _ (fun _ _=>⟨gx3,gx6⟩) ?_;clear hK K;(try simp only [Act.put]);have HH:(fun w'=>w'.cell? ⟨g,3,none⟩=some (I x4)∧w'.cell? ⟨g,6,none⟩=some (.slice a xs.length cap)) w1:=⟨gx3,gx6⟩;refine AnyC.tk 15 ?_ HH ?_ ?_;rotate_left
    · (intro w hSw;(try dsimp only at hSw);first | (go_simp;done) | (go_simp;with_reducible rfl))
    (try simp only [Act.put]);refine AnyC.tk 17 ?_ HH ?_ ?_;rotate_left
    · (intro w hSw;(try dsimp only at hSw);first | (go_simp;done) | (go_simp;with_reducible rfl))
    (try simp only [Act.put]);refine AnyC.tk 18 ?_ HH ?_ ?_;rotate_left
    · (intro w hSw;(try dsimp only at hSw);first | (go_simp;done) | (go_simp;with_reducible rfl))
    (try simp only [Act.put]);refine AnyC.tk 19 ?_ HH ?_ ?_;rotate_left
    · (intro w hSw;(try dsimp only at hSw);first | (go_simp;done) | (go_simp;with_reducible rfl))
    (try simp only [Act.put]);have r1:=set_same;have r2:=set_off;refine AnyC.two (i:=16) (j:=20) (by kernel_rfl) (by rfl) (by rfl) (fun K hK=>?_) (fun K hK=>?_)
    · go_simp
      refine hK.out _ _ (fun _ _=>⟨gx3,gx6⟩) ?_;clear hK K;(try simp only [Act.put]);refine AnyC.one (i:=20) (by kernel_rfl) (by rfl) (fun K hK=>?_);go_simp;refine hK.out _ _ (fun h=>absurd rfl h) ?_;clear hK K;refine AnyC.done (by kernel_rfl) ?_ _;clear HH gx6 c3 c6 h1 hF1 o1 k1 k1' hFg HO HS;go_wp2;go_ret;exact HR.out
    · go_simp
      refine hK.out _ _ (fun h=>absurd rfl h) ?_;clear hK K;(try simp only [Act.put]);refine AnyC.one (i:=16) (by kernel_rfl) (by rfl) (fun K hK=>?_);go_simp;refine hK.out _ _ (fun _ h=>by simp at h) ?_;clear hK K;refine AnyC.done (by kernel_rfl) ?_ _;clear HH gx6 c3 c6 h1 hF1 o1 k1 k1' hFg HO HS;go_wp2;go_ret;exact HR.out
end
section
open Go.RowKit

def rolledE (x:AAcc) (xs:List ADebt) (m:Int):Int:=if accMay x xs then rollE x m else 5
def rolledX (x:AAcc) (xs:List ADebt) (m:Int):AAcc:=if rolledE x xs m=0 then rollX x m else ⟨0,0,0,0,0,0⟩
def rolledL (x:AAcc) (xs:List ADebt) (m:Int):List ADebt:=if rolledE x xs m=0 then rollL x xs m else []
theorem rolled_err {x:AAcc} {xs:List ADebt} {m:Int} (h:rolledE x xs m≠0):rolledX x xs m=⟨0,0,0,0,0,0⟩∧rolledL x xs m=[]:=by simp [rolledX,rolledL,h]
theorem rolled_ok {x:AAcc} {xs:List ADebt} {m:Int} (h:rolledE x xs m=0):rolledX x xs m=rollX x m∧rolledL x xs m=rollL x xs m:=by simp [rolledX,rolledL,h]
end
section
open Go.RowKit

def grantE (x:AAcc) (xs:List ADebt) (ts:List AStep) (f b d al m:Int):Int:=
  if openErr x xs ts f b d al=0 then (if rollE x m=0 then (if al=0 then 22 else if x.free=m then 21 else if x.next=1048576 then 20 else 0) else rollE x m) else openErr x xs ts f b d al
def grantX (x:AAcc) (m:Int) (E:Int):AAcc:=if E=0 then ⟨x.meter,x.rev,x.next+1,m,(rollX x m).bought,m⟩ else ⟨0,0,0,0,0,0⟩
def grantL (x:AAcc) (xs:List ADebt) (m E:Int):List ADebt:=if E=0 then rollL x xs m else []
def grantB (x:AAcc) (al E:Int):ABill:=if E=0 then ⟨x.next,0,0,0,0,0,al⟩ else ⟨0,0,0,0,0,0,0⟩
theorem FarB.mono1 {B C:Nat} {v:Value} (h:FarB B v) (hC:C≤B):FarB C v:=fun a n c e=>Nat.le_trans hC (h a n c e)
theorem grant_err (x:AAcc) (xs:List ADebt) (m al:Int) {E:Int} (h:E≠0):grantX x m E=⟨0,0,0,0,0,0⟩∧grantL x xs m E=[]∧grantB x al E=⟨0,0,0,0,0,0,0⟩:=by simp [grantX,grantL,grantB,h]

theorem Grant_roll (x1 x2 x3 x4 x5 x6:Int) (v tv:Value) (xs:List ADebt) (ts:List AStep) (f b d al m E:Int) (w:World) (h:Sl w v 2 xs.length (xs.flatMap ADebt.cells)) (ht:Sl w tv 2 ts.length (ts.flatMap AStep.cells))
    (G:Hid (∀ W,Sl W v 2 xs.length (xs.flatMap ADebt.cells)→Sl W tv 2 ts.length (ts.flatMap AStep.cells)→Calls Tryz.prog 68 #[.agg #[I x1,I x2,I x3,I x4,I x5,I x6,v],.agg #[tv,I f,I b,I d,I al]] W (GrewClerk ⟨x1,x2,x3,x4,x5,x6⟩ xs tv f b d al W)))
    (R:Hid (∀ W g u,Own W g (clerkC ⟨x1,x2,x3,x4,x5,x6⟩ u tv f b d al)→Calls Tryz.prog 69 #[.pointer (some ⟨g,0,none⟩),I m] W (Grew (I E) W))) (hE0:¬ E=0):
    Calls Tryz.prog 37 #[.agg #[I x1,I x2,I x3,I x4,I x5,I x6,v],.agg #[tv,I f,I b,I d,I al],I m] w (GrewAccBF ⟨0,0,0,0,0,0⟩ [] ⟨0,0,0,0,0,0,0⟩ E w):=by
  unfold GrewAccBF;unfold GrewClerk at G;simp only at *;obtain ⟨kB,-,ot,oz,oy⟩:=boxes4 w [I x1,I x2,I x3,I x4,I x5,I x6,v] 64 [tv,I f,I b,I d,I al] 24 [I 0,I 0,I 0,I 0,I 0,I 0,.slice none 0 0] 64 [I 0,I 0,I 0,I 0,I 0,I 0,I 0] 39;have hS:=h.below kB;have tS:=ht.below kB;obtain ⟨a,cap,rfl,-⟩:=h;obtain ⟨ta,tcap,rfl,-⟩:=ht;go_enter Tryz.func37,Tryz.ntmps37
  go_wp2_with fail
  refine (G.out _ hS tS).mono ?_;rintro e w1 ⟨g,u,rfl,hg,hO,hS1,hF,hFB,k1⟩;have oz1:=oz.below k1;have oy1:=oy.below k1;have k:=kB.trans (k1.mono kB.size);clear k1 kB oz oy ot hS tS G hS1 hF hFB hg
  go_wp2_with fail
  refine (R.out _ _ _ hO).mono ?_;rintro e w2 ⟨rfl,k2⟩;have zO:=oz1.below k2;have zA:=zO.s7;clear zO;have yO:=oy1.below k2;have yA:=yO.s7;clear yO;have kk:=k.trans (k2.mono k.size);clear k2 k oz1 oy1 hO R;have r1:=set_same;have r2:=set_off;have r3:=set_blk;go_wp2;exact bodyPost_ret (v:=T3 (.agg #[I 0,I 0,I 0,I 0,I 0,I 0,.slice none 0 0]) (.agg #[I 0,I 0,I 0,I 0,I 0,I 0,I 0]) (I E)) (by simp [results,Tryz.results37,go_sem, *];try omega) rfl (⟨_,rfl,Sl.nil _ _,below_autor,FarB.nil _ _ _⟩)
theorem Grant_open (x1 x2 x3 x4 x5 x6:Int) (v tv:Value) (xs:List ADebt) (ts:List AStep) (f b d al m E:Int) (w:World) (h:Sl w v 2 xs.length (xs.flatMap ADebt.cells)) (ht:Sl w tv 2 ts.length (ts.flatMap AStep.cells))
    (B:Hid (∀ W,Sl W v 2 xs.length (xs.flatMap ADebt.cells)→Sl W tv 2 ts.length (ts.flatMap AStep.cells)→Calls Tryz.prog 68 #[.agg #[I x1,I x2,I x3,I x4,I x5,I x6,v],.agg #[tv,I f,I b,I d,I al]] W (Grew (T2 (.pointer none) (I E)) W))) (hE0:¬ E=0):
    Calls Tryz.prog 37 #[.agg #[I x1,I x2,I x3,I x4,I x5,I x6,v],.agg #[tv,I f,I b,I d,I al],I m] w (GrewAccBF ⟨0,0,0,0,0,0⟩ [] ⟨0,0,0,0,0,0,0⟩ E w):=by
  unfold GrewAccBF;simp only at *;obtain ⟨kB,-,ot,oz,oy⟩:=boxes4 w [I x1,I x2,I x3,I x4,I x5,I x6,v] 64 [tv,I f,I b,I d,I al] 24 [I 0,I 0,I 0,I 0,I 0,I 0,.slice none 0 0] 64 [I 0,I 0,I 0,I 0,I 0,I 0,I 0] 39;have hS:=h.below kB;have tS:=ht.below kB;obtain ⟨a,cap,rfl,-⟩:=h;obtain ⟨ta,tcap,rfl,-⟩:=ht;go_enter Tryz.func37,Tryz.ntmps37
  go_wp2_with fail
  refine (B.out _ hS tS).mono ?_;rintro e w1 ⟨rfl,k1⟩;have zO:=oz.below k1;have zA:=zO.s7;clear zO;have yO:=oy.below k1;have yA:=yO.s7;clear yO;have k:=kB.trans (k1.mono kB.size);clear k1 kB oz oy ot hS tS B;have r1:=set_same;have r2:=set_off;have r3:=set_blk;go_wp2;exact bodyPost_ret (v:=T3 (.agg #[I 0,I 0,I 0,I 0,I 0,I 0,.slice none 0 0]) (.agg #[I 0,I 0,I 0,I 0,I 0,I 0,I 0]) (I E)) (by simp [results,Tryz.results37,go_sem, *];try omega) rfl (⟨_,rfl,Sl.nil _ _,below_autor,FarB.nil _ _ _⟩)
end
section
open Go.RowKit

theorem within_any (n low high:Int) (w:World):Calls Tryz.prog 153 #[I n,I low,I high] w (Pure (.bool (inB n low high)) w):=by
  go_enter Tryz.func153,Tryz.ntmps153;go_wp2
  all_goals
    go_ret;refine Pure.intro ?_;simp only [inB];simp [*]
    try omega

def partOk (a b:Int):Bool:=inB a 0 1000000000000&&inB b 0 10000
def partA (a b:Int):Int:=if partOk a b then a*b / 10000 else 0
def partE (a b:Int):Int:=if partOk a b then 0 else 2

theorem mul_le (a b:Int) (h0:0≤a) (h1:a≤1000000000000) (g0:0≤b) (g1:b≤10000):0≤a*b∧a*b≤10000000000000000:=by
  refine ⟨Int.mul_nonneg h0 g0,?_⟩
  calc a*b≤a*10000:=Int.mul_le_mul_of_nonneg_left g1 h0
    _≤1000000000000*10000:=by omega

theorem part_any (a b:Int) (w:World):Calls Tryz.prog 119 #[I a,I b] w (Pure (T2 (I (partA a b)) (I (partE a b))) w):=by
  by_cases ha:inB a 0 1000000000000=true
  · by_cases hb:inB b 0 10000=true
    · have ha':=inB_true.1 ha
      have hb':=inB_true.1 hb;have hm:=mul_le a b ha'.1 ha'.2 hb'.1 hb'.2;have hm0:=hm.1;have hm1:=hm.2;go_enter Tryz.func119,Tryz.ntmps119
      go_wp2_with (go_at_call 153;refine (within_any _ _ _ _).mono ?_;rintro e w' ⟨rfl,rfl⟩)
      go_ret2;refine Pure.intro (eI2 ?_ ?_)<;>simp [partA,partE,partOk,ha,hb]
    · simp only [Bool.not_eq_true] at hb
      go_enter Tryz.func119,Tryz.ntmps119
      go_wp2_with (go_at_call 153;refine (within_any _ _ _ _).mono ?_;rintro e w' ⟨rfl,rfl⟩)
      go_ret2;refine Pure.intro (eI2 ?_ ?_)<;>simp [partA,partE,partOk,ha,hb]
  · simp only [Bool.not_eq_true] at ha
    go_enter Tryz.func119,Tryz.ntmps119
    go_wp2_with (go_at_call 153;refine (within_any _ _ _ _).mono ?_;rintro e w' ⟨rfl,rfl⟩)
    go_ret2;refine Pure.intro (eI2 ?_ ?_)<;>simp [partA,partE,partOk,ha]

theorem mul_eq (a b:Int):a / 10000*b+a%10000*b / 10000=a*b / 10000:=by
  have h:a*b=10000*(a / 10000*b)+a%10000*b:=by
    conv=>lhs;rw [← Int.mul_ediv_add_emod a 10000]
    rw [Int.add_mul,Int.mul_assoc]
  rw [h,Int.add_comm (10000*_),Int.add_mul_ediv_left _ _ (by decide),Int.add_comm]

theorem parted_any (a b:Int) (w:World):Calls Tryz.prog 59 #[I a,I b] w (Pure (T2 (I (partA a b)) (I (partE a b))) w):=by
  by_cases ha:inB a 0 1000000000000=true
  · by_cases hb:inB b 0 10000=true
    · have ha':=inB_true.1 ha
      have hb':=inB_true.1 hb;obtain ⟨h0,h1⟩:=ha';have hm:=mul_le (a / 10000) b (by omega) (by omega) hb'.1 hb'.2;have hm0:=hm.1;have hm1:=hm.2;have hn:=mul_le (a%10000) b (by omega) (by omega) hb'.1 hb'.2;have hn0:=hn.1;have hn1:=hn.2;go_enter Tryz.func59,Tryz.ntmps59
      go_wp2_with (go_at_call 57;refine (In_any _ _ _ _).mono ?_;rintro e w' ⟨rfl,rfl⟩)
      go_ret2;refine Pure.intro (eI2 ?_ ?_)
      · rw [mul_eq];simp [partA,partOk,ha,hb]
      · simp [partE,partOk,ha,hb]
    · simp only [Bool.not_eq_true] at hb
      go_enter Tryz.func59,Tryz.ntmps59
      go_wp2_with (go_at_call 57;refine (In_any _ _ _ _).mono ?_;rintro e w' ⟨rfl,rfl⟩)
      go_ret2;refine Pure.intro (eI2 ?_ ?_)<;>simp [partA,partE,partOk,ha,hb]
  · simp only [Bool.not_eq_true] at ha
    go_enter Tryz.func59,Tryz.ntmps59
    go_wp2_with (go_at_call 57;refine (In_any _ _ _ _).mono ?_;rintro e w' ⟨rfl,rfl⟩)
    go_ret2;refine Pure.intro (eI2 ?_ ?_)<;>simp [partA,partE,partOk,ha]


theorem partA_bd (a b:Int):0≤partA a b∧partA a b≤1000000000000:=by
  unfold partA
  split
  · rename_i h
    simp only [partOk,Bool.and_eq_true,inB_true] at h;have:=mul_le a b h.1.1 h.1.2 h.2.1 h.2.2;omega
  · omega
theorem partA_le (a b:Int) (h0:0≤a):partA a b≤a:=by
  unfold partA
  split
  · rename_i h
    simp only [partOk,Bool.and_eq_true,inB_true] at h;have:a*b≤a*10000:=Int.mul_le_mul_of_nonneg_left h.2.2 h0;omega
  · omega
end
section
open Go.RowKit

def shareOk (t bp:Int):Bool:=inB t 0 100000000&&inB bp 0 10000
def shareA (t bp:Int):Int:=if shareOk t bp then partA t bp else 0
def shareE (t bp:Int):Int:=if shareOk t bp then 0 else 2
theorem shareOf_any (t bp:Int) (w:World):Calls Tryz.prog 114 #[I t,I bp] w (Pure (T2 (I (shareA t bp)) (I (shareE t bp))) w):=by
  by_cases ht:inB t 0 100000000=true
  · obtain ⟨t0,t1⟩:=inB_true.1 ht
    have h1:inB t 0 1000000000000=true:=inB_true.2 ⟨by omega,by omega⟩
    have hA:shareA t bp=partA t bp:=by
      simp only [shareA,shareOk,ht,Bool.true_and];cases hb:inB bp 0 10000
      · simp [partA,partOk,hb]
      · rfl
    have hE:shareE t bp=partE t bp:=by
      simp only [shareE,shareOk,ht,Bool.true_and,partE,partOk,h1]
    rw [hA,hE];clear hA hE h1;go_enter Tryz.func114,Tryz.ntmps114
    go_wp2_with (first | (go_at_call 57;refine (In_any _ _ _ _).mono ?_;rintro e w' ⟨rfl,rfl⟩) | (go_at_call 59;refine (parted_any _ _ _).mono ?_;rintro e w' ⟨rfl,rfl⟩))
    go_ret2;exact Pure.intro rfl
  · simp only [Bool.not_eq_true] at ht
    have hA:shareA t bp=0:=by simp [shareA,shareOk,ht]
    have hE:shareE t bp=2:=by simp [shareE,shareOk,ht]
    rw [hA,hE];clear hA hE;go_enter Tryz.func114,Tryz.ntmps114
    go_wp2_with (go_at_call 57;refine (In_any _ _ _ _).mono ?_;rintro e w' ⟨rfl,rfl⟩)
    go_ret2;exact Pure.intro rfl

theorem debtSum_bd {xs:List ADebt} (h8:xs.length≤8) (hok:xs.all okDebt=true):0≤debtSum xs∧debtSum xs≤8000000000:=by
  have:=sumTo_bd hok xs.length (Nat.le_refl _);rw [sumTo_all] at this;omega

end
end Go.Proofs.YtdjgcenjonegjaaGreat
