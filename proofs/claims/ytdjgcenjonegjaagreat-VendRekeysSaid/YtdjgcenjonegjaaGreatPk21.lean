/- ref.Granted: 20 · ref.Granted: 0 · ref.Granted · ref.Rekeyed -/
import Derived.Test.YtdjgcenjonegjaaGreatPk10
import Derived.Test.YtdjgcenjonegjaaGreatPk18
import Derived.Test.YtdjgcenjonegjaaGreatPk20
import Derived.Test.YtdjgcenjonegjaaGreatPk07
import Derived.Deep.RegionHeld3
set_option maxRecDepth 20000
set_option maxHeartbeats 8000000
set_option linter.unusedSimpArgs false
set_option linter.unusedVariables false
namespace Go.Proofs.YtdjgcenjonegjaaGreat
section
open Go.RowKit

theorem Granted_20 (x1 x2 x4 x5 x6 bo f b d al m:Int) (v tv:Value) (xs ys:List ADebt) (ts:List AStep) (w:World) (h:Sl w v 2 xs.length (xs.flatMap ADebt.cells)) (ht:Sl w tv 2 ts.length (ts.flatMap AStep.cells))
    (M:Hid (∀ W,Sl W v 2 xs.length (xs.flatMap ADebt.cells)→Calls Tryz.prog 54 #[.agg #[I x1,I x2,I 1048576,I x4,I x5,I x6,v]] W (Grew (.bool true) W)))
    (F:Hid (∀ W,Sl W tv 2 ts.length (ts.flatMap AStep.cells)→Calls Tryz.prog 55 #[.agg #[tv,I f,I b,I d,I al]] W (Grew (I 0) W)))
    (R:Hid (∀ W,Sl W v 2 xs.length (xs.flatMap ADebt.cells)→Calls Tryz.prog 56 #[.agg #[I x1,I x2,I 1048576,I x4,I x5,I x6,v],I m] W (GrewAccF ⟨x1,x2,1048576,m,bo,x6⟩ ys 0 W))) (q1:¬ al=0) (q2:¬ x6=m):
    Calls Tryz.prog 29 #[.agg #[I x1,I x2,I 1048576,I x4,I x5,I x6,v],.agg #[tv,I f,I b,I d,I al],I m] w (GrewAccBF ⟨0,0,0,0,0,0⟩ [] ⟨0,0,0,0,0,0,0⟩ 20 w):=by
  unfold GrewAccBF;(try unfold GrewAccF at *);simp only at *;obtain ⟨kB,oa,ot,oz,oy⟩:=boxes4 w [I x1,I x2,I 1048576,I x4,I x5,I x6,v] 64 [tv,I f,I b,I d,I al] 24 [I 0,I 0,I 0,I 0,I 0,I 0,.slice none 0 0] 64 [I 0,I 0,I 0,I 0,I 0,I 0,I 0] 39;have hS:=h.below kB;have h':=h;have ht':=ht;obtain ⟨a,cap,rfl,-⟩:=h;obtain ⟨ta,tcap,rfl,-⟩:=ht;go_enter Tryz.func29,Tryz.ntmps29
  go_wp2_with fail
  refine (M.out _ hS).mono ?_;rintro e w1 ⟨rfl,k1⟩;have oa1:=oa.below k1;have ot1:=ot.below k1;have oz1:=oz.below k1;have oy1:=oy.below k1;have kk1:=kB.trans (k1.mono kB.size);have hs1:w.heap.size+4≤w1.heap.size:=by have:=k1.size;simp at this;omega
  have tS1:=ht'.below kk1;clear oa ot oz oy kB k1 hS;have r1:=set_same;have r2:=set_off;have r3:=set_blk;have aO:=oa1;have aA:=aO.s7;clear aO;have tO:=ot1;have tA:=tO.s5;clear tO;have zO:=oz1;have zA:=zO.s7;clear zO;have yO:=oy1;have yA:=yO.s7;clear yO
  go_wp2_with fail
  refine (F.out _ tS1).mono ?_;rintro e w2 ⟨rfl,k2⟩;have oa2:=oa1.below k2;have ot2:=ot1.below k2;have oz2:=oz1.below k2;have oy2:=oy1.below k2;have kk2:=kk1.trans (k2.mono kk1.size);have hS2:=h'.below kk2;have hs2:w.heap.size+4≤w2.heap.size:=by have:=k2.size;omega
  clear aA tA zA yA;clear oa1 ot1 oz1 oy1 kk1 k2 tS1;have aO:=oa2;have aA:=aO.s7;clear aO;have tO:=ot2;have tA:=tO.s5;clear tO;have zO:=oz2;have zA:=zO.s7;clear zO;have yO:=oy2;have yA:=yO.s7;clear yO
  go_wp2_with fail
  refine (R.out _ hS2).mono ?_;rintro e w3 ⟨u,rfl,hSu,k3,hFu⟩;have hs3:w.heap.size+4≤w3.heap.size:=by have:=k3.size;omega
  have hSu':=hSu;obtain ⟨a',cap',rfl,-⟩:=hSu';have kA:=boxed_below w3 (.cells #[I x1,I x2,I 1048576,I m,I bo,I x6,.slice a' ys.length cap'] 64);have oa3:=(oa2.below k3).below kA;have ot3:=(ot2.below k3).below kA;have oz3:=(oz2.below k3).below kA;have oy3:=(oy2.below k3).below kA;have op3:=Own.new (w:=w3) rfl [I x1,I x2,I 1048576,I m,I bo,I x6,.slice a' ys.length cap'] 64;have kw3:=kk2.trans (k3.mono kk2.size);have kk3:=kw3.trans (kA.mono kw3.size);clear aA tA zA yA;clear oa2 ot2 oz2 oy2 kk2 k3 kw3 hS2;have aO:=oa3;have aA:=aO.s7;clear aO;have tO:=ot3;have tA:=tO.s5;clear tO;have zO:=oz3;have zA:=zO.s7;clear zO;have yO:=oy3;have yA:=yO.s7;clear yO;have pO:=op3;have pA:=pO.s7;clear pO;have hn0:¬ w.heap.size=w3.heap.size:=by omega
  have hn1:¬ w.heap.size+1=w3.heap.size:=by omega
  have hn2:¬ w.heap.size+2=w3.heap.size:=by omega
  have hn3:¬ w.heap.size+3=w3.heap.size:=by omega
  have hn4:¬ w3.heap.size=w.heap.size+2:=by omega
  have hn5:¬ w3.heap.size=w.heap.size+3:=by omega
  have hn6:¬ w3.heap.size=w.heap.size:=by omega
  have hn7:¬ w3.heap.size=w.heap.size+1:=by omega
  go_wp2;exact bodyPost_ret (v:=T3 (.agg #[I 0,I 0,I 0,I 0,I 0,I 0,.slice none 0 0]) (.agg #[I 0,I 0,I 0,I 0,I 0,I 0,I 0]) (I 20)) (by simp [results,Tryz.results29,go_sem, *];try omega) rfl (⟨_,rfl,Sl.nil _ _,below_autor,FarB.nil _ _ _⟩)
end
section
open Go.RowKit

theorem Granted_ok (x1 x2 x3 x4 x5 x6 bo f b d al m:Int) (v tv:Value) (xs ys:List ADebt) (ts:List AStep) (w:World) (h:Sl w v 2 xs.length (xs.flatMap ADebt.cells)) (ht:Sl w tv 2 ts.length (ts.flatMap AStep.cells))
    (M:Hid (∀ W,Sl W v 2 xs.length (xs.flatMap ADebt.cells)→Calls Tryz.prog 54 #[.agg #[I x1,I x2,I x3,I x4,I x5,I x6,v]] W (Grew (.bool true) W)))
    (F:Hid (∀ W,Sl W tv 2 ts.length (ts.flatMap AStep.cells)→Calls Tryz.prog 55 #[.agg #[tv,I f,I b,I d,I al]] W (Grew (I 0) W)))
    (R:Hid (∀ W,Sl W v 2 xs.length (xs.flatMap ADebt.cells)→Calls Tryz.prog 56 #[.agg #[I x1,I x2,I x3,I x4,I x5,I x6,v],I m] W (GrewAccF ⟨x1,x2,x3,m,bo,x6⟩ ys 0 W))) (q1:¬ al=0) (q2:¬ x6=m) (q3:¬ x3=1048576) (q0:1≤x3) (q4:x3≤1048576):
    Calls Tryz.prog 29 #[.agg #[I x1,I x2,I x3,I x4,I x5,I x6,v],.agg #[tv,I f,I b,I d,I al],I m] w (GrewAccBF ⟨x1,x2,x3+1,m,bo,m⟩ ys ⟨x3,0,0,0,0,0,al⟩ 0 w):=by
  unfold GrewAccBF;(try unfold GrewAccF at *);simp only at *;obtain ⟨kB,oa,ot,oz,oy⟩:=boxes4 w [I x1,I x2,I x3,I x4,I x5,I x6,v] 64 [tv,I f,I b,I d,I al] 24 [I 0,I 0,I 0,I 0,I 0,I 0,.slice none 0 0] 64 [I 0,I 0,I 0,I 0,I 0,I 0,I 0] 39;have hS:=h.below kB;have h':=h;have ht':=ht;obtain ⟨a,cap,rfl,-⟩:=h;obtain ⟨ta,tcap,rfl,-⟩:=ht;go_enter Tryz.func29,Tryz.ntmps29
  go_wp2_with fail
  refine (M.out _ hS).mono ?_;rintro e w1 ⟨rfl,k1⟩;have oa1:=oa.below k1;have ot1:=ot.below k1;have oz1:=oz.below k1;have oy1:=oy.below k1;have kk1:=kB.trans (k1.mono kB.size);have hs1:w.heap.size+4≤w1.heap.size:=by have:=k1.size;simp at this;omega
  have tS1:=ht'.below kk1;clear oa ot oz oy kB k1 hS;have r1:=set_same;have r2:=set_off;have r3:=set_blk;have aO:=oa1;have aA:=aO.s7;clear aO;have tO:=ot1;have tA:=tO.s5;clear tO;have zO:=oz1;have zA:=zO.s7;clear zO;have yO:=oy1;have yA:=yO.s7;clear yO
  go_wp2_with fail
  refine (F.out _ tS1).mono ?_;rintro e w2 ⟨rfl,k2⟩;have oa2:=oa1.below k2;have ot2:=ot1.below k2;have oz2:=oz1.below k2;have oy2:=oy1.below k2;have kk2:=kk1.trans (k2.mono kk1.size);have hS2:=h'.below kk2;have hs2:w.heap.size+4≤w2.heap.size:=by have:=k2.size;omega
  clear aA tA zA yA;clear oa1 ot1 oz1 oy1 kk1 k2 tS1;have aO:=oa2;have aA:=aO.s7;clear aO;have tO:=ot2;have tA:=tO.s5;clear tO;have zO:=oz2;have zA:=zO.s7;clear zO;have yO:=oy2;have yA:=yO.s7;clear yO
  go_wp2_with fail
  refine (R.out _ hS2).mono ?_;rintro e w3 ⟨u,rfl,hSu,k3,hFu⟩;have hs3:w.heap.size+4≤w3.heap.size:=by have:=k3.size;omega
  have hSu':=hSu;obtain ⟨a',cap',rfl,-⟩:=hSu';have kA:=boxed_below w3 (.cells #[I x1,I x2,I x3,I m,I bo,I x6,.slice a' ys.length cap'] 64);have oa3:=oa2.below k3;have ot3:=ot2.below k3;have oz3:=oz2.below k3;have oy3:=oy2.below k3;have kw3:=kk2.trans (k3.mono kk2.size);have kk3:=kw3.trans (kA.mono kw3.size);clear aA tA zA yA;clear oa2 ot2 oz2 oy2 kk2 k3 kk3 hS2;have aO:=oa3;have aA:=aO.s7;clear aO;have tO:=ot3;have tA:=tO.s5;clear tO;have zO:=oz3;have zA:=zO.s7;clear zO;have yO:=oy3;have yA:=yO.s7;clear yO;have ra:∀ (o:Obj) (g j:Nat),g < w3.heap.size→(w3.alloc o).cell? ⟨g,j,none⟩=w3.cell? ⟨g,j,none⟩:=fun o g j h=>(boxed_below w3 o).cell (p:=⟨g,j,none⟩) h;have rb:∀ (o:Obj) (g j:Nat),g < w3.heap.size→(w3.alloc o).frozen? ⟨g,j,none⟩=w3.frozen? ⟨g,j,none⟩:=fun o g j h=>(boxed_below w3 o).frozen (p:=⟨g,j,none⟩) h;have hl0:w.heap.size < w3.heap.size:=by omega
  have hl1:w.heap.size+1 < w3.heap.size:=by omega
  have hl2:w.heap.size+2 < w3.heap.size:=by omega
  have hl3:w.heap.size+3 < w3.heap.size:=by omega
  have hn0:¬ w.heap.size=w3.heap.size:=by omega
  have hn1:¬ w.heap.size+1=w3.heap.size:=by omega
  have hn2:¬ w.heap.size+2=w3.heap.size:=by omega
  have hn3:¬ w.heap.size+3=w3.heap.size:=by omega
  have hn4:¬ w3.heap.size=w.heap.size+2:=by omega
  have hn5:¬ w3.heap.size=w.heap.size+3:=by omega
  have hn6:¬ w3.heap.size=w.heap.size:=by omega
  have hn7:¬ w3.heap.size=w.heap.size+1:=by omega
  have hwx:IntKind.i64.wrap (x3+1)=x3+1:=wrap_small _ (by omega) (by omega);have HS:=Lib.hid (hSu);have hF2:Far (w.heap.size+2) (.slice a' ys.length cap'):=hFu.far (by omega);have hF3:Far (w.heap.size+3) (.slice a' ys.length cap'):=hFu.far (by omega);have HF:=Lib.hid (And.intro hF2 hF3);have HFB:=Lib.hid (show FarB w.heap.size (.slice a' ys.length cap') from hFu.mono (by omega));clear hF2 hF3 hFu hSu;go_wp2;go_region
  all_goals
    go_wp2;obtain ⟨hf2,hf3⟩:=HF.out;exact bodyPost_ret (v:=T3 (.agg #[I x1,I x2,I (x3+1),I m,I bo,I m,.slice a' ys.length cap']) (.agg #[I x3,I 0,I 0,I 0,I 0,I 0,I al]) (I 0)) (by simp [results,Tryz.results29,go_sem, *];try omega) rfl (⟨_,rfl,(by repeat (first | with_reducible refine Sl.set ?_ (by assumption) _ | with_reducible refine Sl.drew ?_ | with_reducible refine Sl.below ?_ (boxed_below _ _) | with_reducible exact HS.out)),below_autor,HFB.out⟩)
end
section
open Go.RowKit
theorem Granted_f (x : AAcc) (v tv : Value) (xs : List ADebt) (ts : List AStep) (f b d al m : Int) (w : World) (h : Sl w v 2 xs.length (xs.flatMap ADebt.cells)) (ht : Sl w tv 2 ts.length (ts.flatMap AStep.cells)) :
    Calls Tryz.prog 29 #[.agg #[I x.meter,I x.rev,I x.next,I x.month,I x.bought,I x.free,v],.agg #[tv,I f,I b,I d,I al],I m] w (GrewAccBF (grantX x m (grantE x xs ts f b d al m)) (grantL x xs m (grantE x xs ts f b d al m)) (grantB x al (grantE x xs ts f b d al m)) (grantE x xs ts f b d al m) w):=by
  have hr:grantE x xs ts f b d al m=if openErr x xs ts f b d al=0 then (if rollE x m=0 then (if al=0 then 22 else if x.free=m then 21 else if x.next=1048576 then 20 else 0) else rollE x m) else openErr x xs ts f b d al:=rfl;have M:=Lib.hid (fun W (hW:Sl W v 2 xs.length (xs.flatMap ADebt.cells))=>AccountMay_any x v xs W hW);have F:=Lib.hid (fun W (hW:Sl W tv 2 ts.length (ts.flatMap AStep.cells))=>TermsFault_any tv ts f b d al W hW);have R:=Lib.hid (fun W (hW:Sl W v 2 xs.length (xs.flatMap ADebt.cells))=>RolledF_any x v xs m W hW);unfold openErr at hr;cases c0:accMay x xs
  · rw [c0] at hr M
    simp only [Bool.false_eq_true,if_false] at hr;rw [if_neg (by decide)] at hr;obtain ⟨e1,e2,e3⟩:=grant_err x xs m al (E:=grantE x xs ts f b d al m) (by rw [hr];decide);rw [e1,e2,e3,hr];exact Granted_may x.meter x.rev x.next x.month x.bought x.free f b d al m v tv xs ts w h ht M
  rw [c0] at hr M;simp only [if_true] at hr;obtain ⟨-,-,-,-,b5,b6,-⟩:=accMay_bd c0
  by_cases h1:termsE ts f b d al=0
  · rw [if_pos h1] at hr
    rw [h1] at F
    by_cases h2:rollE x m=0
    · rw [if_pos h2] at hr
      have hrE:rolledE x xs m=0:=by simp [rolledE,c0,h2]
      obtain ⟨s1,s2⟩:=rolled_ok hrE;rw [hrE,s1,s2] at R
      by_cases q1:al=0
      · rw [if_pos q1] at hr
        obtain ⟨e1,e2,e3⟩:=grant_err x xs m al (E:=grantE x xs ts f b d al m) (by rw [hr];decide);rw [e1,e2,e3,hr];subst q1;exact Granted_22 x.meter x.rev x.next x.month x.bought x.free (rollX x m).bought f b d m v tv xs (rollL x xs m) ts w h ht M F R
      rw [if_neg q1] at hr
      by_cases q2:x.free=m
      · rw [if_pos q2] at hr
        obtain ⟨e1,e2,e3⟩:=grant_err x xs m al (E:=grantE x xs ts f b d al m) (by rw [hr];decide);rw [e1,e2,e3,hr];subst q2;exact Granted_21 x.meter x.rev x.next x.month x.bought x.free (rollX x x.free).bought f b d al v tv xs (rollL x xs x.free) ts w h ht M F R q1
      rw [if_neg q2] at hr
      by_cases q3:x.next=1048576
      · rw [if_pos q3] at hr
        obtain ⟨e1,e2,e3⟩:=grant_err x xs m al (E:=grantE x xs ts f b d al m) (by rw [hr];decide);rw [e1,e2,e3,hr];obtain ⟨x1,x2,x3,x4,x5,x6⟩:=x;simp only at q3;subst q3;exact Granted_20 x1 x2 x4 x5 x6 (rollX ⟨x1,x2,1048576,x4,x5,x6⟩ m).bought f b d al m v tv xs (rollL ⟨x1,x2,1048576,x4,x5,x6⟩ xs m) ts w h ht M F R q1 q2
      rw [if_neg q3] at hr;rw [hr];have hgL:grantL x xs m 0=rollL x xs m:=by simp [grantL]
      have hgX:grantX x m 0=⟨x.meter,x.rev,x.next+1,m,(rollX x m).bought,m⟩:=by simp [grantX]
      have hgB:grantB x al 0=⟨x.next,0,0,0,0,0,al⟩:=by simp [grantB]
      rw [hgL,hgX,hgB];exact Granted_ok x.meter x.rev x.next x.month x.bought x.free (rollX x m).bought f b d al m v tv xs (rollL x xs m) ts w h ht M F R q1 q2 q3 b5 b6
    · rw [if_neg h2] at hr
      have hrE:rolledE x xs m=rollE x m:=by simp [rolledE,c0]
      obtain ⟨s1,s2⟩:=rolled_err (x:=x) (xs:=xs) (m:=m) (by rw [hrE];exact h2);rw [hrE,s1,s2] at R;obtain ⟨e1,e2,e3⟩:=grant_err x xs m al (E:=grantE x xs ts f b d al m) (by rw [hr];exact h2);rw [e1,e2,e3,hr];exact Granted_roll x.meter x.rev x.next x.month x.bought x.free f b d al m (rollE x m) v tv xs ts w h ht M F R h2
  · rw [if_neg h1] at hr
    obtain ⟨e1,e2,e3⟩:=grant_err x xs m al (E:=grantE x xs ts f b d al m) (by rw [hr];exact h1);rw [e1,e2,e3,hr];exact Granted_terms x.meter x.rev x.next x.month x.bought x.free f b d al m (termsE ts f b d al) v tv xs ts w h ht M F h1
end
section
open Go.RowKit
theorem Rekeyed_f (x:AAcc) (v:Value) (xs:List ADebt) (w:World) (h:Sl w v 2 xs.length (xs.flatMap ADebt.cells)):
    Calls Tryz.prog 30 #[.agg #[I x.meter,I x.rev,I x.next,I x.month,I x.bought,I x.free,v]] w (GrewAccBF (rekeyX x xs) (rekeyL x xs) (rekeyB x xs) (rekeyE x xs) w):=by
  have M:=Lib.hid (fun W (hW:Sl W v 2 xs.length (xs.flatMap ADebt.cells))=>AccountMay_any x v xs W hW);have C:=Lib.hid (fun W (hW:Sl W v 2 xs.length (xs.flatMap ADebt.cells)) h8=>AccountCopy_any x v xs W hW h8);obtain ⟨x1,x2,x3,x4,x5,x6⟩:=x;simp only [GrewAccO] at *;have hb1:=boxed_below w (.cells #[I x1,I x2,I x3,I x4,I x5,I x6,v] 64);have hb2:=hb1.alloc hb1.size (.cells #[I 0,I 0,I 0,I 0,I 0,I 0,.slice none 0 0] 64);have hb:=hb2.alloc hb2.size (.cells #[I 0,I 0,I 0,I 0,I 0,I 0,I 0] 39);have h1:=h.below hb;have h':=h;obtain ⟨a,cap,rfl,-⟩:=h';clear hb1 hb2;cases c0:accMay ⟨x1,x2,x3,x4,x5,x6⟩ xs
  · obtain ⟨q1,q2,q3,q4⟩:=rekey_err (x:=⟨x1,x2,x3,x4,x5,x6⟩) (xs:=xs) 5 (by unfold rekeyE;rw [c0];simp []) (by decide)
    rw [q1,q2,q3,q4];clear q1 q2 q3 q4;rw [c0] at M;clear c0 h C;go_enter Tryz.func30,Tryz.ntmps30
    go_wp2_with fail
    refine (M.out _ h1).mono ?_;rintro e w1 ⟨rfl,k1⟩;have oc:=(((Own.new (w:=w) rfl [I x1,I x2,I x3,I x4,I x5,I x6,.slice a xs.length cap] 64).alloc (.cells #[I 0,I 0,I 0,I 0,I 0,I 0,.slice none 0 0] 64)).alloc (.cells #[I 0,I 0,I 0,I 0,I 0,I 0,I 0] 39)).below k1;have oz:=((Own.new (w:=(w.alloc (.cells #[I x1,I x2,I x3,I x4,I x5,I x6,.slice a xs.length cap] 64))) (g:=w.heap.size+1) (by simp) [I 0,I 0,I 0,I 0,I 0,I 0,.slice none 0 0] 64).alloc (.cells #[I 0,I 0,I 0,I 0,I 0,I 0,I 0] 39)).below k1;have oy:=(Own.new (w:=(w.alloc (.cells #[I x1,I x2,I x3,I x4,I x5,I x6,.slice a xs.length cap] 64)).alloc (.cells #[I 0,I 0,I 0,I 0,I 0,I 0,.slice none 0 0] 64)) (g:=w.heap.size+2) (by simp) [I 0,I 0,I 0,I 0,I 0,I 0,I 0] 39).below k1;have cO:=oc;have cfA:=cO.f;have c0:=cO.c0;have c1:=cO.c1;have c2:=cO.c2;have c3:=cO.c3;have c4:=cO.c4;have c5:=cO.c5;have c6:=cO.c6;clear cO;have yO:=oy;have yA:=yO.s7;clear yO;have zO:=oz;have zA:=zO.s7;clear zO;have k:=hb.trans (k1.mono hb.size);have hzw:w.heap.size+3≤w1.heap.size:=by have:=k1.size;simp at this;omega
    clear k1 hb h1;have r1:=set_same;have r2:=set_off;have r3:=set_blk;go_wp2;exact bodyPost_ret (v:=T3 (.agg #[I 0,I 0,I 0,I 0,I 0,I 0,.slice none 0 0]) (.agg #[I 0,I 0,I 0,I 0,I 0,I 0,I 0]) (I 5)) (by simp [results,Tryz.results30,go_sem, *];try omega) rfl (⟨_,rfl,Sl.nil _ _,below_autor,FarB.nil _ _ _⟩)
  · have h8:=accMay_len c0
    obtain ⟨-,-,b3,b4,b5,b6,-⟩:=accMay_bd c0;simp only at b3 b4 b5 b6
    by_cases c1:x2=15
    · obtain ⟨q1,q2,q3,q4⟩:=rekey_err (x:=⟨x1,x2,x3,x4,x5,x6⟩) (xs:=xs) 24 (by unfold rekeyE;rw [c0];simp [c1]) (by decide)
      rw [q1,q2,q3,q4];clear q1 q2 q3 q4;have c1b:15≤x2:=by omega
      rw [c0] at M;clear c0 h h8 c1 C;go_enter Tryz.func30,Tryz.ntmps30
      go_wp2_with fail
      refine (M.out _ h1).mono ?_;rintro e w1 ⟨rfl,k1⟩;have oc:=(((Own.new (w:=w) rfl [I x1,I x2,I x3,I x4,I x5,I x6,.slice a xs.length cap] 64).alloc (.cells #[I 0,I 0,I 0,I 0,I 0,I 0,.slice none 0 0] 64)).alloc (.cells #[I 0,I 0,I 0,I 0,I 0,I 0,I 0] 39)).below k1;have oz:=((Own.new (w:=(w.alloc (.cells #[I x1,I x2,I x3,I x4,I x5,I x6,.slice a xs.length cap] 64))) (g:=w.heap.size+1) (by simp) [I 0,I 0,I 0,I 0,I 0,I 0,.slice none 0 0] 64).alloc (.cells #[I 0,I 0,I 0,I 0,I 0,I 0,I 0] 39)).below k1;have oy:=(Own.new (w:=(w.alloc (.cells #[I x1,I x2,I x3,I x4,I x5,I x6,.slice a xs.length cap] 64)).alloc (.cells #[I 0,I 0,I 0,I 0,I 0,I 0,.slice none 0 0] 64)) (g:=w.heap.size+2) (by simp) [I 0,I 0,I 0,I 0,I 0,I 0,I 0] 39).below k1;have cO:=oc;have cfA:=cO.f;have c0:=cO.c0;have c1:=cO.c1;have c2:=cO.c2;have c3:=cO.c3;have c4:=cO.c4;have c5:=cO.c5;have c6:=cO.c6;clear cO;have yO:=oy;have yA:=yO.s7;clear yO;have zO:=oz;have zA:=zO.s7;clear zO;have k:=hb.trans (k1.mono hb.size);have hzw:w.heap.size+3≤w1.heap.size:=by have:=k1.size;simp at this;omega
      clear k1 hb h1;have r1:=set_same;have r2:=set_off;have r3:=set_blk;go_wp2;exact bodyPost_ret (v:=T3 (.agg #[I 0,I 0,I 0,I 0,I 0,I 0,.slice none 0 0]) (.agg #[I 0,I 0,I 0,I 0,I 0,I 0,I 0]) (I 24)) (by simp [results,Tryz.results30,go_sem, *];try omega) rfl (⟨_,rfl,Sl.nil _ _,below_autor,FarB.nil _ _ _⟩)
    have c1b:¬ 15≤x2:=by omega
    by_cases c2:x3=1048576
    · obtain ⟨q1,q2,q3,q4⟩:=rekey_err (x:=⟨x1,x2,x3,x4,x5,x6⟩) (xs:=xs) 20 (by unfold rekeyE;rw [c0];simp [c1,c2]) (by decide)
      rw [q1,q2,q3,q4];clear q1 q2 q3 q4;have c2b:(x3==1048576)=true:=by simp [c2]
      rw [c0] at M;clear c0 h h8 c1 c2 C;go_enter Tryz.func30,Tryz.ntmps30
      go_wp2_with fail
      refine (M.out _ h1).mono ?_;rintro e w1 ⟨rfl,k1⟩;have oc:=(((Own.new (w:=w) rfl [I x1,I x2,I x3,I x4,I x5,I x6,.slice a xs.length cap] 64).alloc (.cells #[I 0,I 0,I 0,I 0,I 0,I 0,.slice none 0 0] 64)).alloc (.cells #[I 0,I 0,I 0,I 0,I 0,I 0,I 0] 39)).below k1;have oz:=((Own.new (w:=(w.alloc (.cells #[I x1,I x2,I x3,I x4,I x5,I x6,.slice a xs.length cap] 64))) (g:=w.heap.size+1) (by simp) [I 0,I 0,I 0,I 0,I 0,I 0,.slice none 0 0] 64).alloc (.cells #[I 0,I 0,I 0,I 0,I 0,I 0,I 0] 39)).below k1;have oy:=(Own.new (w:=(w.alloc (.cells #[I x1,I x2,I x3,I x4,I x5,I x6,.slice a xs.length cap] 64)).alloc (.cells #[I 0,I 0,I 0,I 0,I 0,I 0,.slice none 0 0] 64)) (g:=w.heap.size+2) (by simp) [I 0,I 0,I 0,I 0,I 0,I 0,I 0] 39).below k1;have cO:=oc;have cfA:=cO.f;have c0:=cO.c0;have c1:=cO.c1;have c2:=cO.c2;have c3:=cO.c3;have c4:=cO.c4;have c5:=cO.c5;have c6:=cO.c6;clear cO;have yO:=oy;have yA:=yO.s7;clear yO;have zO:=oz;have zA:=zO.s7;clear zO;have k:=hb.trans (k1.mono hb.size);have hzw:w.heap.size+3≤w1.heap.size:=by have:=k1.size;simp at this;omega
      clear k1 hb h1;have r1:=set_same;have r2:=set_off;have r3:=set_blk;go_wp2;exact bodyPost_ret (v:=T3 (.agg #[I 0,I 0,I 0,I 0,I 0,I 0,.slice none 0 0]) (.agg #[I 0,I 0,I 0,I 0,I 0,I 0,I 0]) (I 20)) (by simp [results,Tryz.results30,go_sem, *];try omega) rfl (⟨_,rfl,Sl.nil _ _,below_autor,FarB.nil _ _ _⟩)
    have c2b:(x3==1048576)=false:=by simp [c2]
    obtain ⟨q1,q2,q3,q4⟩:=rekey_ok (x:=⟨x1,x2,x3,x4,x5,x6⟩) (xs:=xs) (by unfold rekeyE;rw [c0];simp [c1,c2]);rw [q1,q2,q3,q4];clear q1 q2 q3 q4;rw [c0] at M;clear c0 c1 c2;go_enter Tryz.func30,Tryz.ntmps30
    go_wp2_with fail
    refine (M.out _ h1).mono ?_;rintro e w1 ⟨rfl,k1⟩;have oc:=(((Own.new (w:=w) rfl [I x1,I x2,I x3,I x4,I x5,I x6,.slice a xs.length cap] 64).alloc (.cells #[I 0,I 0,I 0,I 0,I 0,I 0,.slice none 0 0] 64)).alloc (.cells #[I 0,I 0,I 0,I 0,I 0,I 0,I 0] 39)).below k1;have oz:=((Own.new (w:=(w.alloc (.cells #[I x1,I x2,I x3,I x4,I x5,I x6,.slice a xs.length cap] 64))) (g:=w.heap.size+1) (by simp) [I 0,I 0,I 0,I 0,I 0,I 0,.slice none 0 0] 64).alloc (.cells #[I 0,I 0,I 0,I 0,I 0,I 0,I 0] 39)).below k1;have oy:=(Own.new (w:=(w.alloc (.cells #[I x1,I x2,I x3,I x4,I x5,I x6,.slice a xs.length cap] 64)).alloc (.cells #[I 0,I 0,I 0,I 0,I 0,I 0,.slice none 0 0] 64)) (g:=w.heap.size+2) (by simp) [I 0,I 0,I 0,I 0,I 0,I 0,I 0] 39).below k1;have cO:=oc;have cfA:=cO.f;have c0:=cO.c0;have c1:=cO.c1;have c2:=cO.c2;have c3:=cO.c3;have c4:=cO.c4;have c5:=cO.c5;have c6:=cO.c6;clear cO;have yO:=oy;have yA:=yO.s7;clear yO;have zO:=oz;have zA:=zO.s7;clear zO;have k:=hb.trans (k1.mono hb.size);have hzw:w.heap.size+3≤w1.heap.size:=by have:=k1.size;simp at this;omega
    clear k1 hb h1;have r1:=set_same;have r2:=set_off;have r3:=set_blk;have h2:=Lib.hid (h.below k);clear h M
    go_wp2_with fail
    refine (C.out _ h2.out h8).mono ?_;rintro e w2 ⟨v',rfl,hown,k2⟩;have hS:=Sl.of_owns hown (by omega);obtain ⟨a2,cap2,rfl,-⟩:=hS;have hsz:=k2.size;have hlt:=hown.lt;have kk:=k.trans (k2.mono k.size);clear C c0 c1 c2 c3 c4 c5 c6 cfA zA yA;have cO:=oc.below k2;have cfA:=cO.f;have c0:=cO.c0;have c1:=cO.c1;have c2:=cO.c2;have c3:=cO.c3;have c4:=cO.c4;have c5:=cO.c5;have c6:=cO.c6;clear cO;have zO:=oz.below k2;have zA:=zO.s7;clear zO;have yO:=oy.below k2;have yA:=yO.s7;clear yO;have hfA:Far w.heap.size (.slice a2 xs.length cap2):=fun a n c e=>by cases e;have:=(hlt _ rfl).1;omega
    have hfB:Far (w.heap.size+1) (.slice a2 xs.length cap2):=fun a n c e=>by cases e;have:=(hlt _ rfl).1;omega
    have hfC:Far (w.heap.size+1+1) (.slice a2 xs.length cap2):=fun a n c e=>by cases e;have:=(hlt _ rfl).1;omega
    have hfD:Far w2.heap.size (.slice a2 xs.length cap2):=fun a n c e=>by cases e;have:=(hlt _ rfl).2;omega
    have HFB:=Lib.hid (show FarB w.heap.size (.slice a2 xs.length cap2) from fun a n c e=>by cases e;have:=(hlt _ rfl).1;omega);have HS:=Lib.hid (Sl.of_owns hown (show xs.length≤281474976710656 by omega));have n0:w.heap.size < w2.heap.size:=by omega
    have n1:w.heap.size+1 < w2.heap.size:=by omega
    have n2:w.heap.size+1+1 < w2.heap.size:=by omega
    have m0:¬ w.heap.size=w2.heap.size:=by omega
    have m1:¬ w.heap.size+1=w2.heap.size:=by omega
    have m2:¬ w.heap.size+1+1=w2.heap.size:=by omega
    clear oc oz oy k k2 hown hlt;go_wp2;go_region
    all_goals
      go_wp2;exact bodyPost_ret (v:=T3 (.agg #[I x1,I (x2+1),I (x3+1),I x4,I x5,I x6,.slice a2 xs.length cap2]) (.agg #[I x3,I 0,I 0,I 0,I 0,I 0,I 0]) (I 0)) (by simp [results,Tryz.results30,go_sem, *];try omega) rfl (⟨_,rfl,(by repeat (first | with_reducible exact HS.out | with_reducible refine Sl.set ?_ (by assumption) _ | with_reducible refine Sl.drew ?_ | with_reducible refine Sl.below ?_ (boxed_below _ _))),below_autor,HFB.out⟩)
end
end Go.Proofs.YtdjgcenjonegjaaGreat
