/- what a sale answers, spelled as the walks meet it · solds: new memory for a list (made by wip/bin/gen_api.py) · ref.Rolled · ref.Recovered -/
import Derived.Test.YtdjgcenjonegjaaGreatPk17
import Derived.Test.YtdjgcenjonegjaaGreatPk02
import Derived.Test.YtdjgcenjonegjaaGreatPk01
import Derived.Test.YtdjgcenjonegjaaGreatPk10
import Derived.Test.YtdjgcenjonegjaaGreatPk06
import Derived.Test.YtdjgcenjonegjaaGreatPk11
set_option maxRecDepth 20000
set_option maxHeartbeats 8000000
set_option linter.unusedSimpArgs false
set_option linter.unusedVariables false
namespace Go.Proofs.YtdjgcenjonegjaaGreat
section
open Go Go.RowKit
theorem eqE7_bill (a b:ABill):eqE7 a.id a.tender a.debt a.fee a.price a.change a.units b.id b.tender b.debt b.fee b.price b.change b.units=decide (a=b):=by
  obtain ⟨a1,a2,a3,a4,a5,a6,a7⟩:=a;obtain ⟨b1,b2,b3,b4,b5,b6,b7⟩:=b;unfold eqE7;simp only [ABill.mk.injEq]
theorem sells_eq (t:PTerms) (c:PCust) (v:AEvent):sellsE t c v=if ansE t c v=0 then (if eqE7 (ansB t c v).id (ansB t c v).tender (ansB t c v).debt (ansB t c v).fee (ansB t c v).price (ansB t c v).change (ansB t c v).units v.bill.id v.bill.tender v.bill.debt v.bill.fee v.bill.price v.bill.change v.bill.units then 0 else 8) else ansE t c v:=by
  rw [eqE7_bill];unfold sellsE;simp only [decide_eq_true_eq]
abbrev AEvent.v (v:AEvent):Value:=evV v.kind v.meter v.month v.bill.id v.bill.tender v.bill.debt v.bill.fee v.bill.price v.bill.change v.bill.units v.tag v.debt.owed v.debt.bp
theorem rekey_wrap {x:AAcc} {xs:List ADebt} (h:rekeyE x xs=0):IntKind.i64.wrap (x.rev+1)=x.rev+1:=by
  unfold rekeyE at h;cases hm:accMay x xs
  · rw [hm] at h;simp at h
  · obtain ⟨-,-,b3,b4,-⟩:=accMay_bd hm
    exact wrap_small _ (by omega) (by omega)
theorem sells_zero {t:PTerms} {c:PCust} {v:AEvent} (h:sellsE t c v=0):ansE t c v=0:=by
  unfold sellsE at h
  split at h
  · assumption
  · exact h
end
section
open Go.RowKit

theorem info_solds:(Tryz.prog.info? 69).map (fun i=>(i.zero,i.size,i.bytes))=some (some (.agg #[.int .i64 0,.int .i64 0,.int .i64 0,.int .i64 0,.int .i64 0]),5,40):=by kernel_rfl

end
section
open Go.RowKit
theorem RolledF_any (x : AAcc) (v : Value) (xs : List ADebt) (m : Int) (w : World) (h : Sl w v 2 xs.length (xs.flatMap ADebt.cells)) :
    Calls Tryz.prog 56 #[.agg #[I x.meter,I x.rev,I x.next,I x.month,I x.bought,I x.free,v],I m] w (GrewAccF (rolledX x xs m) (rolledL x xs m) (rolledE x xs m) w):=by
  have M:=Lib.hid (fun W (hW:Sl W v 2 xs.length (xs.flatMap ADebt.cells))=>AccountMay_any x v xs W hW);have C:=Lib.hid (fun W (hW:Sl W v 2 xs.length (xs.flatMap ADebt.cells)) h8=>AccountCopy_any x v xs W hW h8);have A:=Lib.hid (fun W (hW:Sl W v 2 xs.length (xs.flatMap ADebt.cells))=>AgedF_any v xs (m-x.month) W hW);obtain ⟨x1,x2,x3,x4,x5,x6⟩:=x;simp only at *;have hb1:=boxed_below w (.cells #[I x1,I x2,I x3,I x4,I x5,I x6,v] 64);have hb:=hb1.alloc hb1.size (.cells #[I 0,I 0,I 0,I 0,I 0,I 0,.slice none 0 0] 64);have h1:=h.below hb;have h':=h;obtain ⟨a,cap,rfl,-⟩:=h';clear hb1;cases c0:accMay ⟨x1,x2,x3,x4,x5,x6⟩ xs
  · have hE:rolledE ⟨x1,x2,x3,x4,x5,x6⟩ xs m=5:=by (simp [rolledE,c0])
    obtain ⟨q1,q2⟩:=rolled_err (x:=⟨x1,x2,x3,x4,x5,x6⟩) (xs:=xs) (m:=m) (by rw [hE];decide);rw [q1,q2,hE];clear q1 q2 hE;rw [c0] at M;clear c0 h C A;go_enter Tryz.func56,Tryz.ntmps56
    go_wp2_with fail
    refine (M.out _ h1).mono ?_;rintro e w1 ⟨rfl,k1⟩;have oc:=((Own.new (w:=w) rfl [I x1,I x2,I x3,I x4,I x5,I x6,.slice a xs.length cap] 64).alloc (.cells #[I 0,I 0,I 0,I 0,I 0,I 0,.slice none 0 0] 64)).below k1;have oz:=(Own.new (w:=(w.alloc (.cells #[I x1,I x2,I x3,I x4,I x5,I x6,.slice a xs.length cap] 64))) (g:=w.heap.size+1) (by simp) [I 0,I 0,I 0,I 0,I 0,I 0,.slice none 0 0] 64).below k1;have cO:=oc;have cfA:=cO.f;have c0:=cO.c0;have c1:=cO.c1;have c2:=cO.c2;have c3:=cO.c3;have c4:=cO.c4;have c5:=cO.c5;have c6:=cO.c6;clear cO;have zO:=oz;have zA:=zO.s7;clear zO;have k:=hb.trans (k1.mono hb.size);have hzw:w.heap.size+2≤w1.heap.size:=by have:=k1.size;simp at this;omega
    clear k1 hb h1;have r1:=set_same;have r2:=set_off;have r3:=set_blk
    go_wp2_with (go_at_call 57;refine (In_any _ _ _ _).mono ?_;rintro e w' ⟨rfl,rfl⟩)
    exact bodyPost_ret (v:=T2 (.agg #[I 0,I 0,I 0,I 0,I 0,I 0,.slice none 0 0]) (I 5)) (by simp [results,Tryz.results56,go_sem, *];try omega) rfl (⟨_,rfl,Sl.nil _ _,below_autor,FarB.nil _ _ _⟩)
  · have h8:=accMay_len c0
    have hdebt:=accMay_debt c0;obtain ⟨-,-,-,-,-,-,b7,b8,-⟩:=accMay_bd c0;simp only at b7 b8;cases c1:inB m 0 2399
    · have hE:rolledE ⟨x1,x2,x3,x4,x5,x6⟩ xs m=2:=by (simp [rolledE,rollE,c0,c1])
      obtain ⟨q1,q2⟩:=rolled_err (x:=⟨x1,x2,x3,x4,x5,x6⟩) (xs:=xs) (m:=m) (by rw [hE];decide);rw [q1,q2,hE];clear q1 q2 hE;rw [c0] at M;clear c0 h h8 C A;go_enter Tryz.func56,Tryz.ntmps56
      go_wp2_with fail
      refine (M.out _ h1).mono ?_;rintro e w1 ⟨rfl,k1⟩;have oc:=((Own.new (w:=w) rfl [I x1,I x2,I x3,I x4,I x5,I x6,.slice a xs.length cap] 64).alloc (.cells #[I 0,I 0,I 0,I 0,I 0,I 0,.slice none 0 0] 64)).below k1;have oz:=(Own.new (w:=(w.alloc (.cells #[I x1,I x2,I x3,I x4,I x5,I x6,.slice a xs.length cap] 64))) (g:=w.heap.size+1) (by simp) [I 0,I 0,I 0,I 0,I 0,I 0,.slice none 0 0] 64).below k1;have cO:=oc;have cfA:=cO.f;have c0:=cO.c0;have c1:=cO.c1;have c2:=cO.c2;have c3:=cO.c3;have c4:=cO.c4;have c5:=cO.c5;have c6:=cO.c6;clear cO;have zO:=oz;have zA:=zO.s7;clear zO;have k:=hb.trans (k1.mono hb.size);have hzw:w.heap.size+2≤w1.heap.size:=by have:=k1.size;simp at this;omega
      clear k1 hb h1;have r1:=set_same;have r2:=set_off;have r3:=set_blk
      go_wp2_with (go_at_call 57;refine (In_any _ _ _ _).mono ?_;rintro e w' ⟨rfl,rfl⟩)
      exact bodyPost_ret (v:=T2 (.agg #[I 0,I 0,I 0,I 0,I 0,I 0,.slice none 0 0]) (I 2)) (by simp [results,Tryz.results56,go_sem, *];try omega) rfl (⟨_,rfl,Sl.nil _ _,below_autor,FarB.nil _ _ _⟩)
    by_cases c2:m < x4
    · have hE:rolledE ⟨x1,x2,x3,x4,x5,x6⟩ xs m=23:=by (simp [rolledE,rollE,c0,c1,c2])
      obtain ⟨q1,q2⟩:=rolled_err (x:=⟨x1,x2,x3,x4,x5,x6⟩) (xs:=xs) (m:=m) (by rw [hE];decide);rw [q1,q2,hE];clear q1 q2 hE;rw [c0] at M;clear c0 h h8 C A;go_enter Tryz.func56,Tryz.ntmps56
      go_wp2_with fail
      refine (M.out _ h1).mono ?_;rintro e w1 ⟨rfl,k1⟩;have oc:=((Own.new (w:=w) rfl [I x1,I x2,I x3,I x4,I x5,I x6,.slice a xs.length cap] 64).alloc (.cells #[I 0,I 0,I 0,I 0,I 0,I 0,.slice none 0 0] 64)).below k1;have oz:=(Own.new (w:=(w.alloc (.cells #[I x1,I x2,I x3,I x4,I x5,I x6,.slice a xs.length cap] 64))) (g:=w.heap.size+1) (by simp) [I 0,I 0,I 0,I 0,I 0,I 0,.slice none 0 0] 64).below k1;have cO:=oc;have cfA:=cO.f;have c0:=cO.c0;have c1:=cO.c1;have c2:=cO.c2;have c3:=cO.c3;have c4:=cO.c4;have c5:=cO.c5;have c6:=cO.c6;clear cO;have zO:=oz;have zA:=zO.s7;clear zO;have k:=hb.trans (k1.mono hb.size);have hzw:w.heap.size+2≤w1.heap.size:=by have:=k1.size;simp at this;omega
      clear k1 hb h1;have r1:=set_same;have r2:=set_off;have r3:=set_blk
      go_wp2_with (go_at_call 57;refine (In_any _ _ _ _).mono ?_;rintro e w' ⟨rfl,rfl⟩)
      exact bodyPost_ret (v:=T2 (.agg #[I 0,I 0,I 0,I 0,I 0,I 0,.slice none 0 0]) (I 23)) (by simp [results,Tryz.results56,go_sem, *];try omega) rfl (⟨_,rfl,Sl.nil _ _,below_autor,FarB.nil _ _ _⟩)
    have hE:rolledE ⟨x1,x2,x3,x4,x5,x6⟩ xs m=0:=by simp [rolledE,rollE,c0,c1,c2]
    obtain ⟨q1,q2⟩:=rolled_ok hE;obtain ⟨m0,m1⟩:=inB_true.1 c1;rw [q1,q2,hE];rw [c0] at M;clear q1 q2 hE c0;have hS:=h
    by_cases c3:m=x4
    · have c3':=c3.symm
      subst c3';have e1:rollX ⟨x1,x2,x3,x4,x5,x6⟩ x4=⟨x1,x2,x3,x4,x5,x6⟩:=by simp [rollX]
      have e2:rollL ⟨x1,x2,x3,x4,x5,x6⟩ xs x4=xs:=by simp [rollL]
      rw [e1,e2];clear e1 e2 h A;go_enter Tryz.func56,Tryz.ntmps56
      go_wp2_with fail
      refine (M.out _ h1).mono ?_;rintro e w1 ⟨rfl,k1⟩;have oc:=((Own.new (w:=w) rfl [I x1,I x2,I x3,I x4,I x5,I x6,.slice a xs.length cap] 64).alloc (.cells #[I 0,I 0,I 0,I 0,I 0,I 0,.slice none 0 0] 64)).below k1;have oz:=(Own.new (w:=(w.alloc (.cells #[I x1,I x2,I x3,I x4,I x5,I x6,.slice a xs.length cap] 64))) (g:=w.heap.size+1) (by simp) [I 0,I 0,I 0,I 0,I 0,I 0,.slice none 0 0] 64).below k1;have cO:=oc;have cfA:=cO.f;have c0:=cO.c0;have c1:=cO.c1;have c2:=cO.c2;have c3:=cO.c3;have c4:=cO.c4;have c5:=cO.c5;have c6:=cO.c6;clear cO;have zO:=oz;have zA:=zO.s7;clear zO;have k:=hb.trans (k1.mono hb.size);have hzw:w.heap.size+2≤w1.heap.size:=by have:=k1.size;simp at this;omega
      clear k1 hb h1;have r1:=set_same;have r2:=set_off;have r3:=set_blk;have HSk:=Lib.hid (hS.below k)
      go_wp2_with (first | (go_at_call 57;refine (In_any _ _ _ _).mono ?_;rintro e w' ⟨rfl,rfl⟩) | fail)
      refine (C.out _ HSk.out h8).mono ?_;rintro e w2 ⟨u,rfl,hown,k2⟩;have hSu:=Sl.of_owns hown (by omega);have hFu:=FarB.of_owns hown;have hSu':=hSu;obtain ⟨a2,cap2,rfl,-⟩:=hSu';have kA:=boxed_below w2 (.cells #[I x1,I x2,I x3,I x4,I x5,I x6,.slice a2 xs.length cap2] 64);have oc2:=(oc.below k2).below kA;have oz2:=(oz.below k2).below kA;have on2:=Own.new (w:=w2) rfl [I x1,I x2,I x3,I x4,I x5,I x6,.slice a2 xs.length cap2] 64;have kk:=k.trans (k2.mono k.size);have kk2:=kk.trans (kA.mono kk.size);have hz2:w.heap.size+2≤w2.heap.size:=by have:=k2.size;omega
      have hSA:=hS.below kk2;have HSu:=Lib.hid (hSu.below kA);have hFA:Far (w.heap.size+1) (.slice a2 xs.length cap2):=hFu.far (by omega);have HF:=Lib.hid hFA;have HFB:=Lib.hid (hFu.mono (show w.heap.size≤w1.heap.size+2 by omega));clear hown hSu hFu hFA kA kk k k2 oc oz hS HSk c0 c1 c2 c3 c4 c5 c6 cfA zA;have cO:=oc2;have cfA:=cO.f;have c0:=cO.c0;have c1:=cO.c1;have c2:=cO.c2;have c3:=cO.c3;have c4:=cO.c4;have c5:=cO.c5;have c6:=cO.c6;clear cO;have zO:=oz2;have zA:=zO.s7;clear zO;have pO:=on2;have pA:=pO.s7;clear pO;have hne0:¬ w.heap.size=w2.heap.size:=by omega
      have hne1:¬ w.heap.size+1=w2.heap.size:=by omega
      have hne2:¬ w2.heap.size=w.heap.size+1:=by omega
      go_wp2;exact bodyPost_ret (v:=T2 (.agg #[I x1,I x2,I x3,I x4,I x5,I x6,.slice a2 xs.length cap2]) (I 0)) (by simp [results,Tryz.results56,go_sem, *];try omega) rfl (⟨_,rfl,((((((HSu.out.set HF.out _).set HF.out _).set HF.out _).set HF.out _).set HF.out _).set HF.out _).set HF.out _,below_autor,HFB.out⟩)
    · have e1:rollX ⟨x1,x2,x3,x4,x5,x6⟩ m=⟨x1,x2,x3,m,0,x6⟩:=by simp [rollX,c3]
      have e2:rollL ⟨x1,x2,x3,x4,x5,x6⟩ xs m=ageL xs (m-x4):=by simp [rollL,c3]
      have hA0:ageE xs (m-x4)=0:=by
        unfold ageE;rw [if_pos hdebt,if_pos (inB_true.2 ⟨by omega,by omega⟩)]
      rw [e1,e2];rw [hA0] at A;have hwr:IntKind.i64.wrap (m-x4)=m-x4:=wrap_small _ (by omega) (by omega);clear e1 e2 h hA0;generalize ageL xs (m-x4)=ys at *;go_enter Tryz.func56,Tryz.ntmps56
      go_wp2_with fail
      refine (M.out _ h1).mono ?_;rintro e w1 ⟨rfl,k1⟩;have oc:=((Own.new (w:=w) rfl [I x1,I x2,I x3,I x4,I x5,I x6,.slice a xs.length cap] 64).alloc (.cells #[I 0,I 0,I 0,I 0,I 0,I 0,.slice none 0 0] 64)).below k1;have oz:=(Own.new (w:=(w.alloc (.cells #[I x1,I x2,I x3,I x4,I x5,I x6,.slice a xs.length cap] 64))) (g:=w.heap.size+1) (by simp) [I 0,I 0,I 0,I 0,I 0,I 0,.slice none 0 0] 64).below k1;have cO:=oc;have cfA:=cO.f;have c0:=cO.c0;have c1:=cO.c1;have c2:=cO.c2;have c3:=cO.c3;have c4:=cO.c4;have c5:=cO.c5;have c6:=cO.c6;clear cO;have zO:=oz;have zA:=zO.s7;clear zO;have k:=hb.trans (k1.mono hb.size);have hzw:w.heap.size+2≤w1.heap.size:=by have:=k1.size;simp at this;omega
      clear k1 hb h1;have r1:=set_same;have r2:=set_off;have r3:=set_blk;have HSk:=Lib.hid (hS.below k)
      go_wp2_with (first | (go_at_call 57;refine (In_any _ _ _ _).mono ?_;rintro e w' ⟨rfl,rfl⟩) | fail)
      refine (C.out _ HSk.out h8).mono ?_;rintro e w2 ⟨u,rfl,hown,k2⟩;have hSu:=Sl.of_owns hown (by omega);have hFu:=FarB.of_owns hown;have hSu':=hSu;obtain ⟨a2,cap2,rfl,-⟩:=hSu';have kA:=boxed_below w2 (.cells #[I x1,I x2,I x3,I x4,I x5,I x6,.slice a2 xs.length cap2] 64);have oc2:=(oc.below k2).below kA;have oz2:=(oz.below k2).below kA;have on2:=Own.new (w:=w2) rfl [I x1,I x2,I x3,I x4,I x5,I x6,.slice a2 xs.length cap2] 64;have kk:=k.trans (k2.mono k.size);have kk2:=kk.trans (kA.mono kk.size);have hz2:w.heap.size+2≤w2.heap.size:=by have:=k2.size;omega
      have hSA:=hS.below kk2;have HSu:=Lib.hid (hSu.below kA);have hFA:Far (w.heap.size+1) (.slice a2 xs.length cap2):=hFu.far (by omega);have HF:=Lib.hid hFA;have HFB:=Lib.hid (hFu.mono (show w.heap.size≤w1.heap.size+2 by omega));clear hown hSu hFu hFA kA kk k k2 oc oz hS HSk c0 c1 c2 c3 c4 c5 c6 cfA zA;have cO:=oc2;have cfA:=cO.f;have c0:=cO.c0;have c1:=cO.c1;have c2:=cO.c2;have c3:=cO.c3;have c4:=cO.c4;have c5:=cO.c5;have c6:=cO.c6;clear cO;have hne0:¬ w.heap.size=w2.heap.size:=by omega
      have hne1:¬ w.heap.size+1=w2.heap.size:=by omega
      have hne2:¬ w2.heap.size=w.heap.size+1:=by omega
      go_wp2_with fail
      refine (A.out _ hSA).mono ?_;rintro e w3 ⟨l,rfl,hSl,k3,hFl⟩;have hSl':=hSl;obtain ⟨a3,cap3,rfl,-⟩:=hSl';have HSl:=Lib.hid hSl;have HFo:=Lib.hid (show Far w2.heap.size (.slice a3 ys.length cap3) from hFl.far (by simp));have HFB2:=Lib.hid (hFl.mono (show w.heap.size≤_ from kk2.size));have HFz:=Lib.hid (show Far (w.heap.size+1) (.slice a3 ys.length cap3) from hFl.far (by simp;omega));have kk3:=kk2.trans (k3.mono kk2.size);have hz3:w2.heap.size < w3.heap.size:=(on2.below k3).lt;have zO:=oz2.below k3;have zA:=zO.s7;clear zO;have pO:=on2.below k3;have pA:=pO.s7;clear pO;clear c0 c1 c2 c3 c4 c5 c6 cfA oc2 oz2 on2 k3 hFl hSl kk2 hSA HSu HF;go_wp2;exact bodyPost_ret (v:=T2 (.agg #[I x1,I x2,I x3,I m,I 0,I x6,.slice a3 ys.length cap3]) (I 0)) (by simp [results,Tryz.results56,go_sem, *];try omega) rfl (⟨_,rfl,(((((((((HSl.out.set HFo.out _).set HFo.out _).set HFo.out _).set HFz.out _).set HFz.out _).set HFz.out _).set HFz.out _).set HFz.out _).set HFz.out _).set HFz.out _,below_autor,HFB2.out⟩)
end
section
open Go.RowKit
theorem RcvRel.stay {w:World} {s:Int} {xs:List ADebt} {k:Nat} {v:Value} {wr:World} (hD:RcvRel w s xs k v wr) (h:outTo s xs (k+1)=outTo s xs k):Hid (RcvRel w s xs (k+1) v wr):=
  ⟨by rw [h];exact hD.1,hD.2⟩
theorem Recovered_any (v : Value) (xs : List ADebt) (t bp : Int) (w : World) (h : Sl w v 2 xs.length (xs.flatMap ADebt.cells)) :
    Calls Tryz.prog 58 #[v,I t,I bp] w (GrewSl3 2 (recL xs t bp).length ((recL xs t bp).flatMap ADebt.cells) (recP xs t bp) (recE xs t bp) w):=by
  obtain ⟨i0,hi,hz0,hz1,hz2⟩:=info_parts infoDebt;have F:=Lib.hid (fun W (hW:Sl W v 2 xs.length (xs.flatMap ADebt.cells))=>DebtFault_any v xs W hW);have P:=Lib.hid (fun W=>shareOf_any t bp W)
  by_cases hE:debtE xs=0
  · by_cases hs : shareOk t bp = true
    · have hok:recOk xs t bp=true:=by simp [recOk,hE,hs]
      have e1:recL xs t bp=outTo (shareA t bp) xs xs.length:=by simp [recL,hok]
      have e2:recP xs t bp=min (debtSum xs) (shareA t bp):=by simp [recP,hok]
      have e3:recE xs t bp=0:=by simp [recE,hE,hs]
      have e4:shareE t bp=0:=by simp [shareE,hs]
      rw [e1,e2,e3];rw [hE] at F;rw [e4] at P;obtain ⟨h8,hall⟩:=debtE_zero hE;have Hall:=Lib.hid hall
      have hbd:0≤shareA t bp∧shareA t bp≤1000000000000:=by
        have e5:shareA t bp=partA t bp:=by simp [shareA,hs]
        rw [e5];exact partA_bd t bp
      clear e1 e2 e3 e4 hok hs hE hall;generalize shareA t bp=s at *;go_enter Tryz.func58,Tryz.ntmps58
      go_wp2_with fail
      refine (F.out _ h).mono ?_;rintro e w1 ⟨rfl,rfl⟩;obtain ⟨a,cap,rfl,hn,hl,h0,h1⟩:=h;clear hl h0
      go_wp2_with (first | (go_at_call 114;refine (P.out _).mono ?_;rintro e w' ⟨rfl,rfl⟩))
      go_loopw [11,12,13] (fun v p i wr=>∃ k:Nat,k≤xs.length∧i=I k∧p=I (sumTo xs k)∧Hid (RcvRel w s xs k v wr)) (fun _ _ i _=>xs.length-(intOf i).toNat)
      case atStart=>exact ⟨0,Nat.zero_le _,rfl,eI (by simp [sumTo]),World.ownsRow_nil _ _ _ _,Below.refl _ _⟩
      case round=>
        obtain ⟨k,hk,rfl,rfl,hD⟩:=hrel;obtain ⟨s0,s1⟩:=sumTo_bd Hall.out k hk
        by_cases hlt:k < xs.length
        · obtain ⟨hown,hbw⟩:=hD.out
          have hsz:=hbw.size;have hdl:=outTo_len s xs k;obtain ⟨b,off,rfl,hb,hc⟩:=h1.resolve_left (by omega);obtain ⟨e0,e1⟩:=elDebt hb hc hbw k hlt;obtain ⟨q0,q1,q2,q3⟩:=okDebt_true.1 (okAt Hall.out hlt);have hs:=Lib.hid (sumTo_succ hlt).symm;have hy:=Lib.hid (fun hh=>outTo_yes (s:=s) (xs:=xs) (k:=k) hh);have hno:=Lib.hid (fun hh=>outTo_no (s:=s) (xs:=xs) (k:=k) hh);have hi0:(0:Int)≤(k:Int):=by omega
          have hi1:(k:Int) < (xs.length:Int):=by omega
          clear hc h1 F P;generalize xs.getD k default=x at *;generalize hpd:sumTo xs k=p at *;clear hpd
          by_cases hv:x.owed < p+x.owed-s
          · have hL:leftOf s p x=x.owed:=by unfold leftOf;omega
            by_cases hv2:0 < x.owed
            · have H1:=Lib.hid (hy.out (by rw [hL];omega))
              rw [hL] at H1;clear hL hy hno
              go_wp2_with (at_builtin;refine wpList_append_own _ rfl _ _ 62 rfl w.heap.size 46 i0 (.agg #[.int .i64 0,.int .i64 0]) 2 16 Tryz.underlying62 hi hz0 hz1 hz2 rfl (by decide) _ _ _ rfl (hown.alloc _) ⟨wr.heap.size,0,none⟩ 1 1 [I (x.owed),I x.bp] rfl rfl (news_lit _ [I (x.owed),I x.bp] _) (oneCells_lit rfl) (by unfold maxLen;omega) (by omega) (by simp;omega) ?_;intro v' w1 hown' hgrow _)
              have hbel:=grown_below (hbw.alloc hsz _) (hown.alloc _) (Nat.le_refl _) hgrow
              have hD':Hid (RcvRel w s xs (k+1) v' w1):=by
                refine ⟨?_,hbel⟩;rw [H1.out,List.length_append,← cells_appD];exact hown'
              clear hown hown' hgrow hbel hbw hD;go_wp2;exact ⟨⟨k+1,by omega,by go_num,eI hs.out,hD'⟩,by simp [intOf];omega⟩
            · have H1:=Lib.hid (hno.out (by rw [hL];omega))
              have hD':=RcvRel.stay hD.out H1.out;clear hL hy hno hown hbw hD;go_wp2;exact ⟨⟨k+1,by omega,by go_num,eI hs.out,hD'⟩,by simp [intOf];omega⟩
          · have hL:leftOf s p x=p+x.owed-s:=by unfold leftOf;omega
            by_cases hv2:0 < p+x.owed-s
            · have H1:=Lib.hid (hy.out (by rw [hL];omega))
              rw [hL] at H1;clear hL hy hno
              go_wp2_with (at_builtin;refine wpList_append_own _ rfl _ _ 62 rfl w.heap.size 46 i0 (.agg #[.int .i64 0,.int .i64 0]) 2 16 Tryz.underlying62 hi hz0 hz1 hz2 rfl (by decide) _ _ _ rfl (hown.alloc _) ⟨wr.heap.size,0,none⟩ 1 1 [I (p+x.owed-s),I x.bp] rfl rfl (news_lit _ [I (p+x.owed-s),I x.bp] _) (oneCells_lit rfl) (by unfold maxLen;omega) (by omega) (by simp;omega) ?_;intro v' w1 hown' hgrow _)
              have hbel:=grown_below (hbw.alloc hsz _) (hown.alloc _) (Nat.le_refl _) hgrow
              have hD':Hid (RcvRel w s xs (k+1) v' w1):=by
                refine ⟨?_,hbel⟩;rw [H1.out,List.length_append,← cells_appD];exact hown'
              clear hown hown' hgrow hbel hbw hD;go_wp2;exact ⟨⟨k+1,by omega,by go_num,eI hs.out,hD'⟩,by simp [intOf];omega⟩
            · have H1:=Lib.hid (hno.out (by rw [hL];omega))
              have hD':=RcvRel.stay hD.out H1.out;clear hL hy hno hown hbw hD;go_wp2;exact ⟨⟨k+1,by omega,by go_num,eI hs.out,hD'⟩,by simp [intOf];omega⟩
        · have hkm:k=xs.length:=by omega
          have hS:=Sl.of_owns hD.out.1 (by have:=outTo_len s xs k;omega);have hb':=hD.out.2;have hF:=FarB.of_owns hD.out.1;have hq:sumTo xs k=debtSum xs:=by rw [hkm,sumTo_all]
          rw [hkm] at hS;clear hkm hD F P h1;rw [hq] at *;generalize debtSum xs=p at *
          by_cases hv:s < p
          · have hP:=Lib.hid (show s=min p s by omega)
            go_wp2;go_ret3;exact ⟨_,retT3 hP.out,hS,hb',hF⟩
          · have hP:=Lib.hid (show p=min p s by omega)
            go_wp2;go_ret3;exact ⟨_,retT3 hP.out,hS,hb',hF⟩
    · have hok:¬ recOk xs t bp=true:=by simp [recOk,hE,hs]
      have e1:recL xs t bp=[]:=by simp [recL,hok]
      have e2:recP xs t bp=0:=by simp [recP,hok]
      have e3:recE xs t bp=2:=by simp [recE,hE,hs]
      have e4:shareE t bp=2:=by simp [shareE,hs]
      rw [e1,e2,e3];rw [hE] at F;rw [e4] at P;clear e1 e2 e3 e4 hok hs hE;go_enter Tryz.func58,Tryz.ntmps58
      go_wp2_with fail
      refine (F.out _ h).mono ?_;rintro e w1 ⟨rfl,rfl⟩
      go_wp2_with (first | (go_at_call 114;refine (P.out _).mono ?_;rintro e w' ⟨rfl,rfl⟩))
      go_ret3;exact ⟨_,rfl,Sl.nil _ _,Below.refl _ _,FarB.nil _ _ _⟩
  · have hok:¬ recOk xs t bp=true:=by simp [recOk,hE]
    have e1:recL xs t bp=[]:=by simp [recL,hok]
    have e2:recP xs t bp=0:=by simp [recP,hok]
    have e3:recE xs t bp=debtE xs:=by simp [recE,hE]
    have hb:(debtE xs != 0)=true:=by simp [hE]
    rw [e1,e2,e3];clear e1 e2 e3 hok hE;go_enter Tryz.func58,Tryz.ntmps58
    go_wp2_with fail
    refine (F.out _ h).mono ?_;rintro e w1 ⟨rfl,rfl⟩;go_wp2;go_ret3;exact ⟨_,rfl,Sl.nil _ _,Below.refl _ _,FarB.nil _ _ _⟩
end
end Go.Proofs.YtdjgcenjonegjaaGreat
