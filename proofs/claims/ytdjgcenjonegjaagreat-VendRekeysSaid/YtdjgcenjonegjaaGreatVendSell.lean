/- vend.sell -/
import Derived.Test.YtdjgcenjonegjaaGreatPk46
set_option maxRecDepth 20000
set_option maxHeartbeats 8000000
set_option linter.unusedSimpArgs false
set_option linter.unusedVariables false
namespace Go.Proofs.YtdjgcenjonegjaaGreat
open Go Go.RowKit
theorem Own.t15 {w:World} {g:Nat} {x0 x1 x2 x3 x4 x5 x6 x7 x8 x9 x10 x11 x12 x13 x14:Value} {l:List Value} (h:Own w g (x0::x1::x2::x3::x4::x5::x6::x7::x8::x9::x10::x11::x12::x13::x14::l)):w.cell? ⟨g,0,none⟩=some x0∧w.cell? ⟨g,1,none⟩=some x1∧w.cell? ⟨g,2,none⟩=some x2∧w.cell? ⟨g,3,none⟩=some x3∧w.cell? ⟨g,4,none⟩=some x4∧w.cell? ⟨g,5,none⟩=some x5∧w.cell? ⟨g,6,none⟩=some x6∧w.cell? ⟨g,7,none⟩=some x7∧w.cell? ⟨g,8,none⟩=some x8∧w.cell? ⟨g,9,none⟩=some x9∧w.cell? ⟨g,10,none⟩=some x10∧w.cell? ⟨g,11,none⟩=some x11∧w.cell? ⟨g,12,none⟩=some x12∧w.cell? ⟨g,13,none⟩=some x13∧w.cell? ⟨g,14,none⟩=some x14:=⟨h.c0,h.c1,h.c2,h.c3,h.c4,h.c5,h.c6,h.c7,h.c8,h.c9,h.c10,h.c11,h.c12,h.c13,by simpa using h.cell 14 (by simp)⟩
theorem Own.s15 {w:World} {g:Nat} {x0 x1 x2 x3 x4 x5 x6 x7 x8 x9 x10 x11 x12 x13 x14:Value} {l:List Value} (h:Own w g (x0::x1::x2::x3::x4::x5::x6::x7::x8::x9::x10::x11::x12::x13::x14::l)):(∀ j,w.frozen? ⟨g,j,none⟩=false)∧w.cell? ⟨g,0,none⟩=some x0∧w.cell? ⟨g,1,none⟩=some x1∧w.cell? ⟨g,2,none⟩=some x2∧w.cell? ⟨g,3,none⟩=some x3∧w.cell? ⟨g,4,none⟩=some x4∧w.cell? ⟨g,5,none⟩=some x5∧w.cell? ⟨g,6,none⟩=some x6∧w.cell? ⟨g,7,none⟩=some x7∧w.cell? ⟨g,8,none⟩=some x8∧w.cell? ⟨g,9,none⟩=some x9∧w.cell? ⟨g,10,none⟩=some x10∧w.cell? ⟨g,11,none⟩=some x11∧w.cell? ⟨g,12,none⟩=some x12∧w.cell? ⟨g,13,none⟩=some x13∧w.cell? ⟨g,14,none⟩=some x14:=⟨h.f,h.t15⟩
theorem put7 {W W0:World} {B p:Nat} {a0 a1 a2 a3 a4 a5 a6:Value} (hp:Own W p [a0,a1,a2,a3,a4,a5,a6]) (x0 x1 x2 x3 x4 x5 x6:Value) (k:Below B W0 W) (hB:B≤p):
    Own (((((((W.setCell ⟨p,0,none⟩ x0).setCell ⟨p,1,none⟩ x1).setCell ⟨p,2,none⟩ x2).setCell ⟨p,3,none⟩ x3).setCell ⟨p,4,none⟩ x4).setCell ⟨p,5,none⟩ x5).setCell ⟨p,6,none⟩ x6) p [x0,x1,x2,x3,x4,x5,x6]∧(∀ q cs,q≠p→Own W q cs→Own (((((((W.setCell ⟨p,0,none⟩ x0).setCell ⟨p,1,none⟩ x1).setCell ⟨p,2,none⟩ x2).setCell ⟨p,3,none⟩ x3).setCell ⟨p,4,none⟩ x4).setCell ⟨p,5,none⟩ x5).setCell ⟨p,6,none⟩ x6) q cs)∧Below B W0 (((((((W.setCell ⟨p,0,none⟩ x0).setCell ⟨p,1,none⟩ x1).setCell ⟨p,2,none⟩ x2).setCell ⟨p,3,none⟩ x3).setCell ⟨p,4,none⟩ x4).setCell ⟨p,5,none⟩ x5).setCell ⟨p,6,none⟩ x6):=
  ⟨hp.set7 x0 x1 x2 x3 x4 x5 x6,fun q cs hq h=>(((((((h.other (a:=⟨p,0,none⟩) (Ne.symm hq) _).other (a:=⟨p,1,none⟩) (Ne.symm hq) _).other (a:=⟨p,2,none⟩) (Ne.symm hq) _).other (a:=⟨p,3,none⟩) (Ne.symm hq) _).other (a:=⟨p,4,none⟩) (Ne.symm hq) _).other (a:=⟨p,5,none⟩) (Ne.symm hq) _).other (a:=⟨p,6,none⟩) (Ne.symm hq) _),
    ((((((k.setCell (p:=⟨p,0,none⟩) hB _).setCell (p:=⟨p,1,none⟩) hB _).setCell (p:=⟨p,2,none⟩) hB _).setCell (p:=⟨p,3,none⟩) hB _).setCell (p:=⟨p,4,none⟩) hB _).setCell (p:=⟨p,5,none⟩) hB _).setCell (p:=⟨p,6,none⟩) hB _⟩
theorem zero_at (W:World) (g:Nat) (hg:g=W.heap.size) (o:Obj):(W.alloc o).heap[g]?=some o:=by subst hg;show (W.heap.push o)[W.heap.size]?=some o;simp
/-- an account as it lies -/
abbrev accV (x:AAcc) (v:Value):Value:=.agg #[I x.meter,I x.rev,I x.next,I x.month,I x.bought,I x.free,v]
theorem vsell_any (F : Nat) (caps : Array Value) (aE : AAcc → List ADebt → Int) (aX : AAcc → List ADebt → AAcc) (aL : AAcc → List ADebt → List ADebt) (aB : AAcc → List ADebt → ABill)
    (hen:∀ args W,(callFunc F args).run Tryz.prog W=.ok (.enter F args) W) (hM:∀ x ds,aE x ds=0→accMay x ds=true)
    (t:PTerms) (tv cv ov:Value) (xs:List Int) (ps:List APair) (ki me mo cls draw:Int) (w:World)
    (HW:∀ x dv ds W,Below w.heap.size w W→Sl W dv 2 ds.length (ds.flatMap ADebt.cells)→Calls Tryz.prog F (#[accV x dv]++caps) W (GrewAccB (aX x ds) (aL x ds) (aB x ds) (aE x ds) W))
    (ht:Sl w tv 2 t.ts.length (t.ts.flatMap AStep.cells)) (hc:Sl w cv 1 xs.length (xs.map U32)) (hw:∀ x∈xs,W32 x) (ho:Sl w ov 4 ps.length (ps.flatMap APair.cells)) (hpw:∀ p∈ps,p.wf):
    Calls Tryz.prog 26 #[.agg #[tv,I t.f,I t.b,I t.d,I t.al],cv,.agg #[ov],I draw,.agg #[I ki,I me,I mo,I 0,I 0,I 0,I 0,I 0,I 0,I 0,I 0,I 0,I 0,I cls,.func (.func F) #[] caps]] w (VtP (vtO t xs ps ki me mo cls draw aE aX aB) w):=by
  obtain ⟨kB,oT,oO,oD,oZ⟩:=boxes4 w [tv,I t.f,I t.b,I t.d,I t.al] 24 [ov] 35 [I ki,I me,I mo,I 0,I 0,I 0,I 0,I 0,I 0,I 0,I 0,I 0,I 0,I cls,.func (.func F) #[] caps] 87 [.slice none 0 0,.slice none 0 0,I 0,I 0,I 0,I 0,I 0,I 0,I 0,I 0,.string ⟨#[]⟩] 82;have HZ0:=Lib.hid (zero_at (((w.alloc (.cells #[tv,I t.f,I t.b,I t.d,I t.al] 24)).alloc (.cells #[ov] 35)).alloc (.cells #[I ki,I me,I mo,I 0,I 0,I 0,I 0,I 0,I 0,I 0,I 0,I 0,I 0,I cls,.func (.func F) #[] caps] 87)) (w.heap.size+3) (by simp) (.cells #[.slice none 0 0,.slice none 0 0,I 0,I 0,I 0,I 0,I 0,I 0,I 0,I 0,.string ⟨#[]⟩] 82));have P:=Lib.hid (open_any t tv cv xs _ (ht.below kB) (hc.below kB) hw);have KB:=Lib.hid kB;have HC:=Lib.hid hc;have HWW:=Lib.hid hw;have HO:=Lib.hid ho;have HPW:=Lib.hid hpw;have OO:=Lib.hid oO;have OD:=Lib.hid oD;have OZ:=Lib.hid oZ;have WK:=Lib.hid HW;have HM:=Lib.hid hM;have tO:=oT;have tA:=tO.s5;clear tO;obtain ⟨a,cap,rfl,-⟩:=_root_.id hc;obtain ⟨oa,oc,rfl,-⟩:=_root_.id ho;clear hw ht kB oT hc oD oO oZ ho hpw HW hM;go_enter Tryz.func26,Tryz.ntmps26
  go_wp2_with fail
  refine P.out.mono ?_;rintro e w1 hP;unfold OpenP at hP;clear tA;have r1:=set_same;have r2:=set_off
  by_cases h0:loadE t xs=0
  · obtain ⟨sg, bv, ys, rfl, hs, hb, k1⟩ := hP.1 h0
    have kk:=KB.out.trans (k1.mono KB.out.size);have HS:=Lib.hid hs;have HB:=Lib.hid hb;have KK:=Lib.hid kk;have H0:=Lib.hid h0;have OD1:=Lib.hid (OD.out.below k1);have OO1:=Lib.hid (OO.out.below k1);have OZ1:=Lib.hid (OZ.out.below k1);have hbd:=(loadC_bd t xs).1;have CU:=Lib.hid (customer_any sg _ bv (.slice a xs.length cap) tv (I t.f) (I t.b) (I t.d) (I t.al) (I ((keptL xs).length:Nat)) (loadC t xs) ys me _ hs hb (by omega));have hsg:w.heap.size+4≤w1.heap.size:=by have:=k1.size;simp at this;omega
    have hsgl:=hs.lt;have HZ1:=Lib.hid ((k1.block (w.heap.size+3) (by simp)).trans HZ0.out);have dO:=OD1.out;have dA:=dO.s15;clear dO;clear hP h0 P hs k1 kk hbd OD OO OZ
    go_wp2_with fail
    refine CU.out.mono ?_;rintro e w2 hQ;unfold CustP at hQ;clear dA
    by_cases h3:0≤idxOf (loadC t xs) me
    · obtain ⟨j, hj⟩ := Int.eq_ofNat_of_zero_le h3
      have hjl:j < (loadC t xs).length:=by rcases idxOf_bd (loadC t xs) me with h | h<;>omega
      obtain ⟨g,gcap,rfl,rfl,k2⟩:=hQ.1 h3;have HCU:=Lib.hid (custOf_meter h3);have hcu:custOf t xs me=(loadC t xs).getD j default:=by unfold custOf;rw [hj];rfl
      have HVO:=Lib.hid (fun c hc=>vtO_cust (ps:=ps) (ki:=ki) (mo:=mo) (cls:=cls) (draw:=draw) (aE:=aE) (aX:=aX) (aB:=aB) (c:=c) H0.out h3 hc);rw [hcu] at HCU HVO;rw [hj,Int.toNat_natCast];have kk2:=KK.out.trans (k2.mono KK.out.size);have hb2:=HB.out.below k2;have hcell:=book_cells hb2 hjl;have hCR:=hb2.2.2.1 j hjl;have hgl:=hb2.2.1.lt g rfl;have HCE:=Lib.hid hcell;have OD2:=Lib.hid (OD1.out.below k2);have OO2:=Lib.hid (OO1.out.below k2);have OZ2:=Lib.hid (OZ1.out.below k2);have HS2:=Lib.hid (HS.out.below k2);have KK2:=Lib.hid kk2;have hsg2:w.heap.size+4≤w2.heap.size:=Nat.le_trans hsg k2.size;have hw12:=k2.size;have HZ2:=Lib.hid ((k2.block (w.heap.size+3) (by omega)).trans HZ1.out);generalize ys.getD j default=x at *;generalize (loadC t xs).getD j default=c at *;obtain ⟨hxe,hSd,hSo⟩:=hCR;obtain ⟨m1,m2,m3,m4,m5,m6,da,dn,dc,sa,sn,sc⟩:=x;simp only [ofCust,ACust.mk.injEq,true_and,and_true] at hxe;obtain ⟨rfl,rfl,rfl,rfl,rfl,rfl,rfl,rfl⟩:=hxe;obtain ⟨⟨m1,m2,m3,m4,m5,m6⟩,ds,ss⟩:=c;simp only at hSd HCE HCU;have hVO:=HVO.out _ rfl;simp only at hVO;have hMM:=HM.out ⟨m1,m2,m3,m4,m5,m6⟩ ds;have hWK:=fun W hB hS=>WK.out ⟨m1,m2,m3,m4,m5,m6⟩ (.slice da ds.length dc) ds W hB hS;unfold GrewAccB at hWK;generalize aE ⟨m1,m2,m3,m4,m5,m6⟩ ds=E at *;generalize aX ⟨m1,m2,m3,m4,m5,m6⟩ ds=X at *;generalize aL ⟨m1,m2,m3,m4,m5,m6⟩ ds=L at *;generalize aB ⟨m1,m2,m3,m4,m5,m6⟩ ds=B at *;obtain ⟨X1,X2,X3,X4,X5,X6⟩:=X;obtain ⟨b1,b2,b3,b4,b5,b6,b7⟩:=B;simp only [accV] at hWK;have WK2:=Lib.hid hWK;have HVT:=Lib.hid hVO;have HAM:=Lib.hid hMM;have HSd:=Lib.hid hSd;clear hQ h3 k2 CU hb2 kk2 hcell hSd hSo hj hVO hMM HVO hcu WK HM hWK;have hj0:(0:Int)≤(j:Int):=by omega
      go_upto_region 7 with fail
      go_cut [13,15,16] (fun s13 s15 s16 wx=>∃ p q,s13=I E∧s15=.pointer (some ⟨p,0,none⟩)∧s16=.pointer (some ⟨q,0,none⟩)∧(w2.heap.size≤p∧w2.heap.size≤q)∧Below w2.heap.size w2 wx∧Own wx q [I b1,I b2,I b3,I b4,I b5,I b6,I b7]∧∃ u,Own wx p [I X1,I X2,I X3,I X4,I X5,I X6,u])
      case first=>
        have HSS:(fun W=>Own W (w.heap.size+2) [I ki,I me,I mo,I 0,I 0,I 0,I 0,I 0,I 0,I 0,I 0,I 0,I 0,I cls,.func (.func F) #[] caps]∧∀ i,i < 8→W.cell? ⟨g,j*8+i,none⟩=some ((ACust.mk m1 m2 m3 m4 m5 m6 da ds.length dc sa ss.length sc).cells.getD i undef)) w2.drew:=⟨OD2.out,fun i hi=>(HCE.out i hi).1⟩;have HF:=fun (W:World) (h:(fun W=>Own W (w.heap.size+2) [I ki,I me,I mo,I 0,I 0,I 0,I 0,I 0,I 0,I 0,I 0,I 0,I 0,I cls,.func (.func F) #[] caps]∧∀ i,i < 8→W.cell? ⟨g,j*8+i,none⟩=some ((ACust.mk m1 m2 m3 m4 m5 m6 da ds.length dc sa ss.length sc).cells.getD i undef)) W)=>(And.intro (Own.t15 h.1) (And.intro (h.2 0 (by decide)) (And.intro (h.2 1 (by decide)) (And.intro (h.2 2 (by decide)) (And.intro (h.2 3 (by decide)) (And.intro (h.2 4 (by decide)) (And.intro (h.2 5 (by decide)) (h.2 6 (by decide)))))))));simp only [ACust.cells,List.getD_cons_zero,List.getD_cons_succ,Nat.add_zero] at HF;refine AnyC.begin 6 (fun W=>Own W (w.heap.size+2) [I ki,I me,I mo,I 0,I 0,I 0,I 0,I 0,I 0,I 0,I 0,I 0,I 0,I cls,.func (.func F) #[] caps]∧∀ i,i < 8→W.cell? ⟨g,j*8+i,none⟩=some ((ACust.mk m1 m2 m3 m4 m5 m6 da ds.length dc sa ss.length sc).cells.getD i undef)) (by kernel_rfl) ?_;refine AnyC.tk 0 ?_ HSS ?_ ?_;rotate_left
        · (intro W hSw;have hf:=HF W hSw;clear hSw;first | (go_simp;done) | (go_simp;with_reducible rfl))
        (try simp only [Act.put]);(try simp only [List.setIfInBounds_toArray]);refine AnyC.tk 1 ?_ HSS ?_ ?_;rotate_left
        · (intro W hSw;have hf:=HF W hSw;clear hSw;first | (go_simp;done) | (go_simp;with_reducible rfl))
        (try simp only [Act.put]);refine AnyC.tk 2 ?_ HSS ?_ ?_;rotate_left
        · (intro W hSw;have hf:=HF W hSw;clear hSw;first | (go_simp;done) | (go_simp;with_reducible rfl))
        (try simp only [Act.put]);refine AnyC.tk 3 ?_ HSS ?_ ?_;rotate_left
        · (intro W hSw;have hf:=HF W hSw;clear hSw;first | (go_simp;done) | (go_simp;with_reducible rfl))
        (try simp only [Act.put]);refine AnyC.tk 4 ?_ HSS ?_ ?_;rotate_left
        · (intro W hSw;have hf:=HF W hSw;clear hSw;first | (go_simp;done) | (go_simp;with_reducible rfl))
        (try simp only [Act.put]);refine AnyC.tk 5 ?_ HSS ?_ ?_;rotate_left
        · (intro W hSw;have hf:=HF W hSw;clear hSw;first | (go_simp;done) | (go_simp;with_reducible rfl))
        (try simp only [Act.put]);refine AnyC.three (i:=6) (j:=11) (l:=12) (by kernel_rfl) (by rfl) (by rfl) (by rfl) (fun K hK=>?_) (fun K hK=>?_) (fun K hK=>?_)
        · go_simp
          (with_reducible refine (WK2.out _ ?_ ?_).mono ?_)
          · exact KK2.out.drew
          · exact HSd.out
          rintro e w4 ⟨u,rfl,hu,k4⟩;obtain ⟨ua,uc,rfl,-⟩:=_root_.id hu;have k4':Below w2.heap.size w2 w4:=⟨k4.os,k4.tape,k4.output,k4.size,k4.block⟩;clear hu k4 HSS
          go_wp2_with fail
          refine hK.out _ _ (fun h=>absurd rfl h) ?_;clear hK K;(try simp only [Act.put]);refine AnyC.pu 7 ?_ ?_ ?_;rotate_left
          · (intro w;first | (go_simp;done) | (go_simp;with_reducible rfl))
          (try simp only [Act.put]);refine AnyC.pu 8 ?_ ?_ ?_;rotate_left
          · (intro w;first | (go_simp;done) | (go_simp;with_reducible rfl))
          (try simp only [Act.put]);refine AnyC.pu 9 ?_ ?_ ?_;rotate_left
          · (intro w;first | (go_simp;done) | (go_simp;with_reducible rfl))
          (try simp only [Act.put]);refine AnyC.pu 10 ?_ ?_ ?_;rotate_left
          · (intro w;first | (go_simp;done) | (go_simp;with_reducible rfl))
          (try simp only [Act.put]);refine AnyC.two (i:=11) (j:=12) (by kernel_rfl) (by rfl) (by rfl) (fun K hK=>?_) (fun K hK=>?_)
          · go_simp
            refine hK.out _ _ (fun _ h=>absurd h (by decide)) ?_;clear hK K;(try simp only [Act.put]);refine AnyC.one (i:=12) (by kernel_rfl) (by rfl) (fun K hK=>?_);go_simp;refine hK.out _ _ (fun _ h=>absurd h (by decide)) ?_;clear hK K;(try simp only [Act.put]);refine AnyC.one (i:=13) (by kernel_rfl) (by rfl) (fun K hK=>?_);go_simp;refine hK.out _ _ (fun _ h=>absurd h (by decide)) ?_;clear hK K;(try simp only [Act.put]);refine AnyC.one (i:=14) (by kernel_rfl) (by rfl) (fun K hK=>?_);go_simp;refine hK.out _ _ (fun _ h=>absurd h (by decide)) ?_;clear hK K;(try simp only [Act.put]);refine AnyC.one (i:=15) (by kernel_rfl) (by rfl) (fun K hK=>?_);go_simp;refine hK.out _ _ (fun _ h=>absurd h (by decide)) ?_;clear hK K;(try simp only [Act.put]);refine AnyC.done (by kernel_rfl) ?_ _
            go_wp2_with fail
            go_meet;exact ⟨w4.heap.size,w4.heap.size+1,rfl,rfl,rfl,⟨k4'.size,Nat.le_succ_of_le k4'.size⟩,(k4'.alloc k4'.size _).alloc (k4'.alloc k4'.size _).size _,Own.new (by simp) _ _,_,(Own.new rfl _ _).alloc _⟩
          · go_simp
            refine hK.out _ _ (fun _ h=>absurd h (by decide)) ?_;clear hK K;(try simp only [Act.put]);refine AnyC.one (i:=11) (by kernel_rfl) (by rfl) (fun K hK=>?_);go_simp;refine hK.out _ _ (fun _ h=>absurd h (by decide)) ?_;clear hK K;(try simp only [Act.put]);refine AnyC.one (i:=13) (by kernel_rfl) (by rfl) (fun K hK=>?_);go_simp;refine hK.out _ _ (fun _ h=>absurd h (by decide)) ?_;clear hK K;(try simp only [Act.put]);refine AnyC.one (i:=14) (by kernel_rfl) (by rfl) (fun K hK=>?_);go_simp;refine hK.out _ _ (fun _ h=>absurd h (by decide)) ?_;clear hK K;(try simp only [Act.put]);refine AnyC.one (i:=15) (by kernel_rfl) (by rfl) (fun K hK=>?_);go_simp;refine hK.out _ _ (fun _ h=>absurd h (by decide)) ?_;clear hK K;(try simp only [Act.put]);refine AnyC.done (by kernel_rfl) ?_ _
            go_wp2_with fail
            go_meet;exact ⟨w4.heap.size+1,w4.heap.size,rfl,rfl,rfl,⟨Nat.le_succ_of_le k4'.size,k4'.size⟩,(k4'.alloc k4'.size _).alloc (k4'.alloc k4'.size _).size _,(Own.new rfl _ _).alloc _,_,Own.new (by simp) _ _⟩
        · go_simp
          have kP:Below w2.heap.size w2 (World.drew (w2.alloc (.cells #[I 0,I 0,I 0,I 0,I 0,I 0,.slice none 0 0] 64))):=(boxed_below w2 _).drew;have oP:Own (World.drew (w2.alloc (.cells #[I 0,I 0,I 0,I 0,I 0,I 0,.slice none 0 0] 64))) w2.heap.size [I 0,I 0,I 0,I 0,I 0,I 0,.slice none 0 0]:=Own.new rfl _ _;have hsP:(World.drew (w2.alloc (.cells #[I 0,I 0,I 0,I 0,I 0,I 0,.slice none 0 0] 64))).heap.size=w2.heap.size+1:=by simp
          refine hK.out _ _ (fun _ _=>⟨OD2.out.below kP,fun i hi=>(kP.cell (p:=⟨g,j*8+i,none⟩) hgl.2).trans (HCE.out i hi).1⟩) ?_;clear hK K HSS;(try simp only [Act.put]);refine AnyC.two (i:=6) (j:=12) (by kernel_rfl) (by rfl) (by rfl) (fun K hK=>?_) (fun K hK=>?_)
          · go_simp
            (with_reducible refine (WK2.out _ ?_ ?_).mono ?_)
            · exact KK2.out.trans (kP.mono KK2.out.size)
            · exact HSd.out.below kP
            rintro e w4 ⟨u,rfl,hu,k4⟩;obtain ⟨ua,uc,rfl,-⟩:=_root_.id hu;have k4':Below (w2.heap.size+1) (World.drew (w2.alloc (.cells #[I 0,I 0,I 0,I 0,I 0,I 0,.slice none 0 0] 64))) w4:=by rw [← hsP];exact k4
            have oP4:=oP.below (k4'.mono (by omega));have kw4:=kP.trans (k4'.mono (by omega));have hlt4:w2.heap.size < w4.heap.size:=oP4.lt;have n1:¬ w2.heap.size=w4.heap.size:=by omega
            have n2:¬ w4.heap.size=w2.heap.size:=by omega
            have oP5:=oP4.alloc (.cells #[I 0,I 0,I 0,I 0,I 0,I 0,I 0] 39);have oN5:=Own.new (w:=w4) rfl [I 0,I 0,I 0,I 0,I 0,I 0,I 0] 39;have kw5:=kw4.alloc kw4.size (.cells #[I 0,I 0,I 0,I 0,I 0,I 0,I 0] 39);have HP4:=Lib.hid oP4;have KW4:=Lib.hid kw4;clear hu k4 oP kP k4' oP4 kw4 kw5;have aO:=HP4.out;have aA:=aO.s7;clear aO;have dO:=oP5;have dA:=dO.s7;clear dO;have qO:=oN5;have qA:=qO.s7;clear qO;have r3:=set_blk;clear oP5 oN5
            go_wp2_with fail
            refine hK.out _ _ (fun h=>absurd rfl h) ?_;clear hK K;(try simp only [Act.put]);refine AnyC.pu 7 ?_ ?_ ?_;rotate_left
            · (intro w;first | (go_simp;done) | (go_simp;with_reducible rfl))
            (try simp only [Act.put]);refine AnyC.pu 8 ?_ ?_ ?_;rotate_left
            · (intro w;first | (go_simp;done) | (go_simp;with_reducible rfl))
            (try simp only [Act.put]);refine AnyC.pu 9 ?_ ?_ ?_;rotate_left
            · (intro w;first | (go_simp;done) | (go_simp;with_reducible rfl))
            (try simp only [Act.put]);refine AnyC.pu 10 ?_ ?_ ?_;rotate_left
            · (intro w;first | (go_simp;done) | (go_simp;with_reducible rfl))
            (try simp only [Act.put]);refine AnyC.one (i:=12) (by kernel_rfl) (by rfl) (fun K hK=>?_);go_simp;refine hK.out _ _ (fun _ h=>absurd h (by decide)) ?_;clear hK K;(try simp only [Act.put]);refine AnyC.one (i:=13) (by kernel_rfl) (by rfl) (fun K hK=>?_);go_simp;refine hK.out _ _ (fun _ h=>absurd h (by decide)) ?_;clear hK K;(try simp only [Act.put]);refine AnyC.one (i:=14) (by kernel_rfl) (by rfl) (fun K hK=>?_);go_simp;refine hK.out _ _ (fun _ h=>absurd h (by decide)) ?_;clear hK K;(try simp only [Act.put]);refine AnyC.one (i:=15) (by kernel_rfl) (by rfl) (fun K hK=>?_);go_simp;refine hK.out _ _ (fun _ h=>absurd h (by decide)) ?_;clear hK K;(try simp only [Act.put]);refine AnyC.done (by kernel_rfl) ?_ _
            go_wp2_with fail
            go_meet;obtain ⟨u1,u2,u3⟩:=put7 HP4.out (I X1) (I X2) (I X3) (I X4) (I X5) (I X6) (.slice ua L.length uc) KW4.out (Nat.le_refl _);exact ⟨w2.heap.size,w4.heap.size,rfl,rfl,rfl,⟨Nat.le_refl _,Nat.le_of_lt hlt4⟩,u3.alloc u3.size _,Own.new (by simp) _ _,_,u1.alloc _⟩
          · go_simp
            have kQ:Below w2.heap.size w2 (World.drew ((w2.alloc (.cells #[I 0,I 0,I 0,I 0,I 0,I 0,.slice none 0 0] 64)).alloc (.cells #[I 0,I 0,I 0,I 0,I 0,I 0,I 0] 39))):=((boxed_below w2 _).alloc (boxed_below w2 _).size _).drew;have oQ1:Own (World.drew ((w2.alloc (.cells #[I 0,I 0,I 0,I 0,I 0,I 0,.slice none 0 0] 64)).alloc (.cells #[I 0,I 0,I 0,I 0,I 0,I 0,I 0] 39))) w2.heap.size [I 0,I 0,I 0,I 0,I 0,I 0,.slice none 0 0]:=(Own.new rfl _ _).alloc _;have oQ2:Own (World.drew ((w2.alloc (.cells #[I 0,I 0,I 0,I 0,I 0,I 0,.slice none 0 0] 64)).alloc (.cells #[I 0,I 0,I 0,I 0,I 0,I 0,I 0] 39))) (w2.heap.size+1) [I 0,I 0,I 0,I 0,I 0,I 0,I 0]:=Own.new (by simp) _ _;have hsQ:(World.drew ((w2.alloc (.cells #[I 0,I 0,I 0,I 0,I 0,I 0,.slice none 0 0] 64)).alloc (.cells #[I 0,I 0,I 0,I 0,I 0,I 0,I 0] 39))).heap.size=w2.heap.size+2:=by simp
            clear oP kP hsP;refine hK.out _ _ (fun _ _=>⟨OD2.out.below kQ,fun i hi=>(kQ.cell (p:=⟨g,j*8+i,none⟩) hgl.2).trans (HCE.out i hi).1⟩) ?_;clear hK K;(try simp only [Act.put]);refine AnyC.one (i:=6) (by kernel_rfl) (by rfl) (fun K hK=>?_);go_simp;(with_reducible refine (WK2.out _ ?_ ?_).mono ?_)
            · exact KK2.out.trans (kQ.mono KK2.out.size)
            · exact HSd.out.below kQ
            rintro e w4 ⟨u,rfl,hu,k4⟩;obtain ⟨ua,uc,rfl,-⟩:=_root_.id hu;have k4':Below (w2.heap.size+2) (World.drew ((w2.alloc (.cells #[I 0,I 0,I 0,I 0,I 0,I 0,.slice none 0 0] 64)).alloc (.cells #[I 0,I 0,I 0,I 0,I 0,I 0,I 0] 39))) w4:=by rw [← hsQ];exact k4
            have oQ14:=oQ1.below (k4'.mono (by omega));have oQ24:=oQ2.below (k4'.mono (by omega));have kw4:=kQ.trans (k4'.mono (by omega));have HQ:=Lib.hid (And.intro oQ14 (And.intro oQ24 kw4));have n1:¬ w2.heap.size=w2.heap.size+1:=by omega
            have n2:¬ w2.heap.size+1=w2.heap.size:=by omega
            have aO:=oQ14;have aA:=aO.s7;clear aO;have qO:=oQ24;have qA:=qO.s7;clear qO;have r3:=set_blk;clear hu k4 oQ1 oQ2 oQ14 oQ24 kQ k4' kw4
            go_wp2_with fail
            refine hK.out _ _ (fun h=>absurd rfl h) ?_;clear hK K;(try simp only [Act.put]);refine AnyC.pu 7 ?_ ?_ ?_;rotate_left
            · (intro w;first | (go_simp;done) | (go_simp;with_reducible rfl))
            (try simp only [Act.put]);refine AnyC.pu 8 ?_ ?_ ?_;rotate_left
            · (intro w;first | (go_simp;done) | (go_simp;with_reducible rfl))
            (try simp only [Act.put]);refine AnyC.pu 9 ?_ ?_ ?_;rotate_left
            · (intro w;first | (go_simp;done) | (go_simp;with_reducible rfl))
            (try simp only [Act.put]);refine AnyC.pu 10 ?_ ?_ ?_;rotate_left
            · (intro w;first | (go_simp;done) | (go_simp;with_reducible rfl))
            (try simp only [Act.put]);refine AnyC.one (i:=13) (by kernel_rfl) (by rfl) (fun K hK=>?_);go_simp;refine hK.out _ _ (fun _ h=>absurd h (by decide)) ?_;clear hK K;(try simp only [Act.put]);refine AnyC.one (i:=14) (by kernel_rfl) (by rfl) (fun K hK=>?_);go_simp;refine hK.out _ _ (fun _ h=>absurd h (by decide)) ?_;clear hK K;(try simp only [Act.put]);refine AnyC.one (i:=15) (by kernel_rfl) (by rfl) (fun K hK=>?_);go_simp;refine hK.out _ _ (fun _ h=>absurd h (by decide)) ?_;clear hK K;(try simp only [Act.put]);refine AnyC.done (by kernel_rfl) ?_ _
            go_wp2_with fail
            go_meet;obtain ⟨u1,u2,u3⟩:=put7 HQ.out.1 (I X1) (I X2) (I X3) (I X4) (I X5) (I X6) (.slice ua L.length uc) HQ.out.2.2 (Nat.le_refl _);obtain ⟨v1,v2,v3⟩:=put7 (u2 _ _ (Ne.symm n1) HQ.out.2.1) (I b1) (I b2) (I b3) (I b4) (I b5) (I b6) (I b7) u3 (Nat.le_succ _);exact ⟨w2.heap.size,w2.heap.size+1,rfl,rfl,rfl,⟨Nat.le_refl _,Nat.le_succ _⟩,v3,v1,_,v2 _ _ n1 u1⟩
        · go_simp
          have kP:Below w2.heap.size w2 (World.drew (w2.alloc (.cells #[I 0,I 0,I 0,I 0,I 0,I 0,I 0] 39))):=(boxed_below w2 _).drew;have oP:Own (World.drew (w2.alloc (.cells #[I 0,I 0,I 0,I 0,I 0,I 0,I 0] 39))) w2.heap.size [I 0,I 0,I 0,I 0,I 0,I 0,I 0]:=Own.new rfl _ _;have hsP:(World.drew (w2.alloc (.cells #[I 0,I 0,I 0,I 0,I 0,I 0,I 0] 39))).heap.size=w2.heap.size+1:=by simp
          refine hK.out _ _ (fun _ _=>⟨OD2.out.below kP,fun i hi=>(kP.cell (p:=⟨g,j*8+i,none⟩) hgl.2).trans (HCE.out i hi).1⟩) ?_;clear hK K HSS;(try simp only [Act.put]);refine AnyC.two (i:=6) (j:=11) (by kernel_rfl) (by rfl) (by rfl) (fun K hK=>?_) (fun K hK=>?_)
          · go_simp
            (with_reducible refine (WK2.out _ ?_ ?_).mono ?_)
            · exact KK2.out.trans (kP.mono KK2.out.size)
            · exact HSd.out.below kP
            rintro e w4 ⟨u,rfl,hu,k4⟩;obtain ⟨ua,uc,rfl,-⟩:=_root_.id hu;have k4':Below (w2.heap.size+1) (World.drew (w2.alloc (.cells #[I 0,I 0,I 0,I 0,I 0,I 0,I 0] 39))) w4:=by rw [← hsP];exact k4
            have oP4:=oP.below (k4'.mono (by omega));have kw4:=kP.trans (k4'.mono (by omega));have hlt4:w2.heap.size < w4.heap.size:=oP4.lt;have n1:¬ w2.heap.size=w4.heap.size:=by omega
            have n2:¬ w4.heap.size=w2.heap.size:=by omega
            have oP5:=oP4.alloc (.cells #[I 0,I 0,I 0,I 0,I 0,I 0,.slice none 0 0] 64);have oN5:=Own.new (w:=w4) rfl [I 0,I 0,I 0,I 0,I 0,I 0,.slice none 0 0] 64;have kw5:=kw4.alloc kw4.size (.cells #[I 0,I 0,I 0,I 0,I 0,I 0,.slice none 0 0] 64);have HP4:=Lib.hid oP4;have KW4:=Lib.hid kw4;clear hu k4 oP kP k4' oP4 kw4 kw5;have aO:=HP4.out;have aA:=aO.s7;clear aO;have dO:=oP5;have dA:=dO.s7;clear dO;have qO:=oN5;have qA:=qO.s7;clear qO;have r3:=set_blk;clear oP5 oN5
            go_wp2_with fail
            refine hK.out _ _ (fun h=>absurd rfl h) ?_;clear hK K;(try simp only [Act.put]);refine AnyC.pu 7 ?_ ?_ ?_;rotate_left
            · (intro w;first | (go_simp;done) | (go_simp;with_reducible rfl))
            (try simp only [Act.put]);refine AnyC.pu 8 ?_ ?_ ?_;rotate_left
            · (intro w;first | (go_simp;done) | (go_simp;with_reducible rfl))
            (try simp only [Act.put]);refine AnyC.pu 9 ?_ ?_ ?_;rotate_left
            · (intro w;first | (go_simp;done) | (go_simp;with_reducible rfl))
            (try simp only [Act.put]);refine AnyC.pu 10 ?_ ?_ ?_;rotate_left
            · (intro w;first | (go_simp;done) | (go_simp;with_reducible rfl))
            (try simp only [Act.put]);refine AnyC.one (i:=11) (by kernel_rfl) (by rfl) (fun K hK=>?_);go_simp;refine hK.out _ _ (fun _ h=>absurd h (by decide)) ?_;clear hK K;(try simp only [Act.put]);refine AnyC.one (i:=13) (by kernel_rfl) (by rfl) (fun K hK=>?_);go_simp;refine hK.out _ _ (fun _ h=>absurd h (by decide)) ?_;clear hK K;(try simp only [Act.put]);refine AnyC.one (i:=14) (by kernel_rfl) (by rfl) (fun K hK=>?_);go_simp;refine hK.out _ _ (fun _ h=>absurd h (by decide)) ?_;clear hK K;(try simp only [Act.put]);refine AnyC.one (i:=15) (by kernel_rfl) (by rfl) (fun K hK=>?_);go_simp;refine hK.out _ _ (fun _ h=>absurd h (by decide)) ?_;clear hK K;(try simp only [Act.put]);refine AnyC.done (by kernel_rfl) ?_ _
            go_wp2_with fail
            go_meet;obtain ⟨u1,u2,u3⟩:=put7 HP4.out (I b1) (I b2) (I b3) (I b4) (I b5) (I b6) (I b7) KW4.out (Nat.le_refl _);exact ⟨w4.heap.size,w2.heap.size,rfl,rfl,rfl,⟨Nat.le_of_lt hlt4,Nat.le_refl _⟩,u3.alloc u3.size _,u1.alloc _,_,Own.new (by simp) _ _⟩
          · go_simp
            have kQ:Below w2.heap.size w2 (World.drew ((w2.alloc (.cells #[I 0,I 0,I 0,I 0,I 0,I 0,I 0] 39)).alloc (.cells #[I 0,I 0,I 0,I 0,I 0,I 0,.slice none 0 0] 64))):=((boxed_below w2 _).alloc (boxed_below w2 _).size _).drew;have oQ1:Own (World.drew ((w2.alloc (.cells #[I 0,I 0,I 0,I 0,I 0,I 0,I 0] 39)).alloc (.cells #[I 0,I 0,I 0,I 0,I 0,I 0,.slice none 0 0] 64))) w2.heap.size [I 0,I 0,I 0,I 0,I 0,I 0,I 0]:=(Own.new rfl _ _).alloc _;have oQ2:Own (World.drew ((w2.alloc (.cells #[I 0,I 0,I 0,I 0,I 0,I 0,I 0] 39)).alloc (.cells #[I 0,I 0,I 0,I 0,I 0,I 0,.slice none 0 0] 64))) (w2.heap.size+1) [I 0,I 0,I 0,I 0,I 0,I 0,.slice none 0 0]:=Own.new (by simp) _ _;have hsQ:(World.drew ((w2.alloc (.cells #[I 0,I 0,I 0,I 0,I 0,I 0,I 0] 39)).alloc (.cells #[I 0,I 0,I 0,I 0,I 0,I 0,.slice none 0 0] 64))).heap.size=w2.heap.size+2:=by simp
            clear oP kP hsP;refine hK.out _ _ (fun _ _=>⟨OD2.out.below kQ,fun i hi=>(kQ.cell (p:=⟨g,j*8+i,none⟩) hgl.2).trans (HCE.out i hi).1⟩) ?_;clear hK K;(try simp only [Act.put]);refine AnyC.one (i:=6) (by kernel_rfl) (by rfl) (fun K hK=>?_);go_simp;(with_reducible refine (WK2.out _ ?_ ?_).mono ?_)
            · exact KK2.out.trans (kQ.mono KK2.out.size)
            · exact HSd.out.below kQ
            rintro e w4 ⟨u,rfl,hu,k4⟩;obtain ⟨ua,uc,rfl,-⟩:=_root_.id hu;have k4':Below (w2.heap.size+2) (World.drew ((w2.alloc (.cells #[I 0,I 0,I 0,I 0,I 0,I 0,I 0] 39)).alloc (.cells #[I 0,I 0,I 0,I 0,I 0,I 0,.slice none 0 0] 64))) w4:=by rw [← hsQ];exact k4
            have oQ14:=oQ1.below (k4'.mono (by omega));have oQ24:=oQ2.below (k4'.mono (by omega));have kw4:=kQ.trans (k4'.mono (by omega));have HQ:=Lib.hid (And.intro oQ14 (And.intro oQ24 kw4));have n1:¬ w2.heap.size=w2.heap.size+1:=by omega
            have n2:¬ w2.heap.size+1=w2.heap.size:=by omega
            have aO:=oQ14;have aA:=aO.s7;clear aO;have qO:=oQ24;have qA:=qO.s7;clear qO;have r3:=set_blk;clear hu k4 oQ1 oQ2 oQ14 oQ24 kQ k4' kw4
            go_wp2_with fail
            refine hK.out _ _ (fun h=>absurd rfl h) ?_;clear hK K;(try simp only [Act.put]);refine AnyC.pu 7 ?_ ?_ ?_;rotate_left
            · (intro w;first | (go_simp;done) | (go_simp;with_reducible rfl))
            (try simp only [Act.put]);refine AnyC.pu 8 ?_ ?_ ?_;rotate_left
            · (intro w;first | (go_simp;done) | (go_simp;with_reducible rfl))
            (try simp only [Act.put]);refine AnyC.pu 9 ?_ ?_ ?_;rotate_left
            · (intro w;first | (go_simp;done) | (go_simp;with_reducible rfl))
            (try simp only [Act.put]);refine AnyC.pu 10 ?_ ?_ ?_;rotate_left
            · (intro w;first | (go_simp;done) | (go_simp;with_reducible rfl))
            (try simp only [Act.put]);refine AnyC.one (i:=13) (by kernel_rfl) (by rfl) (fun K hK=>?_);go_simp;refine hK.out _ _ (fun _ h=>absurd h (by decide)) ?_;clear hK K;(try simp only [Act.put]);refine AnyC.one (i:=14) (by kernel_rfl) (by rfl) (fun K hK=>?_);go_simp;refine hK.out _ _ (fun _ h=>absurd h (by decide)) ?_;clear hK K;(try simp only [Act.put]);refine AnyC.one (i:=15) (by kernel_rfl) (by rfl) (fun K hK=>?_);go_simp;refine hK.out _ _ (fun _ h=>absurd h (by decide)) ?_;clear hK K;(try simp only [Act.put]);refine AnyC.done (by kernel_rfl) ?_ _
            go_wp2_with fail
            go_meet;obtain ⟨u1,u2,u3⟩:=put7 HQ.out.2.1 (I X1) (I X2) (I X3) (I X4) (I X5) (I X6) (.slice ua L.length uc) HQ.out.2.2 (Nat.le_succ _);obtain ⟨v1,v2,v3⟩:=put7 (u2 _ _ n1 HQ.out.1) (I b1) (I b2) (I b3) (I b4) (I b5) (I b6) (I b7) u3 (Nat.le_refl _);exact ⟨w2.heap.size+1,w2.heap.size,rfl,rfl,rfl,⟨Nat.le_succ _,Nat.le_refl _⟩,v3,v1,_,v2 _ _ n2 u1⟩
      case rest =>
        obtain ⟨wA,hwA⟩:∃ W,W=wc:=⟨_,rfl⟩;subst hwA;obtain ⟨p,q,rfl,rfl,rfl,⟨hp0,hq0⟩,kc,oq,u,op⟩:=hcut;have KKA:=Lib.hid (KK2.out.trans (kc.mono KK2.out.size));have hplt:=op.lt;have hqlt:=oq.lt;have hA2:=kc.size;have HQ:=Lib.hid oq;have HP:=Lib.hid op;have ODA:=Lib.hid (OD2.out.below kc);have OOA:=Lib.hid (OO2.out.below kc);have OZA:=Lib.hid (OZ2.out.below kc);have HSA:=Lib.hid (HS2.out.below kc);have HCA:=Lib.hid (fun i (hi:i < 8)=>(kc.cell (p:=⟨g,j*8+i,none⟩) hgl.2).trans (HCE.out i hi).1);have hglA:g < wA.heap.size:=Nat.lt_of_lt_of_le hgl.2 kc.size;have HZA:=Lib.hid ((kc.block (w.heap.size+3) (by omega)).trans HZ2.out);clear kc oq op OD2 OO2 OZ2 HS2 HCE OD1 OO1 OZ1 WK2 HSd
        by_cases hE:E=0
        · subst hE
          have hbd:=accMay_bd (HAM.out rfl);simp only at hbd;obtain ⟨A,hA⟩:∃ A,vtAmt cls X2 b7=A:=⟨_,rfl⟩;have HA:=Lib.hid hA;go_upto_region 10 with fail
          go_cut [17] (fun s17 wx=>s17=.pointer (some ⟨wA.heap.size,0,none⟩)∧Own wx wA.heap.size [I cls,I b1,I b7,I 0]∧Below wA.heap.size wA wx)
          case first=>
            have dO:=ODA.out;have dA:=dO.s15;clear dO;have qO:=HQ.out;have qA:=qO.s7;clear qO
            go_wp2_with fail
            go_meet;exact ⟨rfl,Own.new rfl _ _,boxed_below _ _⟩
          case rest=>
          obtain ⟨wZ,hwZ⟩:∃ W,W=wc:=⟨_,rfl⟩;subst hwZ;obtain ⟨rfl,otz,kZ⟩:=hcut;have OTZ:=Lib.hid otz;have KZ:=Lib.hid kZ;have dO:=ODA.out.below kZ;have dA:=dO.s15;clear dO;have pO:=HP.out.below kZ;have pA:=pO.s7;clear pO;have kO:=otz;have kA:=kO.s4;clear kO;clear otz kZ;go_step;go_step
          go_cut [] (fun wx=>Own wx wA.heap.size [I cls,I b1,I A,I 0]∧Below wA.heap.size wA wx)
          case first=>
            by_cases hcl:cls=2
            · have hcl2:(cls==2)=true:=by simp [hcl]
              have hAX:A=X2:=by rw [← hA];unfold vtAmt;rw [if_pos hcl]
              subst hAX;clear hA hcl
              go_wp2_with fail
              go_meet;exact ⟨OTZ.out.set 2 _,KZ.out.setCell (p:=⟨wA.heap.size,2,none⟩) (Nat.le_refl _) _⟩
            · have hcl2:(cls==2)=false:=by simp [hcl]
              have hAX:A=b7:=by rw [← hA];unfold vtAmt;rw [if_neg hcl]
              subst hAX;clear hA hcl
              go_wp2_with fail
              go_meet;exact ⟨OTZ.out,KZ.out⟩
          case rest =>
            clear dA pA kA;obtain ⟨wB,hwB⟩:∃ W,W=wc:=⟨_,rfl⟩;subst hwB;obtain ⟨otk,kB⟩:=hcut;have KKB:=Lib.hid (KKA.out.trans (kB.mono KKA.out.size));have ODB:=Lib.hid (ODA.out.below kB);have OOB:=Lib.hid (OOA.out.below kB);have OZB:=Lib.hid (OZA.out.below kB);have HSB:=Lib.hid (HSA.out.below kB);have HQB:=Lib.hid (HQ.out.below kB);have HTKB:=Lib.hid otk;have HCB:=Lib.hid (fun i (hi:i < 8)=>(kB.cell (p:=⟨g,j*8+i,none⟩) hglA).trans (HCA.out i hi));have htk:=otk.lt;have hglB:g < wB.heap.size:=Nat.lt_of_lt_of_le hglA kB.size;have BD:=Lib.hid (fun W=>show Calls Tryz.prog 50 #[.agg #[I cls,I b1,I A,I 0]] W (Grew (T2 (I (bodyV (vtTok cls A b1 0))) (I (tokFault (vtTok cls A b1 0)))) W) from Body_any ⟨cls,b1,A,0⟩ W);have kO:=otk;have kA:=kO.s4;clear kO;have HZB:=Lib.hid ((kB.block (w.heap.size+3) (by omega)).trans HZA.out);clear otk kB ODA OOA OZA HSA HCA hA HQ HP
            by_cases hF:tokFault (vtTok cls A b1 0)=0
            · have HTF:=Lib.hid hF
              rw [hF] at BD
              have hbz:I64 (bodyV (vtTok cls A b1 0)):=by
                obtain ⟨z1,z2,z3,z4,z5⟩:=tokFault_zero hF;simp only [vtTok] at z1 z2 z3 z4 z5;unfold bodyV bodyN;rw [hF,if_pos rfl];show I64 (cls*2199023255552+b1*2097152+A);unfold I64;omega
              have IS0:=fun W hW=>Issue_any (.slice oa ps.length oc) ps me m2 (bodyV (vtTok cls A b1 0)) draw W hW HPW.out (by have:=HCU.out;unfold I64;omega) (by unfold I64;omega) hbz;unfold GrewIs at IS0;obtain ⟨D,hD⟩:∃ D,bodyV (vtTok cls A b1 0)=D:=⟨_,rfl⟩;rw [hD] at BD IS0;have HD:=Lib.hid hD;obtain ⟨G,hG⟩:∃ G,issE ps me m2 D draw=G:=⟨_,rfl⟩;obtain ⟨N,hN⟩:∃ N,issN ps me m2 D draw=N:=⟨_,rfl⟩;obtain ⟨PL,hPL⟩:∃ PL,issL ps me m2 D draw=PL:=⟨_,rfl⟩;rw [hG,hN,hPL] at IS0;have HG:=Lib.hid hG;have HN:=Lib.hid hN;have HPL:=Lib.hid hPL;have IS:=Lib.hid IS0;clear IS0 hG hN hPL hD hbz hF
              go_wp2_with fail
              refine (BD.out _).mono ?_;rintro e wD ⟨rfl,kD⟩;have KKD:=Lib.hid (KKB.out.trans (kD.mono KKB.out.size));have ODD:=Lib.hid (ODB.out.below kD);have OOD:=Lib.hid (OOB.out.below kD);have OZD:=Lib.hid (OZB.out.below kD);have HSD:=Lib.hid (HSB.out.below kD);have HQD:=Lib.hid (HQB.out.below kD);have HTKD:=Lib.hid (HTKB.out.below kD);have HCD:=Lib.hid (fun i (hi:i < 8)=>(kD.cell (p:=⟨g,j*8+i,none⟩) hglB).trans (HCB.out i hi));have hBD:=kD.size;have HZD:=Lib.hid ((kD.block (w.heap.size+3) (by omega)).trans HZB.out);have hglD:g < wD.heap.size:=Nat.lt_of_lt_of_le hglB hBD;clear kA kD ODB OOB OZB HSB HQB HTKB HCB KKB BD;go_upto_region 16 with fail
              go_cut [13,19,20] (fun s13 s19 s20 wx=>∃ o v,s13=I G∧s19=.pointer (some ⟨o,0,none⟩)∧s20=I N∧wD.heap.size≤o∧Below wD.heap.size wD wx∧Own wx o [v]∧Sl wx v 4 PL.length (PL.flatMap APair.cells)∧FarB wD.heap.size v)
              case first=>
                have HSS:(fun W=>Own W (w.heap.size+1) [.slice oa ps.length oc]∧Own W (w.heap.size+2) [I ki,I me,I mo,I 0,I 0,I 0,I 0,I 0,I 0,I 0,I 0,I 0,I 0,I cls,.func (.func F) #[] caps]∧W.cell? ⟨g,j*8+1,none⟩=some (I m2)) wD.drew:=⟨OOD.out,ODD.out,HCD.out 1 (by decide)⟩;have HF:=fun (W:World) (h:(fun W=>Own W (w.heap.size+1) [.slice oa ps.length oc]∧Own W (w.heap.size+2) [I ki,I me,I mo,I 0,I 0,I 0,I 0,I 0,I 0,I 0,I 0,I 0,I 0,I cls,.func (.func F) #[] caps]∧W.cell? ⟨g,j*8+1,none⟩=some (I m2)) W)=>(And.intro (h.2.2) (And.intro (Own.t1 h.1) (Own.t15 h.2.1)));refine AnyC.begin 11 (fun W=>Own W (w.heap.size+1) [.slice oa ps.length oc]∧Own W (w.heap.size+2) [I ki,I me,I mo,I 0,I 0,I 0,I 0,I 0,I 0,I 0,I 0,I 0,I 0,I cls,.func (.func F) #[] caps]∧W.cell? ⟨g,j*8+1,none⟩=some (I m2)) (by kernel_rfl) ?_;refine AnyC.tk 0 ?_ HSS ?_ ?_;rotate_left
                · (intro W hSw;have hf:=HF W hSw;clear hSw;first | (go_simp;done) | (go_simp;with_reducible rfl))
                (try simp only [Act.put]);(try simp only [List.setIfInBounds_toArray]);refine AnyC.tk 1 ?_ HSS ?_ ?_;rotate_left
                · (intro W hSw;have hf:=HF W hSw;clear hSw;first | (go_simp;done) | (go_simp;with_reducible rfl))
                (try simp only [Act.put]);refine AnyC.tk 2 ?_ HSS ?_ ?_;rotate_left
                · (intro W hSw;have hf:=HF W hSw;clear hSw;first | (go_simp;done) | (go_simp;with_reducible rfl))
                (try simp only [Act.put]);refine AnyC.tk 3 ?_ HSS ?_ ?_;rotate_left
                · (intro W hSw;have hf:=HF W hSw;clear hSw;first | (go_simp;done) | (go_simp;with_reducible rfl))
                (try simp only [Act.put]);refine AnyC.tk 4 ?_ HSS ?_ ?_;rotate_left
                · (intro W hSw;have hf:=HF W hSw;clear hSw;first | (go_simp;done) | (go_simp;with_reducible rfl))
                (try simp only [Act.put]);refine AnyC.tk 5 ?_ HSS ?_ ?_;rotate_left
                · (intro W hSw;have hf:=HF W hSw;clear hSw;first | (go_simp;done) | (go_simp;with_reducible rfl))
                (try simp only [Act.put]);refine AnyC.tk 6 ?_ HSS ?_ ?_;rotate_left
                · (intro W hSw;have hf:=HF W hSw;clear hSw;first | (go_simp;done) | (go_simp;with_reducible rfl))
                (try simp only [Act.put]);refine AnyC.tk 7 ?_ HSS ?_ ?_;rotate_left
                · (intro W hSw;have hf:=HF W hSw;clear hSw;first | (go_simp;done) | (go_simp;with_reducible rfl))
                (try simp only [Act.put]);refine AnyC.tk 8 ?_ HSS ?_ ?_;rotate_left
                · (intro W hSw;have hf:=HF W hSw;clear hSw;first | (go_simp;done) | (go_simp;with_reducible rfl))
                (try simp only [Act.put]);refine AnyC.tk 9 ?_ HSS ?_ ?_;rotate_left
                · (intro W hSw;have hf:=HF W hSw;clear hSw;first | (go_simp;done) | (go_simp;with_reducible rfl))
                (try simp only [Act.put]);refine AnyC.tk 10 ?_ HSS ?_ ?_;rotate_left
                · (intro W hSw;have hf:=HF W hSw;clear hSw;first | (go_simp;done) | (go_simp;with_reducible rfl))
                (try simp only [Act.put]);refine AnyC.two (i:=11) (j:=16) (by kernel_rfl) (by rfl) (by rfl) (fun K hK=>?_) (fun K hK=>?_)
                · go_simp
                  (with_reducible refine (IS.out _ ?_).mono ?_)
                  · exact HO.out.below KKD.out.drew
                  rintro e w5 ⟨v,rfl,hv,k5,hfv⟩;have k5':Below wD.heap.size wD w5:=⟨k5.os,k5.tape,k5.output,k5.size,k5.block⟩;have hfv':FarB wD.heap.size v:=hfv;obtain ⟨va,vc,rfl,-⟩:=_root_.id hv;have HV5:=Lib.hid hv;clear k5 HSS hv hfv
                  go_wp2_with fail
                  refine hK.out _ _ (fun h=>absurd rfl h) ?_;clear hK K;(try simp only [Act.put]);refine AnyC.pu 12 ?_ ?_ ?_;rotate_left
                  · (intro w;first | (go_simp;done) | (go_simp;with_reducible rfl))
                  (try simp only [Act.put]);refine AnyC.pu 13 ?_ ?_ ?_;rotate_left
                  · (intro w;first | (go_simp;done) | (go_simp;with_reducible rfl))
                  (try simp only [Act.put]);refine AnyC.pu 14 ?_ ?_ ?_;rotate_left
                  · (intro w;first | (go_simp;done) | (go_simp;with_reducible rfl))
                  (try simp only [Act.put]);refine AnyC.pu 15 ?_ ?_ ?_;rotate_left
                  · (intro w;first | (go_simp;done) | (go_simp;with_reducible rfl))
                  (try simp only [Act.put]);refine AnyC.one (i:=16) (by kernel_rfl) (by rfl) (fun K hK=>?_);go_simp;refine hK.out _ _ (fun _ h=>absurd h (by decide)) ?_;clear hK K;(try simp only [Act.put]);refine AnyC.one (i:=17) (by kernel_rfl) (by rfl) (fun K hK=>?_);go_simp;refine hK.out _ _ (fun _ h=>absurd h (by decide)) ?_;clear hK K;(try simp only [Act.put]);refine AnyC.one (i:=18) (by kernel_rfl) (by rfl) (fun K hK=>?_);go_simp;refine hK.out _ _ (fun _ h=>absurd h (by decide)) ?_;clear hK K;(try simp only [Act.put]);refine AnyC.one (i:=19) (by kernel_rfl) (by rfl) (fun K hK=>?_);go_simp;refine hK.out _ _ (fun _ h=>absurd h (by decide)) ?_;clear hK K;(try simp only [Act.put]);refine AnyC.done (by kernel_rfl) ?_ _
                  go_wp2_with fail
                  go_meet;exact ⟨w5.heap.size,_,rfl,rfl,rfl,k5'.size,k5'.alloc k5'.size _,Own.new rfl _ _,HV5.out.below (boxed_below _ _),hfv'⟩
                · go_simp
                  have kP:Below wD.heap.size wD (World.drew (wD.alloc (.cells #[.slice none 0 0] 35))):=(boxed_below wD _).drew;have oP:Own (World.drew (wD.alloc (.cells #[.slice none 0 0] 35))) wD.heap.size [.slice none 0 0]:=Own.new rfl _ _;have hsP:(World.drew (wD.alloc (.cells #[.slice none 0 0] 35))).heap.size=wD.heap.size+1:=by simp
                  refine hK.out _ _ (fun _ _=>⟨OOD.out.below kP,ODD.out.below kP,(kP.cell (p:=⟨g,j*8+1,none⟩) hglD).trans (HCD.out 1 (by decide))⟩) ?_;clear hK K HSS;(try simp only [Act.put]);refine AnyC.one (i:=11) (by kernel_rfl) (by rfl) (fun K hK=>?_);go_simp;(with_reducible refine (IS.out _ ?_).mono ?_)
                  · exact HO.out.below (KKD.out.trans (kP.mono KKD.out.size))
                  rintro e w5 ⟨v,rfl,hv,k5,hfv⟩;have k5':Below (wD.heap.size+1) (World.drew (wD.alloc (.cells #[.slice none 0 0] 35))) w5:=by rw [← hsP];exact k5
                  rw [hsP] at hfv;have oP5:=oP.below (k5'.mono (by omega));have kw5:=kP.trans (k5'.mono (by omega));have hfr:Far wD.heap.size v:=hfv.far (Nat.lt_succ_self _);have hfv':FarB wD.heap.size v:=fun a n c e=>Nat.le_trans (Nat.le_succ _) (hfv a n c e);obtain ⟨va,vc,rfl,-⟩:=_root_.id hv;have HV5:=Lib.hid hv;have HP5:=Lib.hid oP5;have aO:=oP5;have aA:=aO.s1;clear aO;clear k5 k5' kP oP hsP oP5 hv hfv
                  go_wp2_with fail
                  refine hK.out _ _ (fun h=>absurd rfl h) ?_;clear hK K;(try simp only [Act.put]);refine AnyC.pu 12 ?_ ?_ ?_;rotate_left
                  · (intro w;first | (go_simp;done) | (go_simp;with_reducible rfl))
                  (try simp only [Act.put]);refine AnyC.pu 13 ?_ ?_ ?_;rotate_left
                  · (intro w;first | (go_simp;done) | (go_simp;with_reducible rfl))
                  (try simp only [Act.put]);refine AnyC.pu 14 ?_ ?_ ?_;rotate_left
                  · (intro w;first | (go_simp;done) | (go_simp;with_reducible rfl))
                  (try simp only [Act.put]);refine AnyC.pu 15 ?_ ?_ ?_;rotate_left
                  · (intro w;first | (go_simp;done) | (go_simp;with_reducible rfl))
                  (try simp only [Act.put]);refine AnyC.one (i:=17) (by kernel_rfl) (by rfl) (fun K hK=>?_);go_simp;refine hK.out _ _ (fun _ h=>absurd h (by decide)) ?_;clear hK K;(try simp only [Act.put]);refine AnyC.one (i:=18) (by kernel_rfl) (by rfl) (fun K hK=>?_);go_simp;refine hK.out _ _ (fun _ h=>absurd h (by decide)) ?_;clear hK K;(try simp only [Act.put]);refine AnyC.one (i:=19) (by kernel_rfl) (by rfl) (fun K hK=>?_);go_simp;refine hK.out _ _ (fun _ h=>absurd h (by decide)) ?_;clear hK K;(try simp only [Act.put]);refine AnyC.done (by kernel_rfl) ?_ _
                  go_wp2_with fail
                  go_meet;exact ⟨wD.heap.size,_,rfl,rfl,rfl,Nat.le_refl _,kw5.setCell (p:=⟨wD.heap.size,0,none⟩) (Nat.le_refl _) _,HP5.out.set 0 _,HV5.out.set hfr _,hfv'⟩
              case rest =>
                obtain ⟨wE,hwE⟩:∃ W,W=wc:=⟨_,rfl⟩;subst hwE;obtain ⟨o,v,rfl,rfl,rfl,ho0,kE,oo,hv,hfv⟩:=hcut;have KKE:=Lib.hid (KKD.out.trans (kE.mono KKD.out.size));have ODE:=Lib.hid (ODD.out.below kE);have OZE:=Lib.hid (OZD.out.below kE);have HSE:=Lib.hid (HSD.out.below kE);have HQE:=Lib.hid (HQD.out.below kE);have HTKE:=Lib.hid (HTKD.out.below kE);have HOE:=Lib.hid oo;have hoE:=oo.lt;have HVE:=Lib.hid hv;have HFV:=Lib.hid hfv;have hDE:=kE.size;have HZE:=Lib.hid ((kE.block (w.heap.size+3) (by omega)).trans HZD.out);clear kE oo hv hfv ODD OOD OZD HSD HQD HTKD HCD KKD IS
                by_cases hG:G=0
                · subst hG
                  have hsw:Own wE sg [.slice (some ⟨g,0,none⟩) (loadC t xs).length gcap,tv,I t.f,I t.b,I t.d,I t.al,.slice a xs.length cap,I ((keptL xs).length:Nat)]:=HSE.out
                  have hsd:sg≠w.heap.size+2:=by
                    intro e;have h1:=HSE.out.cell 0 (by simp);have h2:=ODE.out.cell 0 (by simp);rw [e] at h1;rw [h1] at h2;simp at h2
                  have hstk:sg < wA.heap.size:=Nat.lt_of_lt_of_le hsgl (Nat.le_trans hw12 hA2);have n1:¬ wA.heap.size=w.heap.size+2:=by omega
                  have n2:¬ w.heap.size+2=wA.heap.size:=by omega
                  have n3:¬ q=w.heap.size+2:=by omega
                  have n4:¬ w.heap.size+2=q:=by omega
                  have n5:¬ q=wA.heap.size:=by omega
                  have n6:¬ wA.heap.size=q:=by omega
                  go_upto_region 19 with fail
                  go_cut [] (fun wx=>wx=wE.setCell ⟨wA.heap.size,3,none⟩ (I N))
                  case first=>
                    have kO:=HTKE.out;have kA:=kO.s4;clear kO
                    go_wp2_with fail
                    go_meet
                    rfl
                  case rest=>
                  subst hcut;go_upto_region 20 with fail
                  go_cut [] (fun wx=>Own wx wA.heap.size [I cls,I b1,I A,I N]∧Own wx (w.heap.size+2) [I ki,I me,I mo,I b1,I b2,I b3,I b4,I b5,I b6,I b7,I N,I 0,I 0,I cls,.func (.func F) #[] caps]∧But2 (w.heap.size+2) wA.heap.size wE.heap.size wE wx∧Below w.heap.size w wx)
                  case first=>
                    have dO:=ODE.out.other (a:=⟨wA.heap.size,3,none⟩) n1 (I N);have dA:=dO.s15;clear dO;have qO:=HQE.out.other (a:=⟨wA.heap.size,3,none⟩) n6 (I N);have qA:=qO.s7;clear qO;have r3:=set_blk
                    go_wp2_with fail
                    go_meet;have hb0:=((But2.refl (w.heap.size+2) wA.heap.size wE.heap.size wE).set wA.heap.size 3 (I N) (.inr rfl));have hb7:=(((((((hb0.set (w.heap.size+2) 3 (I b1) (.inl rfl)).set (w.heap.size+2) 4 (I b2) (.inl rfl)).set (w.heap.size+2) 5 (I b3) (.inl rfl)).set (w.heap.size+2) 6 (I b4) (.inl rfl)).set (w.heap.size+2) 7 (I b5) (.inl rfl)).set (w.heap.size+2) 8 (I b6) (.inl rfl)).set (w.heap.size+2) 9 (I b7) (.inl rfl)).set (w.heap.size+2) 10 (I N) (.inl rfl);have hne:∀ i,(⟨w.heap.size+2,i,none⟩:Addr).block≠wA.heap.size:=fun i=>n2;have hw:w.heap.size≤w.heap.size+2:=by omega
                    refine ⟨((((((((HTKE.out.set 3 (I N)).other (hne 3) _).other (hne 4) _).other (hne 5) _).other (hne 6) _).other (hne 7) _).other (hne 8) _).other (hne 9) _).other (hne 10) _,
                      (((((((((ODE.out.other (a:=⟨wA.heap.size,3,none⟩) n1 (I N)).set 3 (I b1)).set 4 (I b2)).set 5 (I b3)).set 6 (I b4)).set 7 (I b5)).set 8 (I b6)).set 9 (I b7)).set 10 (I N)),hb7,
                      ((((((((KKE.out.setCell (p:=⟨wA.heap.size,3,none⟩) (by show w.heap.size≤wA.heap.size;omega) _).setCell (p:=⟨w.heap.size+2,3,none⟩) hw _).setCell (p:=⟨w.heap.size+2,4,none⟩) hw _).setCell (p:=⟨w.heap.size+2,5,none⟩) hw _).setCell (p:=⟨w.heap.size+2,6,none⟩) hw _).setCell (p:=⟨w.heap.size+2,7,none⟩) hw _).setCell (p:=⟨w.heap.size+2,8,none⟩) hw _).setCell (p:=⟨w.heap.size+2,9,none⟩) hw _).setCell (p:=⟨w.heap.size+2,10,none⟩) hw _⟩
                  case rest=>
                    obtain ⟨wF,hwF⟩:∃ W,W=wc:=⟨_,rfl⟩;subst hwF;obtain ⟨otk,od,hb2,kF⟩:=hcut;have hEF:=hb2.2;have HSF:=hb2.own HSE.out (by omega) hsd (by omega);have KKF:=Lib.hid kF;have ODF:=Lib.hid od;have HTKF:=Lib.hid otk;have HQF:=Lib.hid (hb2.own HQE.out (by omega) n3 n5);have HOF:=Lib.hid (hb2.own HOE.out hoE (by omega) (by omega));have OZF:=Lib.hid (hb2.own OZE.out (by omega) (by omega) (by omega));have HZF:=Lib.hid ((hb2.1 (w.heap.size+3) (by omega) (by omega) (by omega)).trans HZE.out);have hVF:Sl wF v 4 PL.length (PL.flatMap APair.cells):=sl_but HVE.out hb2 HFV.out (by omega) (by omega);have HVF:=Lib.hid hVF;have KP:=Lib.hid (shopkeep_any sg (.slice (some ⟨g,0,none⟩) (loadC t xs).length gcap) (.slice a xs.length cap) tv (I t.f) (I t.b) (I t.d) (I t.al) xs ki me mo b1 b2 b3 b4 b5 b6 b7 N 0 0 wF HSF (HC.out.below kF) HWW.out (load_120 H0.out));unfold KeepsP at KP;have HKK:=Lib.hid (show keepsE xs (vtEv ki me mo ⟨b1,b2,b3,b4,b5,b6,b7⟩ N)=keepsE xs ⟨ki,me,mo,⟨b1,b2,b3,b4,b5,b6,b7⟩,N,⟨0,0⟩⟩ from rfl);have HKL:=Lib.hid (show keepsL xs (vtEv ki me mo ⟨b1,b2,b3,b4,b5,b6,b7⟩ N)=keepsL xs ⟨ki,me,mo,⟨b1,b2,b3,b4,b5,b6,b7⟩,N,⟨0,0⟩⟩ from rfl);have dO:=od;have dA:=dO.s15;clear dO;generalize keepsE xs ⟨ki,me,mo,⟨b1,b2,b3,b4,b5,b6,b7⟩,N,⟨0,0⟩⟩=KE at *;generalize keepsL xs ⟨ki,me,mo,⟨b1,b2,b3,b4,b5,b6,b7⟩,N,⟨0,0⟩⟩=KL at *;clear otk od hb2 kF HSF ODE OZE HSE HQE HTKE HOE HVE hVF
                    go_wp2_with fail
                    refine KP.out.mono ?_;rintro e w6 ⟨uw,rfl,hu,k6⟩;clear dA;have kk6:=KKF.out.trans (k6.mono KKF.out.size)
                    by_cases hK:KE=0
                    · subst hK
                      have FM:=Lib.hid (fun W=>Format_any cls b1 A N W);unfold FmtP at FM;have HYY:=Lib.hid (vtA_yes (xs:=xs) (ps:=ps) (ki:=ki) (me:=me) (mo:=mo) (cls:=cls) (draw:=draw) (rev:=m2) (E:=0) (rv:=X2) (B:=⟨b1,b2,b3,b4,b5,b6,b7⟩) rfl HA.out HTF.out HD.out HG.out HN.out HKK.out)
                      have hY:vtO t xs ps ki me mo cls draw aE aX aB=⟨0,KL,PL,me,⟨b1,b2,b3,b4,b5,b6,b7⟩,fmtT ⟨cls,b1,A,N⟩⟩:=by
                        rw [HVT.out,HYY.out,HKL.out,HPL.out];rfl
                      have HY:=Lib.hid hY;obtain ⟨tx,htx⟩:∃ tx,fmtT ⟨cls,b1,A,N⟩=tx:=⟨_,rfl⟩;rw [htx] at FM HY;generalize tokFault ⟨cls,b1,A,N⟩=tf at *;obtain ⟨ua,uc,rfl,-⟩:=_root_.id hu;have HU:=Lib.hid hu;have KK6:=Lib.hid kk6;have K6:=Lib.hid k6;have kO:=HTKF.out.below k6;have kA:=kO.s4;clear kO;clear hu k6 kk6 hY htx HYY KP
                      go_wp2_with fail
                      refine (FM.out _).mono ?_;rintro e w7 ⟨rfl,k7⟩;have kk7:=KK6.out.trans (k7.mono KK6.out.size);have KK7:=Lib.hid kk7;have k67:=K6.out.trans (k7.mono K6.out.size);have hU7:=HU.out.below k7;have hV7:=HVF.out.below k67;have hz7:=(k67.block (w.heap.size+3) (by omega)).trans HZF.out;have hfu:=fun hn=>far_writes hz7 (by rfl) hU7 hn;have hfv:Far (w.heap.size+3) v:=HFV.out.far (by omega);have HU7:=Lib.hid (fun W' (c:Chg (w.heap.size+3) w7 W')=>hU7.chg hfu c);have HV7:=Lib.hid (fun W' (c:Chg (w.heap.size+3) w7 W')=>hV7.chg (fun _=>hfv) c);obtain ⟨va,vc,rfl,-⟩:=_root_.id hV7;have oO:=HOF.out.below k67;have oA:=oO.s1;clear oO;have qO:=HQF.out.below k67;have qA:=qO.s7;clear qO;have dO:=ODF.out.below k67;have dA:=dO.s15;clear dO;have zO:=OZF.out.below k67;have zfA:=zO.f;have z0:=zO.c0;have z1:=zO.c1;have z2:=zO.c2;have z3:=zO.c3;have z4:=zO.c4;have z5:=zO.c5;have z6:=zO.c6;have z7:=zO.c7;have z8:=zO.c8;have z9:=zO.c9;have z10:=zO.c10;clear zO;have r3:=set_blk;clear kA kk7 hU7 hV7 hz7 hfu hfv HQF HOF ODF OZF HVF HU HZF;go_wp2
                      exact bodyPost_ret (v:=T2 (.agg #[.slice ua KL.length uc,.slice va PL.length vc,I me,I b1,I b2,I b3,I b4,I b5,I b6,I b7,.string tx]) (I 0)) (by simp [results,Tryz.results26,go_sem, *];try omega) rfl (VtP.yes HY.out (HU7.out _ (by repeat first | with_reducible exact Chg.refl _ _ | with_reducible refine Chg.set ?_ _ _)) (HV7.out _ (by repeat first | with_reducible exact Chg.refl _ _ | with_reducible refine Chg.set ?_ _ _)) (by
                        have:=KK7.out
                        repeat first | with_reducible assumption | with_reducible refine Below.setCell ?_ (by show w.heap.size≤w.heap.size+1+1+1;omega) _) (fun a n c e=>Nat.le_trans (by omega) (HFV.out a n c e)))
                    · have hb:(KE != 0)=true:=by simp [hK]
                      have HR:=Lib.hid (HVT.out.trans (vtA_keep (rv:=X2) rfl HA.out HTF.out HD.out HG.out HN.out HKK.out hK));obtain ⟨ua,uc,rfl,-⟩:=_root_.id hu;have zO:=OZF.out.below k6;have zfA:=zO.f;have z0:=zO.c0;have z1:=zO.c1;have z2:=zO.c2;have z3:=zO.c3;have z4:=zO.c4;have z5:=zO.c5;have z6:=zO.c6;have z7:=zO.c7;have z8:=zO.c8;have z9:=zO.c9;have z10:=zO.c10;clear zO;clear hK hu k6 KP OZF;go_wp2;exact bodyPost_ret (v:=vtNo KE) (by simp [results,Tryz.results26,go_sem, *];try omega) rfl (VtP.no HR.out below_autor)
                · have hb:(G != 0)=true:=by simp [hG]
                  have HR:=Lib.hid (HVT.out.trans (vtA_iss (rv:=X2) rfl HA.out HTF.out HD.out HG.out hG));have kkE:=KKE.out;have zO:=OZE.out;have zfA:=zO.f;have z0:=zO.c0;have z1:=zO.c1;have z2:=zO.c2;have z3:=zO.c3;have z4:=zO.c4;have z5:=zO.c5;have z6:=zO.c6;have z7:=zO.c7;have z8:=zO.c8;have z9:=zO.c9;have z10:=zO.c10;clear zO;clear hG OZE HG;go_wp2;exact bodyPost_ret (v:=vtNo G) (by simp [results,Tryz.results26,go_sem, *];try omega) rfl (VtP.no HR.out below_autor)
            · obtain ⟨TF,hTF⟩:∃ TF,tokFault (vtTok cls A b1 0)=TF:=⟨_,rfl⟩
              have HR:=Lib.hid (HVT.out.trans (vtA_tok (rv:=X2) rfl HA.out hTF (by rw [← hTF];exact hF)));rw [hTF] at BD hF;have hb:(TF != 0)=true:=by simp [hF]
              clear hF hTF
              go_wp2_with fail
              refine (BD.out _).mono ?_;rintro e wD ⟨rfl,kD⟩;have kkD:=KKB.out.trans (kD.mono KKB.out.size);have zO:=OZB.out.below kD;have zfA:=zO.f;have z0:=zO.c0;have z1:=zO.c1;have z2:=zO.c2;have z3:=zO.c3;have z4:=zO.c4;have z5:=zO.c5;have z6:=zO.c6;have z7:=zO.c7;have z8:=zO.c8;have z9:=zO.c9;have z10:=zO.c10;clear zO;clear kA kD BD OZB;go_wp2;exact bodyPost_ret (v:=vtNo TF) (by simp [results,Tryz.results26,go_sem, *];try omega) rfl (VtP.no HR.out below_autor)
        · have hb:(E != 0)=true:=by simp [hE]
          have HR:=Lib.hid (HVT.out.trans (vtA_acc hE));have kkA:=KKA.out;have zO:=OZA.out;have zfA:=zO.f;have z0:=zO.c0;have z1:=zO.c1;have z2:=zO.c2;have z3:=zO.c3;have z4:=zO.c4;have z5:=zO.c5;have z6:=zO.c6;have z7:=zO.c7;have z8:=zO.c8;have z9:=zO.c9;have z10:=zO.c10;clear zO;clear hE OZA HAM HVT;go_wp2;exact bodyPost_ret (v:=vtNo E) (by simp [results,Tryz.results26,go_sem, *];try omega) rfl (VtP.no HR.out below_autor)
    · obtain ⟨rfl,k2⟩:=hQ.2 (by omega)
      have HR:=Lib.hid (vtO_none (ps:=ps) (ki:=ki) (mo:=mo) (cls:=cls) (draw:=draw) (aE:=aE) (aX:=aX) (aB:=aB) H0.out (by omega:idxOf (loadC t xs) me < 0));have kk2:=KK.out.trans (k2.mono KK.out.size);have zO:=OZ1.out.below k2;have zfA:=zO.f;have z0:=zO.c0;have z1:=zO.c1;have z2:=zO.c2;have z3:=zO.c3;have z4:=zO.c4;have z5:=zO.c5;have z6:=zO.c6;have z7:=zO.c7;have z8:=zO.c8;have z9:=zO.c9;have z10:=zO.c10;clear zO;clear hQ h3 k2 CU hb OD1 OO1 OZ1;go_wp2;exact bodyPost_ret (v:=vtNo 18) (by simp [results,Tryz.results26,go_sem, *];try omega) rfl (VtP.no HR.out below_autor)
  · obtain ⟨rfl,k1⟩:=hP.2 h0
    have HR:=Lib.hid (vtO_load (me:=me) (ps:=ps) (ki:=ki) (mo:=mo) (cls:=cls) (draw:=draw) (aE:=aE) (aX:=aX) (aB:=aB) h0);have kk:=KB.out.trans (k1.mono KB.out.size);have hb:(loadE t xs != 0)=true:=by simp [h0]
    have zO:=OZ.out.below k1;have zfA:=zO.f;have z0:=zO.c0;have z1:=zO.c1;have z2:=zO.c2;have z3:=zO.c3;have z4:=zO.c4;have z5:=zO.c5;have z6:=zO.c6;have z7:=zO.c7;have z8:=zO.c8;have z9:=zO.c9;have z10:=zO.c10;clear zO;clear hP h0 P k1 OD OO OZ;generalize loadE t xs=E at *;go_wp2;exact bodyPost_ret (v:=vtNo E) (by simp [results,Tryz.results26,go_sem, *];try omega) rfl (VtP.no HR.out below_autor)
end Go.Proofs.YtdjgcenjonegjaaGreat
