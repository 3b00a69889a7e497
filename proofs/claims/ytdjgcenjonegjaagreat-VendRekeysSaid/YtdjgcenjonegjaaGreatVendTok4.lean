/- ref.VendToken -/
import Derived.Test.YtdjgcenjonegjaaGreatPk48
import Derived.Test.YtdjgcenjonegjaaGreatPk46
import Derived.Test.YtdjgcenjonegjaaGreatPk21
set_option maxRecDepth 20000
set_option maxHeartbeats 8000000
set_option linter.unusedSimpArgs false
set_option linter.unusedVariables false
namespace Go.Proofs.YtdjgcenjonegjaaGreat
open Go Go.RowKit
theorem zero_at4 (W:World) (g:Nat) (hg:g=W.heap.size) (o:Obj):(W.alloc o).heap[g]?=some o:=by subst hg;show (W.heap.push o)[W.heap.size]?=some o;simp
theorem rekey_ask (t:PTerms) (te mo:Int) (x:AAcc) (v:Value) (ds:List ADebt) (w:World) (h:Sl w v 2 ds.length (ds.flatMap ADebt.cells)):
    Calls Tryz.prog 30 #[.agg #[I x.meter,I x.rev,I x.next,I x.month,I x.bought,I x.free,v]] w (GrewAccB (askX t 4 te mo x ds) (askL t 4 te mo x ds) (askB t 4 te mo x ds) (askE t 4 te mo x ds) w):=(Rekeyed_f x v ds w h).mono fun _ _ h=>h.drop
theorem VendToken4_any (t : PTerms) (tv cv ov : Value) (xs : List Int) (ps : List APair) (ki me mo te draw : Int) (w : World) (hki : ki = 4)
    (ht:Sl w tv 2 t.ts.length (t.ts.flatMap AStep.cells)) (hc:Sl w cv 1 xs.length (xs.map U32)) (hw:∀ x∈xs,W32 x) (ho:Sl w ov 4 ps.length (ps.flatMap APair.cells)):
    Calls Tryz.prog 14 #[.agg #[tv,I t.f,I t.b,I t.d,I t.al],cv,.agg #[ov],evV ki me mo 0 0 0 0 0 0 0 0 0 0,I te,I draw] w (Vt4P (vtO t xs ps ki me mo (clsOf ki) draw (askE t ki te mo) (askX t ki te mo) (askB t ki te mo)) w):=by
  have oT:=((((Own.new (w:=w) (g:=w.heap.size) (by rfl) [tv,I t.f,I t.b,I t.d,I t.al] 24).alloc (.cells #[ov] 35)).alloc (.cells #[I ki,I me,I mo,I 0,I 0,I 0,I 0,I 0,I 0,I 0,I 0,I 0,I 0] 48)).alloc (.cells #[.slice none 0 0] 35)).alloc (.cells #[I 0,I 0,I 0,I 0,I 0,I 0,I 0,I 0,.string ⟨#[]⟩] 41);have oO:=(((Own.new (w:=(w.alloc (.cells #[tv,I t.f,I t.b,I t.d,I t.al] 24))) (g:=w.heap.size+1) (by simp) [ov] 35).alloc (.cells #[I ki,I me,I mo,I 0,I 0,I 0,I 0,I 0,I 0,I 0,I 0,I 0,I 0] 48)).alloc (.cells #[.slice none 0 0] 35)).alloc (.cells #[I 0,I 0,I 0,I 0,I 0,I 0,I 0,I 0,.string ⟨#[]⟩] 41);have oE:=((Own.new (w:=((w.alloc (.cells #[tv,I t.f,I t.b,I t.d,I t.al] 24)).alloc (.cells #[ov] 35))) (g:=w.heap.size+2) (by simp) [I ki,I me,I mo,I 0,I 0,I 0,I 0,I 0,I 0,I 0,I 0,I 0,I 0] 48).alloc (.cells #[.slice none 0 0] 35)).alloc (.cells #[I 0,I 0,I 0,I 0,I 0,I 0,I 0,I 0,.string ⟨#[]⟩] 41);have oZ:=(Own.new (w:=(((w.alloc (.cells #[tv,I t.f,I t.b,I t.d,I t.al] 24)).alloc (.cells #[ov] 35)).alloc (.cells #[I ki,I me,I mo,I 0,I 0,I 0,I 0,I 0,I 0,I 0,I 0,I 0,I 0] 48))) (g:=w.heap.size+3) (by simp) [.slice none 0 0] 35).alloc (.cells #[I 0,I 0,I 0,I 0,I 0,I 0,I 0,I 0,.string ⟨#[]⟩] 41);have oY:=Own.new (w:=((((w.alloc (.cells #[tv,I t.f,I t.b,I t.d,I t.al] 24)).alloc (.cells #[ov] 35)).alloc (.cells #[I ki,I me,I mo,I 0,I 0,I 0,I 0,I 0,I 0,I 0,I 0,I 0,I 0] 48)).alloc (.cells #[.slice none 0 0] 35))) (g:=w.heap.size+4) (by simp) [I 0,I 0,I 0,I 0,I 0,I 0,I 0,I 0,.string ⟨#[]⟩] 41;have bx0:=boxed_below w (.cells #[tv,I t.f,I t.b,I t.d,I t.al] 24);have bx1:=bx0.alloc bx0.size (.cells #[ov] 35);have bx2:=bx1.alloc bx1.size (.cells #[I ki,I me,I mo,I 0,I 0,I 0,I 0,I 0,I 0,I 0,I 0,I 0,I 0] 48);have bx3:=bx2.alloc bx2.size (.cells #[.slice none 0 0] 35);have kB:=bx3.alloc bx3.size (.cells #[I 0,I 0,I 0,I 0,I 0,I 0,I 0,I 0,.string ⟨#[]⟩] 41);clear bx0 bx1 bx2 bx3;have HZR0:=Lib.hid ((boxed_below (((w.alloc (.cells #[tv,I t.f,I t.b,I t.d,I t.al] 24)).alloc (.cells #[ov] 35)).alloc (.cells #[I ki,I me,I mo,I 0,I 0,I 0,I 0,I 0,I 0,I 0,I 0,I 0,I 0] 48)) (.cells #[.slice none 0 0] 35)))
  have hzr:((((((w.alloc (.cells #[tv,I t.f,I t.b,I t.d,I t.al] 24)).alloc (.cells #[ov] 35)).alloc (.cells #[I ki,I me,I mo,I 0,I 0,I 0,I 0,I 0,I 0,I 0,I 0,I 0,I 0] 48)).alloc (.cells #[.slice none 0 0] 35)).alloc (.cells #[I 0,I 0,I 0,I 0,I 0,I 0,I 0,I 0,.string ⟨#[]⟩] 41))).heap[w.heap.size+3]?=some (.cells #[.slice none 0 0] 35):=by
    rw [Lib.alloc_old _ _ _ (by simp)];exact zero_at4 _ _ (by simp) _
  have hyr:((((((w.alloc (.cells #[tv,I t.f,I t.b,I t.d,I t.al] 24)).alloc (.cells #[ov] 35)).alloc (.cells #[I ki,I me,I mo,I 0,I 0,I 0,I 0,I 0,I 0,I 0,I 0,I 0,I 0] 48)).alloc (.cells #[.slice none 0 0] 35)).alloc (.cells #[I 0,I 0,I 0,I 0,I 0,I 0,I 0,I 0,.string ⟨#[]⟩] 41))).heap[w.heap.size+4]?=some (.cells #[I 0,I 0,I 0,I 0,I 0,I 0,I 0,I 0,.string ⟨#[]⟩] 41):=zero_at4 _ _ (by simp) _;clear HZR0;have HZ0:=Lib.hid (And.intro hzr hyr);clear hzr hyr;have P:=Lib.hid (Loaded_any t tv cv xs _ (ht.below kB) (hc.below kB) hw);have KB:=Lib.hid kB;have HC:=Lib.hid hc;have HWW:=Lib.hid hw;have HO:=Lib.hid ho;have HTT:=Lib.hid ht;have HKI:=Lib.hid hki;clear hki;have OT:=Lib.hid oT;have OO:=Lib.hid oO;have OE:=Lib.hid oE;have OZ:=Lib.hid oZ;have OY:=Lib.hid oY;have tO:=oT;have tA:=tO.s5;clear tO;obtain ⟨a,cap,rfl,-⟩:=_root_.id hc;obtain ⟨oa,oc,rfl,-⟩:=_root_.id ho;clear hw ht kB oT hc oO oE oZ oY ho;go_enter Tryz.func14,Tryz.ntmps14
  go_wp2_with fail
  refine P.out.mono ?_;rintro e w1 ⟨bv,ys,rfl,hb,k1⟩;have kA:=boxed_below w1 (.cells #[bv] 76);have oA:=Own.new (w:=w1) rfl [bv] 76;have hs5:w.heap.size+5≤w1.heap.size:=by have:=k1.size;simp at this;omega
  have HZ1:=Lib.hid (And.intro (((k1.block (w.heap.size+3) (by simp)).trans HZ0.out.1)) (((k1.block (w.heap.size+4) (by simp)).trans HZ0.out.2)));have HZ1b:=Lib.hid (And.intro ((kA.block (w.heap.size+3) (by omega)).trans HZ1.out.1) ((kA.block (w.heap.size+4) (by omega)).trans HZ1.out.2));have kk:=(KB.out.trans (k1.mono KB.out.size)).trans (kA.mono (Nat.le_trans KB.out.size k1.size));have OT1:=Lib.hid ((OT.out.below k1).below kA);have OO1:=Lib.hid ((OO.out.below k1).below kA);have OE1:=Lib.hid ((OE.out.below k1).below kA);have OZ1:=Lib.hid ((OZ.out.below k1).below kA);have OY1:=Lib.hid ((OY.out.below k1).below kA);have HB:=Lib.hid (hb.below kA);have KK:=Lib.hid kk;have OA:=Lib.hid oA;obtain ⟨ba,bc,rfl⟩:=book_slice hb;have r1:=set_same;have r2:=set_off;have r3:=set_blk;clear tA P hb k1 kA oA kk OT OO OE OZ OY
  by_cases h0:loadE t xs=0
  · have H0 := Lib.hid h0
    rw [h0];have hbd:=(loadC_bd t xs).1;have FD:=Lib.hid (Found_any _ ys me _ (HB.out.sl (by omega)));rw [book_found HB.out] at FD;clear h0 hbd;have bO:=OA.out;have bA:=bO.s1;clear bO;have eO:=OE1.out;have eA:=eO.s13;clear eO
    go_wp2_with fail
    refine FD.out.mono ?_;rintro e w2 ⟨rfl,k2⟩;have kk2:=KK.out.trans (k2.mono KK.out.size);have OA2:=Lib.hid (OA.out.below k2);have OT2:=Lib.hid (OT1.out.below k2);have OO2:=Lib.hid (OO1.out.below k2);have OE2:=Lib.hid (OE1.out.below k2);have OZ2:=Lib.hid (OZ1.out.below k2);have OY2:=Lib.hid (OY1.out.below k2);have hs6:w.heap.size+5≤w2.heap.size:=by have:=k2.size;simp at this;omega
    have HZ2:=Lib.hid (And.intro ((k2.block (w.heap.size+3) (by simp;omega)).trans HZ1b.out.1) ((k2.block (w.heap.size+4) (by simp;omega)).trans HZ1b.out.2));clear bA FD eA OT1 OO1 OE1 OZ1 OY1
    by_cases h3:0≤idxOf (loadC t xs) me
    · obtain ⟨j, hj⟩ := Int.eq_ofNat_of_zero_le h3
      have hjl:j < (loadC t xs).length:=by rcases idxOf_bd (loadC t xs) me with h | h<;>omega
      have hcu:custOf t xs me=(loadC t xs).getD j default:=by unfold custOf;rw [hj];rfl
      have HVO:=Lib.hid (fun c hc=>vtO_cust (ps:=ps) (ki:=ki) (mo:=mo) (cls:=clsOf ki) (draw:=draw) (aE:=askE t ki te mo) (aX:=askX t ki te mo) (aB:=askB t ki te mo) (c:=c) H0.out h3 hc);rw [hcu] at HVO;rw [hj];have hb2:=HB.out.below k2;obtain ⟨g,gcap,hv,hg1,hg2⟩:=owns_pos hb2.2.1 (by omega);simp only [Value.slice.injEq] at hv;obtain ⟨rfl,-,rfl⟩:=hv;have hcell:=book_cells hb2 hjl;have hCR:=hb2.2.2.1 j hjl;have KK2:=Lib.hid kk2;have hj1:(j:Int) < ((loadC t xs).length:Int):=by omega
      generalize ys.getD j default=x at *;generalize (loadC t xs).getD j default=c at *;obtain ⟨hxe,hSd,hSo⟩:=hCR;obtain ⟨m1,m2,m3,m4,m5,m6,da,dn,dc,sa,sn,sc⟩:=x;simp only [ofCust,ACust.mk.injEq,true_and,and_true] at hxe;obtain ⟨rfl,rfl,rfl,rfl,rfl,rfl,rfl,rfl⟩:=hxe;obtain ⟨⟨m1,m2,m3,m4,m5,m6⟩,ds,ss⟩:=c;simp only at hSd hcell;have hVO:=HVO.out _ rfl;simp only at hVO;have HTOK:=Lib.hid (fun h=>tok_ok (t:=t) (ki:=ki) (te:=te) (mo:=mo) (x:=⟨m1,m2,m3,m4,m5,m6⟩) (ds:=ds) (show ki=2∨ki=3∨ki=4 by have:=HKI.out;omega) h);have HMAY:=Lib.hid (fun h=>ask_may (t:=t) (ki:=ki) (te:=te) (mo:=mo) (x:=⟨m1,m2,m3,m4,m5,m6⟩) (ds:=ds) h);have HREV:=Lib.hid (fun (h4:ki=4) (h:askE t ki te mo ⟨m1,m2,m3,m4,m5,m6⟩ ds=0)=>show (askX t ki te mo ⟨m1,m2,m3,m4,m5,m6⟩ ds).rev=m2+1 by subst h4;exact ask_rev h);have HA4:=Lib.hid (fun (hk:ki=4) W (h1:Sl W (.slice da ds.length dc) 2 ds.length (ds.flatMap ADebt.cells))=>show Calls Tryz.prog 30 #[.agg #[I m1,I m2,I m3,I m4,I m5,I m6,.slice da ds.length dc]] W (GrewAccB (askX t ki te mo ⟨m1,m2,m3,m4,m5,m6⟩ ds) (askL t ki te mo ⟨m1,m2,m3,m4,m5,m6⟩ ds) (askB t ki te mo ⟨m1,m2,m3,m4,m5,m6⟩ ds) (askE t ki te mo ⟨m1,m2,m3,m4,m5,m6⟩ ds) W) by subst hk;exact rekey_ask t te mo ⟨m1,m2,m3,m4,m5,m6⟩ _ ds W h1);unfold GrewAccB at HA4;generalize askE t ki te mo ⟨m1,m2,m3,m4,m5,m6⟩ ds=E at *;generalize askX t ki te mo ⟨m1,m2,m3,m4,m5,m6⟩ ds=X at *;generalize askL t ki te mo ⟨m1,m2,m3,m4,m5,m6⟩ ds=L at *;generalize askB t ki te mo ⟨m1,m2,m3,m4,m5,m6⟩ ds=B at *;obtain ⟨X1,X2,X3,X4,X5,X6⟩:=X;obtain ⟨b1,b2,b3,b4,b5,b6,b7⟩:=B;simp only at HTOK HREV hVO HA4;have HVT:=Lib.hid hVO;have hkA:=boxed_below w2 (.cells #[I m1,I m2,I m3,I m4,I m5,I m6,.slice da ds.length dc] 64);have hkT:=hkA.alloc hkA.size (.cells #[I 0,I 0,I 0,I 0] 72);have HAC:=Lib.hid ((Own.new (w:=w2) rfl [I m1,I m2,I m3,I m4,I m5,I m6,.slice da ds.length dc] 64).alloc (.cells #[I 0,I 0,I 0,I 0] 72));have HTK:=Lib.hid (Own.new (w:=w2.alloc (.cells #[I m1,I m2,I m3,I m4,I m5,I m6,.slice da ds.length dc] 64)) (g:=w2.heap.size+1) (by simp) [I 0,I 0,I 0,I 0] 72);have HEV:=Lib.hid (OE2.out.below hkT);have HTB:=Lib.hid (OT2.out.below hkT);have HOB:=Lib.hid (OO2.out.below hkT);have HZB:=Lib.hid (OZ2.out.below hkT);have HYB:=Lib.hid (OY2.out.below hkT);have KWW:=Lib.hid (KK2.out.trans (hkT.mono KK2.out.size));have HZR:=Lib.hid ((hkT.block (w.heap.size+3) (by omega)).trans HZ2.out.1);have HYR:=Lib.hid ((hkT.block (w.heap.size+4) (by omega)).trans HZ2.out.2);have hWs:((w2.alloc (.cells #[I m1,I m2,I m3,I m4,I m5,I m6,.slice da ds.length dc] 64)).alloc (.cells #[I 0,I 0,I 0,I 0] 72)).heap.size=w2.heap.size+2:=by simp
      have HSd:=Lib.hid (hSd.below hkT);have y0:=hcell 0 (by decide);have y1:=hcell 1 (by decide);have y2:=hcell 2 (by decide);have y3:=hcell 3 (by decide);have y4:=hcell 4 (by decide);have y5:=hcell 5 (by decide);have y6:=hcell 6 (by decide);simp only [ACust.cells,List.getD_cons_zero,List.getD_cons_succ,Nat.add_zero] at y0 y1 y2 y3 y4 y5 y6;have hj0:(0:Int)≤(j:Int):=by omega
      have hjn:¬ (j:Int) < 0:=by omega
      have bO:=OA2.out;have bA:=bO.s1;clear bO;have hek:∀ i,(⟨w.heap.size+2,i,none⟩:Addr).block≠w2.heap.size+1:=fun i=>by show w.heap.size+2≠_;omega
      clear h3 k2 hb2 kk2 hcell hSd hSo hj HB hVO HVO hcu hkA hkT hjl;obtain ⟨W0,hW0⟩:∃ W,W=((w2.alloc (.cells #[I m1,I m2,I m3,I m4,I m5,I m6,.slice da ds.length dc] 64)).alloc (.cells #[I 0,I 0,I 0,I 0] 72)):=⟨_,rfl⟩;go_upto_region 9 with fail
      rw [← hW0] at HAC HTK HEV HTB HOB HZB HYB KWW hWs HSd HZR HYR
      try rw [← hW0]
      clear hW0 y0 y1 y2 y3 y4 y5 y6 bA;obtain ⟨cl,hcl⟩:∃ cl,clsOf ki=cl:=⟨_,rfl⟩;have hv:=HVT.out;rw [show vtA xs ps ki me mo (clsOf ki) draw m2 E X2 ⟨b1,b2,b3,b4,b5,b6,b7⟩=vtA xs ps ki me mo cl draw m2 E X2 ⟨b1,b2,b3,b4,b5,b6,b7⟩ by rw [hcl]] at hv;have HVT:=Lib.hid hv;clear hv;rw [hcl] at HTOK;have hw2:w.heap.size≤w.heap.size+2:=by omega
      have eO:=HEV.out;have eA:=eO.s13;clear eO;have cO:=HAC.out;have cA:=cO.s7;clear cO;have tO:=HTB.out;have tA:=tO.s5;clear tO;have hk:=HKI.out;have e2':(ki==2)=false:=by simp [hk]
      have e3':(ki==3)=false:=by simp [hk]
      have e4':(ki==4)=true:=by simp [hk]
      have HK:=Lib.hid hk;clear hk;go_upto_region 14 with fail
      go_cut [17] (fun s17 wx=>s17=I E∧Own wx (w2.heap.size+1) [I 0,I 0,I 0,I 0]∧Own wx (w.heap.size+2) [I ki,I me,I mo,I b1,I b2,I b3,I b4,I b5,I b6,I b7,I 0,I 0,I 0]∧But2 (w.heap.size+2) (w2.heap.size+1) (w2.heap.size+2) W0 wx∧Below w.heap.size w wx)
      case first=>
        go_wp2_with fail
        refine (HA4.out HK.out _ HSd.out).mono ?_;clear eA cA tA;rintro e w4 ⟨u,rfl,hu,k4⟩;obtain ⟨ua,uc,rfl,-⟩:=_root_.id hu;have KW4:=Lib.hid (KWW.out.trans (k4.mono KWW.out.size));have hB4:=Lib.hid ((But2.refl (w.heap.size+2) (w2.heap.size+1) (w2.heap.size+2) W0).below k4 (Nat.le_of_eq hWs.symm));have HE4:=Lib.hid (HEV.out.below k4);have HK4:=Lib.hid (HTK.out.below k4);have eO:=HE4.out;have eA:=eO.s13;clear eO;clear hu k4
        go_wp2_with fail
        go_meet
        refine ⟨rfl,((((((HK4.out.other (a:=⟨w.heap.size+2,3,none⟩) (hek 0) _).other (a:=⟨w.heap.size+2,4,none⟩) (hek 0) _).other (a:=⟨w.heap.size+2,5,none⟩) (hek 0) _).other (a:=⟨w.heap.size+2,6,none⟩) (hek 0) _).other (a:=⟨w.heap.size+2,7,none⟩) (hek 0) _).other (a:=⟨w.heap.size+2,8,none⟩) (hek 0) _).other (a:=⟨w.heap.size+2,9,none⟩) (hek 0) _,
          ((((((HE4.out.set 3 (I b1)).set 4 (I b2)).set 5 (I b3)).set 6 (I b4)).set 7 (I b5)).set 8 (I b6)).set 9 (I b7),
          ((((((hB4.out.set _ 3 _ (.inl rfl)).set _ 4 _ (.inl rfl)).set _ 5 _ (.inl rfl)).set _ 6 _ (.inl rfl)).set _ 7 _ (.inl rfl)).set _ 8 _ (.inl rfl)).set _ 9 _ (.inl rfl),
          ((((((KW4.out.setCell (p:=⟨w.heap.size+2,3,none⟩) hw2 _).setCell (p:=⟨w.heap.size+2,4,none⟩) hw2 _).setCell (p:=⟨w.heap.size+2,5,none⟩) hw2 _).setCell (p:=⟨w.heap.size+2,6,none⟩) hw2 _).setCell (p:=⟨w.heap.size+2,7,none⟩) hw2 _).setCell (p:=⟨w.heap.size+2,8,none⟩) hw2 _).setCell (p:=⟨w.heap.size+2,9,none⟩) hw2 _⟩
      case rest =>
        obtain ⟨wQ,hwQ⟩:∃ W,W=wc:=⟨_,rfl⟩;subst hwQ;obtain ⟨rfl,otk,oev,hbt,kG⟩:=hcut;clear eA cA tA HA4;go_upto_region 15 with fail
        go_cut [] (fun wx=>wx=wQ.setCell ⟨w2.heap.size+1,0,none⟩ (I 2))
        case first=>
          have kO:=otk;have kfA:=kO.f;have k0:=kO.c0;have k1:=kO.c1;have k2:=kO.c2;have k3:=kO.c3;clear kO
          go_wp2_with fail
          go_meet
          rfl
        case rest=>
        have hc0:cl=2:=by rw [← hcl,HK.out];rfl
        have otk:Own wc (w2.heap.size+1) [I cl,I 0,I 0,I 0]:=by rw [hc0,hcut];exact otk.set 0 (I 2)
        have oev:Own wc (w.heap.size+2) [I ki,I me,I mo,I b1,I b2,I b3,I b4,I b5,I b6,I b7,I 0,I 0,I 0]:=by rw [hcut];exact oev.other (a:=⟨w2.heap.size+1,0,none⟩) (show w2.heap.size+1≠w.heap.size+2 by omega) (I 2)
        have hbt:But2 (w.heap.size+2) (w2.heap.size+1) (w2.heap.size+2) W0 wc:=by rw [hcut];exact hbt.set _ 0 _ (.inr rfl)
        have kG:Below w.heap.size w wc:=by rw [hcut];exact kG.setCell (p:=⟨w2.heap.size+1,0,none⟩) (by show w.heap.size≤w2.heap.size+1;omega) _
        clear hcut hc0;obtain ⟨wG,hwG⟩:∃ W,W=wc:=⟨_,rfl⟩;subst hwG;go_upto_region 16 with fail
        have hGs:=hbt.2;rw [hWs] at hGs;have OAC:=Lib.hid (hbt.own HAC.out (by omega) (by omega) (by omega));have OOB:=Lib.hid (hbt.own HOB.out (by omega) (by omega) (by omega));have OZB:=Lib.hid (hbt.own HZB.out (by omega) (by omega) (by omega));have OYB:=Lib.hid (hbt.own HYB.out (by omega) (by omega) (by omega));have HZG:=Lib.hid ((hbt.1 (w.heap.size+3) (by omega) (by omega) (by omega)).trans HZR.out);have HYG:=Lib.hid ((hbt.1 (w.heap.size+4) (by omega) (by omega) (by omega)).trans HYR.out);have OTK:=Lib.hid otk;have OEV:=Lib.hid oev;have KG:=Lib.hid kG;clear otk oev hbt kG HAC HTK HEV HTB HOB HZB HYB KWW HSd
        by_cases hE:E=0
        · subst hE
          have HTF:=Lib.hid (HTOK.out rfl);have hbd:=accMay_bd (HMAY.out rfl);simp only at hbd;obtain ⟨-,-,hm0,hm1,-⟩:=hbd;have hmw:IntKind.i64.wrap (m2+1)=m2+1:=IntWalk.i64_in _ (by omega);obtain ⟨A,hA⟩:∃ A,vtAmt cl X2 b7=A:=⟨_,rfl⟩;have hTF:=HTF.out;rw [hA] at hTF;have HTF:=Lib.hid hTF;have HA:=Lib.hid hA
          have hAA:(ki==4)=true→A=m2+1:=fun h=>by
            have h4:ki=4:=by simpa using h
            rw [← hA,← hcl,h4];exact HREV.out h4 rfl
          have hAB:(ki==4)=false→A=b7:=fun h=>by
            have h4:¬ ki=4:=by simpa using h
            rw [← hA,← hcl];unfold vtAmt clsOf;rw [if_neg h4,if_neg (by decide)]
          have HAA:=Lib.hid (And.intro hAA hAB);clear hA hAA hAB hTF HREV HTOK;have kO:=OTK.out;have kfA:=kO.f;have k0:=kO.c0;have k1:=kO.c1;have k2:=kO.c2;have k3:=kO.c3;clear kO;have eO:=OEV.out;have eA:=eO.s13;clear eO;have cO:=OAC.out;have cA:=cO.s7;clear cO;have r3:=set_blk;have n1:¬ w2.heap.size+1=w.heap.size+2:=by omega
          have n2:¬ w.heap.size+2=w2.heap.size+1:=by omega
          have n3:¬ w2.heap.size+1=w2.heap.size:=by omega
          have hwt:w.heap.size≤w2.heap.size+1:=by omega
          go_upto_region 18 with fail
          go_cut [] (fun wx=>wx=wG.setCell ⟨w2.heap.size+1,1,none⟩ (I b1))
          case first=>
            go_wp2_with fail
            go_meet
            rfl
          case rest=>
          subst hcut;go_upto_region 19 with fail
          go_cut [] (fun wx=>wx=(wG.setCell ⟨w2.heap.size+1,1,none⟩ (I b1)).setCell ⟨w2.heap.size+1,2,none⟩ (I b7))
          case first=>
            go_wp2_with fail
            go_meet
            rfl
          case rest=>
          subst hcut;go_step;go_step
          go_cut [] (fun wx=>Own wx (w2.heap.size+1) [I cl,I b1,I A,I 0]∧But2 (w2.heap.size+1) (w2.heap.size+1) (w2.heap.size+2) wG wx∧Below w.heap.size w wx)
          case first=>
            have o2:=(OTK.out.set 1 (I b1)).set 2 (I b7);have bt2:=((But2.refl (w2.heap.size+1) (w2.heap.size+1) (w2.heap.size+2) wG).set (w2.heap.size+1) 1 (I b1) (.inr rfl)).set (w2.heap.size+1) 2 (I b7) (.inr rfl);have k2:=(KG.out.setCell (p:=⟨w2.heap.size+1,1,none⟩) hwt (I b1)).setCell (p:=⟨w2.heap.size+1,2,none⟩) hwt (I b7);have H2:=Lib.hid (And.intro o2 (And.intro bt2 k2));clear o2 bt2 k2
            first
              | (have hAA := HAA.out.1 e4'
                 subst hAA
                 go_wp2_with fail
                 go_meet;exact ⟨H2.out.1.set 2 _,H2.out.2.1.set _ 2 _ (.inr rfl),H2.out.2.2.setCell (p:=⟨w2.heap.size+1,2,none⟩) hwt _⟩)
              | (have hAA := HAA.out.2 e4'
                 subst hAA
                 go_wp2_with fail
                 go_meet;exact H2.out)
          case rest=>
          clear k0 k1 k2 k3 kfA eA cA;obtain ⟨wH,hwH⟩:∃ W,W=wc:=⟨_,rfl⟩;subst hwH;obtain ⟨otk,hbt,kH⟩:=hcut;have hGH:=hbt.2;have OEVH:=Lib.hid (hbt.own OEV.out (by omega) n2 n2);have OACH:=Lib.hid (hbt.own OAC.out (by omega) (by omega) (by omega));have OOBH:=Lib.hid (hbt.own OOB.out (by omega) (by omega) (by omega));have OZBH:=Lib.hid (hbt.own OZB.out (by omega) (by omega) (by omega));have OYBH:=Lib.hid (hbt.own OYB.out (by omega) (by omega) (by omega));have HZH:=Lib.hid ((hbt.1 (w.heap.size+3) (by omega) (by omega) (by omega)).trans HZG.out);have HYH:=Lib.hid ((hbt.1 (w.heap.size+4) (by omega) (by omega) (by omega)).trans HYG.out);have KH:=Lib.hid kH;have OTKH:=Lib.hid otk;have BD:=Lib.hid (fun W=>show Calls Tryz.prog 31 #[.agg #[I cl,I b1,I A,I 0]] W (Grew (T2 (I (bodyV (vtTok cl A b1 0))) (I (tokFault (vtTok cl A b1 0)))) W) from BodyOf_any ⟨cl,b1,A,0⟩ W);have IS0:=fun W hW=>Issued_any (.slice oa ps.length oc) ps me m2 (bodyV (vtTok cl A b1 0)) draw W hW;unfold GrewIs at IS0;obtain ⟨D,hD⟩:∃ D,bodyV (vtTok cl A b1 0)=D:=⟨_,rfl⟩;rw [hD] at BD IS0;have HD:=Lib.hid hD;obtain ⟨G,hG⟩:∃ G,issE ps me m2 D draw=G:=⟨_,rfl⟩;obtain ⟨N,hN⟩:∃ N,issN ps me m2 D draw=N:=⟨_,rfl⟩;obtain ⟨PL,hPL⟩:∃ PL,issL ps me m2 D draw=PL:=⟨_,rfl⟩;rw [hG,hN,hPL] at IS0;have HG:=Lib.hid hG;have HN:=Lib.hid hN;have HPL:=Lib.hid hPL;have IS:=Lib.hid IS0;rw [HTF.out] at BD;have kO:=otk;have kfA:=kO.f;have k0:=kO.c0;have k1:=kO.c1;have k2:=kO.c2;have k3:=kO.c3;clear kO;clear IS0 hG hN hPL hD otk hbt kH OEV OAC OOB OZB OYB OTK KG
          go_wp2_with fail
          refine (BD.out _).mono ?_;rintro e w5 ⟨rfl,k5⟩;have hH5:=k5.size;have KH5:=Lib.hid (KH.out.trans (k5.mono KH.out.size));have OEV5:=Lib.hid (OEVH.out.below k5);have OTK5:=Lib.hid (OTKH.out.below k5);have OZB5:=Lib.hid (OZBH.out.below k5);have OYB5:=Lib.hid (OYBH.out.below k5);have HZ5:=Lib.hid ((k5.block (w.heap.size+3) (by omega)).trans HZH.out);have HY5:=Lib.hid ((k5.block (w.heap.size+4) (by omega)).trans HYH.out);clear k0 k1 k2 k3 kfA;have eO:=OEV5.out;have eA:=eO.s13;clear eO;have cO:=OACH.out.below k5;have cA:=cO.s7;clear cO;have oO:=OOBH.out.below k5;have ofA:=oO.f;have o0:=oO.c0;clear oO;clear k5 BD OEVH OTKH OZBH OYBH OACH OOBH HZH HYH KH
          go_wp2_with fail
          refine (IS.out _ (HO.out.below KH5.out)).mono ?_;rintro e w6 ⟨v,rfl,hv,k6,hfv⟩;have h56:=k6.size;have kO:=boxed_below w6 (.cells #[v] 35);have KI:=Lib.hid ((KH5.out.trans (k6.mono KH5.out.size)).trans (kO.mono (Nat.le_trans KH5.out.size k6.size)));have OEVI:=Lib.hid ((OEV5.out.below k6).below kO);have OTKI:=Lib.hid ((OTK5.out.below k6).below kO);have OZBI:=Lib.hid ((OZB5.out.below k6).below kO);have OYBI:=Lib.hid ((OYB5.out.below k6).below kO);have HZI:=Lib.hid ((kO.block (w.heap.size+3) (by omega)).trans ((k6.block (w.heap.size+3) (by omega)).trans HZ5.out));have HYI:=Lib.hid ((kO.block (w.heap.size+4) (by omega)).trans ((k6.block (w.heap.size+4) (by omega)).trans HY5.out));have OOI:=Lib.hid (Own.new (w:=w6) rfl [v] 35);have HVI:=Lib.hid (hv.below kO);have HFV:=Lib.hid hfv;have hsI:(w6.alloc (.cells #[v] 35)).heap.size=w6.heap.size+1:=by simp
          obtain ⟨va,vc,rfl,-⟩:=_root_.id hv;clear eA cA o0 ofA hv k6 hfv kO OEV5 OTK5 OZB5 OYB5 HZ5 HY5 IS KH5
          by_cases hG:G=0
          · subst hG
            go_upto_region 26 with fail
            obtain ⟨wI,hwI⟩:∃ W,W=w6.alloc (.cells #[.slice va PL.length vc] 35):=⟨_,rfl⟩;rw [← hwI] at KI OEVI OTKI OZBI OYBI HZI HYI OOI HVI hsI
            try rw [← hwI]
            clear hwI
            go_cut [] (fun wx=>wx=wI.setCell ⟨w2.heap.size+1,3,none⟩ (I N))
            case first=>
              have kO:=OTKI.out;have kfA:=kO.f;have k0:=kO.c0;have k1:=kO.c1;have k2:=kO.c2;have k3:=kO.c3;clear kO
              go_wp2_with fail
              go_meet
              rfl
            case rest=>
            subst hcut;go_upto_region 27 with fail
            go_cut [] (fun wx=>Own wx (w2.heap.size+1) [I cl,I b1,I A,I N]∧Own wx (w.heap.size+2) [I ki,I me,I mo,I b1,I b2,I b3,I b4,I b5,I b6,I b7,I N,I 0,I 0]∧But2 (w.heap.size+2) (w2.heap.size+1) wI.heap.size wI wx∧Below w.heap.size w wx)
            case first=>
              have eO:=OEVI.out.other (a:=⟨w2.heap.size+1,3,none⟩) n1 (I N);have eA:=eO.s13;clear eO
              go_wp2_with fail
              go_meet;exact ⟨(OTKI.out.set 3 (I N)).other (a:=⟨w.heap.size+2,10,none⟩) n2 _,(OEVI.out.other (a:=⟨w2.heap.size+1,3,none⟩) n1 (I N)).set 10 (I N),((But2.refl (w.heap.size+2) (w2.heap.size+1) wI.heap.size wI).set (w2.heap.size+1) 3 (I N) (.inr rfl)).set (w.heap.size+2) 10 (I N) (.inl rfl),(KI.out.setCell (p:=⟨w2.heap.size+1,3,none⟩) hwt _).setCell (p:=⟨w.heap.size+2,10,none⟩) hw2 _⟩
            case rest=>
            obtain ⟨wJ,hwJ⟩:∃ W,W=wc:=⟨_,rfl⟩;subst hwJ;obtain ⟨otk,oev,hbt,kJ⟩:=hcut;have hIJ:=hbt.2;have OTKJ:=Lib.hid otk;have OEVJ:=Lib.hid oev;have KJ:=Lib.hid kJ;have OZBJ:=Lib.hid (hbt.own OZBI.out (by omega) (by omega) (by omega));have OYBJ:=Lib.hid (hbt.own OYBI.out (by omega) (by omega) (by omega));have OOJ:=Lib.hid (hbt.own OOI.out (by omega) (by omega) (by omega));have HZJ:=Lib.hid ((hbt.1 (w.heap.size+3) (by omega) (by omega) (by omega)).trans HZI.out);have HYJ:=Lib.hid ((hbt.1 (w.heap.size+4) (by omega) (by omega) (by omega)).trans HYI.out);have HVJ:=Lib.hid (sl_but HVI.out hbt HFV.out (by omega) (by omega));have KP:=Lib.hid (keeps_any (.slice a xs.length cap) xs ki me mo b1 b2 b3 b4 b5 b6 b7 N 0 0 wJ (HC.out.below kJ) HWW.out);unfold KeepsP at KP;have HKK:=Lib.hid (show keepsE xs (vtEv ki me mo ⟨b1,b2,b3,b4,b5,b6,b7⟩ N)=keepsE xs ⟨ki,me,mo,⟨b1,b2,b3,b4,b5,b6,b7⟩,N,⟨0,0⟩⟩ from rfl);have HKL:=Lib.hid (show keepsL xs (vtEv ki me mo ⟨b1,b2,b3,b4,b5,b6,b7⟩ N)=keepsL xs ⟨ki,me,mo,⟨b1,b2,b3,b4,b5,b6,b7⟩,N,⟨0,0⟩⟩ from rfl);have eO:=oev;have eA:=eO.s13;clear eO;generalize keepsE xs ⟨ki,me,mo,⟨b1,b2,b3,b4,b5,b6,b7⟩,N,⟨0,0⟩⟩=KE at *;generalize keepsL xs ⟨ki,me,mo,⟨b1,b2,b3,b4,b5,b6,b7⟩,N,⟨0,0⟩⟩=KL at *;clear otk oev hbt kJ OTKI OEVI OZBI OYBI OOI HZI HYI HVI KI
            go_wp2_with fail
            refine KP.out.mono ?_;rintro e w7 ⟨uw,rfl,hu,k7⟩;clear eA;have kk7:=KJ.out.trans (k7.mono KJ.out.size);obtain ⟨ua,uc,rfl,-⟩:=_root_.id hu
            by_cases hK:KE=0
            · subst hK
              have FM:=Lib.hid (fun W=>Formatted_any cl b1 A N W);unfold FmtP at FM;have HYY:=Lib.hid (vtA_yes (xs:=xs) (ps:=ps) (ki:=ki) (me:=me) (mo:=mo) (cls:=cl) (draw:=draw) (rev:=m2) (E:=0) (rv:=X2) (B:=⟨b1,b2,b3,b4,b5,b6,b7⟩) rfl HA.out HTF.out HD.out HG.out HN.out HKK.out)
              have hY:vtO t xs ps ki me mo (clsOf ki) draw (askE t ki te mo) (askX t ki te mo) (askB t ki te mo)=⟨0,KL,PL,me,⟨b1,b2,b3,b4,b5,b6,b7⟩,fmtT ⟨cl,b1,A,N⟩⟩:=by
                rw [HVT.out,HYY.out,HKL.out,HPL.out];rfl
              have HY:=Lib.hid hY;obtain ⟨tx,htx⟩:∃ tx,fmtT ⟨cl,b1,A,N⟩=tx:=⟨_,rfl⟩;rw [htx] at FM HY;generalize tokFault ⟨cl,b1,A,N⟩=tf at *;have HU:=Lib.hid hu;have KK7:=Lib.hid kk7;have K7:=Lib.hid k7;have kO:=OTKJ.out.below k7;have kfA:=kO.f;have k0:=kO.c0;have k1:=kO.c1;have k2:=kO.c2;have k3:=kO.c3;clear kO;clear hu k7 kk7 hY htx HYY KP
              go_wp2_with fail
              refine (FM.out _).mono ?_;rintro e w8 ⟨rfl,k8⟩;have kk8:=KK7.out.trans (k8.mono KK7.out.size);have KK8:=Lib.hid kk8;have k78:=K7.out.trans (k8.mono K7.out.size);have hU8:=HU.out.below k8;have hV8:=HVJ.out.below k78;have hz8:=(k78.block (w.heap.size+3) (by omega)).trans HZJ.out;have hy8:=(k78.block (w.heap.size+4) (by omega)).trans HYJ.out;have HF:=Lib.hid (And.intro (fun hn=>far_writes hz8 (by rfl) hU8 hn) (And.intro (fun hn=>far_writes hy8 (by rfl) hU8 hn) (And.intro (HFV.out.far (z:=w.heap.size+3) (by omega)) (HFV.out.far (z:=w.heap.size+4) (by omega)))));have HU8:=Lib.hid hU8;have HV8:=Lib.hid hV8;have oO:=OOJ.out.below k78;have ofA:=oO.f;have o0:=oO.c0;clear oO;have eO:=OEVJ.out.below k78;have eA:=eO.s13;clear eO;have zO:=OZBJ.out.below k78;have zA:=zO.s1;clear zO;have yO:=OYBJ.out.below k78;have yfA:=yO.f;have y0:=yO.c0;have y1:=yO.c1;have y2:=yO.c2;have y3:=yO.c3;have y4:=yO.c4;have y5:=yO.c5;have y6:=yO.c6;have y7:=yO.c7;have y8:=yO.c8;clear yO;have n4:¬ w6.heap.size=w.heap.size+3:=by omega
              have n5:¬ w6.heap.size=w.heap.size+4:=by omega
              have n6:¬ w.heap.size+3=w6.heap.size:=by omega
              have n7:¬ w.heap.size+4=w6.heap.size:=by omega
              clear k0 k1 k2 k3 kfA k8 kk8 k78 hU8 hV8 hz8 hy8 OOJ OEVJ OZBJ OYBJ HVJ HU HZJ HYJ;go_wp2;go_region
              all_goals
                go_wp2
                exact bodyPost_ret (v:=.tuple #[.slice ua KL.length uc,.agg #[.slice va PL.length vc],.agg #[I me,I b1,I b2,I b3,I b4,I b5,I b6,I b7,.string tx],I 0]) (by simp [results,Tryz.results14,go_sem, *];try omega) rfl (Vt4P.yes HY.out (by repeat first | with_reducible refine Sl.drew ?_ | with_reducible exact HU8.out | with_reducible refine sl_put ?_ HF.out.1 _ | with_reducible refine sl_put ?_ HF.out.2.1 _) (by repeat first | with_reducible refine Sl.drew ?_ | with_reducible exact HV8.out | with_reducible refine sl_put ?_ (fun _=>HF.out.2.2.1) _ | with_reducible refine sl_put ?_ (fun _=>HF.out.2.2.2) _) (by
                  have:=KK8.out;have:=KK8.out.drew
                  repeat first | with_reducible assumption | with_reducible refine Below.drew ?_ | with_reducible refine Below.setCell ?_ (by first | (show w.heap.size≤w.heap.size+1+1+1;omega) | (show w.heap.size≤w.heap.size+1+1+1+1;omega) | (dsimp only;omega)) _))
            · have hb:(KE != 0)=true:=by simp [hK]
              have HR:=Lib.hid (HVT.out.trans (vtA_keep (rv:=X2) rfl HA.out HTF.out HD.out HG.out HN.out HKK.out hK));have zO:=OZBJ.out.below k7;have zA:=zO.s1;clear zO;have yO:=OYBJ.out.below k7;have yfA:=yO.f;have y0:=yO.c0;have y1:=yO.c1;have y2:=yO.c2;have y3:=yO.c3;have y4:=yO.c4;have y5:=yO.c5;have y6:=yO.c6;have y7:=yO.c7;have y8:=yO.c8;clear yO;clear hK hu k7 KP OZBJ OYBJ;go_wp2;exact bodyPost_ret (v:=vt4No KE) (by simp [results,Tryz.results14,go_sem, *];try omega) rfl (Vt4P.no HR.out below_autor)
          · have hb:(G != 0)=true:=by simp [hG]
            have HR:=Lib.hid (HVT.out.trans (vtA_iss (rv:=X2) rfl HA.out HTF.out HD.out HG.out hG));have kkI:=KI.out;have zO:=OZBI.out;have zA:=zO.s1;clear zO;have yO:=OYBI.out;have yfA:=yO.f;have y0:=yO.c0;have y1:=yO.c1;have y2:=yO.c2;have y3:=yO.c3;have y4:=yO.c4;have y5:=yO.c5;have y6:=yO.c6;have y7:=yO.c7;have y8:=yO.c8;clear yO;clear hG OZBI OYBI HG;go_wp2;exact bodyPost_ret (v:=vt4No G) (by simp [results,Tryz.results14,go_sem, *];try omega) rfl (Vt4P.no HR.out below_autor)
        · have hb:(E != 0)=true:=by simp [hE]
          have HR:=Lib.hid (HVT.out.trans (vtA_acc hE));have kkG:=KG.out;have zO:=OZB.out;have zA:=zO.s1;clear zO;have yO:=OYB.out;have yfA:=yO.f;have y0:=yO.c0;have y1:=yO.c1;have y2:=yO.c2;have y3:=yO.c3;have y4:=yO.c4;have y5:=yO.c5;have y6:=yO.c6;have y7:=yO.c7;have y8:=yO.c8;clear yO;clear hE OZB OYB HVT HTOK HREV;go_wp2;exact bodyPost_ret (v:=vt4No E) (by simp [results,Tryz.results14,go_sem, *];try omega) rfl (Vt4P.no HR.out below_autor)
    · have HR:=Lib.hid (vtO_none (ps:=ps) (ki:=ki) (mo:=mo) (cls:=clsOf ki) (draw:=draw) (aE:=askE t ki te mo) (aX:=askX t ki te mo) (aB:=askB t ki te mo) H0.out (by omega:idxOf (loadC t xs) me < 0))
      have h3':idxOf (loadC t xs) me < 0:=by omega
      have zO:=OZ2.out;have zA:=zO.s1;clear zO;have yO:=OY2.out;have yfA:=yO.f;have y0:=yO.c0;have y1:=yO.c1;have y2:=yO.c2;have y3:=yO.c3;have y4:=yO.c4;have y5:=yO.c5;have y6:=yO.c6;have y7:=yO.c7;have y8:=yO.c8;clear yO;clear k2 h3 HB;generalize idxOf (loadC t xs) me=at_ at *;go_wp2;exact bodyPost_ret (v:=vt4No 18) (by simp [results,Tryz.results14,go_sem, *];try omega) rfl (Vt4P.no HR.out below_autor)
  · have HR:=Lib.hid (vtO_load (me:=me) (ps:=ps) (ki:=ki) (mo:=mo) (cls:=clsOf ki) (draw:=draw) (aE:=askE t ki te mo) (aX:=askX t ki te mo) (aB:=askB t ki te mo) h0)
    have hb:(loadE t xs != 0)=true:=by simp [h0]
    have kk:=KK.out;have zO:=OZ1.out;have zA:=zO.s1;clear zO;have yO:=OY1.out;have yfA:=yO.f;have y0:=yO.c0;have y1:=yO.c1;have y2:=yO.c2;have y3:=yO.c3;have y4:=yO.c4;have y5:=yO.c5;have y6:=yO.c6;have y7:=yO.c7;have y8:=yO.c8;clear yO;clear h0 HB;generalize loadE t xs=E at *;go_wp2;exact bodyPost_ret (v:=vt4No E) (by simp [results,Tryz.results14,go_sem, *];try omega) rfl (Vt4P.no HR.out below_autor)
end Go.Proofs.YtdjgcenjonegjaaGreat
