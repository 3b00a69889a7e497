/- (*book.keeper).sell at every event that sells · (*book.keeper).keep: what is sold · (*book.keeper).keep: a charge · (*book.keeper).keep: a charge, the walk -/
import Derived.Test.YtdjgcenjonegjaaGreatSelS
import Derived.Test.YtdjgcenjonegjaaGreatSelG
import Derived.Test.YtdjgcenjonegjaaGreatSelR
import Derived.Test.YtdjgcenjonegjaaGreatPk18
import Derived.Test.YtdjgcenjonegjaaGreatPk26
import Derived.Test.YtdjgcenjonegjaaGreatPk27
set_option maxRecDepth 20000
set_option maxHeartbeats 8000000
set_option linter.unusedSimpArgs false
set_option linter.unusedVariables false
namespace Go.Proofs.YtdjgcenjonegjaaGreat
section
open Go Go.RowKit
theorem SellP.congr {B:Nat} {F:Int} {v:Value} {cs cs':List PCust} {w w':World} {e:Ending} (h:SellP B F v cs w e w') (hc:F=0→cs=cs'):SellP B F v cs' w e w':=
  ⟨fun h0=>by rw [← hc h0];exact h.1 h0,h.2⟩
theorem sell_any (t:PTerms) (v:AEvent) (tv:Value) (g cap j kb mb B:Nat) (cs:List PCust) (ys:List ACust) (w:World) (hv:v.kind=2∨v.kind=3∨v.kind=4)
    (hB:BookAt w B (.slice (some ⟨g,0,none⟩) cs.length cap) cs ys) (hj:j < cs.length) (oK:Own w kb [.slice (some ⟨g,0,none⟩) cs.length cap,tv,I t.f,I t.b,I t.d,I t.al,.map (some mb)]) (hkb:kb < B) (hBw:B≤w.heap.size)
    (tS:Sl w tv 2 t.ts.length (t.ts.flatMap AStep.cells)) (hlen:(cs.getD j default).sold.length≤1000):
    Calls Tryz.prog 124 #[.pointer (some ⟨kb,0,none⟩),.pointer (some ⟨g,j*8,none⟩),v.v] w (SellP B (sellsE t (cs.getD j default) v) (.slice (some ⟨g,0,none⟩) cs.length cap) (cs.set j ⟨ansX t (cs.getD j default) v,ansL t (cs.getD j default) v,(cs.getD j default).sold++[noted (cs.getD j default) v]⟩) w):=by
  have hCR:=hB.2.2.1 j hj;have hq:=sells_eq t (cs.getD j default) v;generalize hx:ys.getD j default=x at *;generalize cs.getD j default=c at *;obtain ⟨hxe,hSd,hSo⟩:=hCR;obtain ⟨m1,m2,m3,m4,m5,m6,da,dn,dc,sa,sn,sc⟩:=x;simp only [ofCust,ACust.mk.injEq,true_and,and_true] at hxe;obtain ⟨rfl,rfl,rfl,rfl,rfl,rfl,rfl,rfl⟩:=hxe;obtain ⟨ki,me,mo,⟨id,te,de,fe,pr,ch,un⟩,ta,⟨ow,bp⟩⟩:=v;obtain ⟨⟨x1,x2,x3,x4,x5,x6⟩,ds,ss⟩:=c;obtain ⟨ts,f,b,d,al⟩:=t;simp only at hv hSd hSo tS hlen hq oK hx ⊢;rcases hv with rfl | rfl | rfl
  · exact (sel_sale x1 x2 x3 x4 x5 x6 me mo id te de fe pr ch un ta ow bp f b d al _ _ _ _ _ _ _ _ _ _ _ _ _ _ da sa dc sc g cap j kb mb ds _ ss ts tv cs ys B w (Lib.hid fun W h1 h2=>Sell_any ⟨x1,x2,x3,x4,x5,x6⟩ _ tv ds ts f b d al te mo W h1 h2) hB hj hx hSd hSo oK hkb hBw tS hlen _ (Lib.hid hq)).mono fun e w' h=>h.congr fun _=>rfl
  · exact (sel_grant x1 x2 x3 x4 x5 x6 me mo id te de fe pr ch un ta ow bp f b d al _ _ _ _ _ _ _ _ _ _ _ _ _ _ da sa dc sc g cap j kb mb ds _ ss ts tv cs ys B w (Lib.hid fun W h1 h2=>Grant_any ⟨x1,x2,x3,x4,x5,x6⟩ _ tv ds ts f b d al mo W h1 h2) hB hj hx hSd hSo oK hkb hBw tS hlen _ (Lib.hid hq)).mono fun e w' h=>h.congr fun _=>rfl
  · exact (sel_rekey x1 x2 x3 x4 x5 x6 me mo id te de fe pr ch un ta ow bp f b d al _ (rekeyX ⟨x1,x2,x3,x4,x5,x6⟩ ds).meter (rekeyX ⟨x1,x2,x3,x4,x5,x6⟩ ds).rev (rekeyX ⟨x1,x2,x3,x4,x5,x6⟩ ds).next (rekeyX ⟨x1,x2,x3,x4,x5,x6⟩ ds).month (rekeyX ⟨x1,x2,x3,x4,x5,x6⟩ ds).bought (rekeyX ⟨x1,x2,x3,x4,x5,x6⟩ ds).free (rekeyB ⟨x1,x2,x3,x4,x5,x6⟩ ds).id (rekeyB ⟨x1,x2,x3,x4,x5,x6⟩ ds).tender (rekeyB ⟨x1,x2,x3,x4,x5,x6⟩ ds).debt (rekeyB ⟨x1,x2,x3,x4,x5,x6⟩ ds).fee (rekeyB ⟨x1,x2,x3,x4,x5,x6⟩ ds).price (rekeyB ⟨x1,x2,x3,x4,x5,x6⟩ ds).change (rekeyB ⟨x1,x2,x3,x4,x5,x6⟩ ds).units da sa dc sc g cap j kb mb ds _ ss ts tv cs ys B w (Lib.hid fun W h1=>Rekey_f ⟨x1,x2,x3,x4,x5,x6⟩ _ ds W h1) hB hj hx hSd hSo oK hkb hBw tS hlen _ (Lib.hid hq)).mono fun e w' h=>h.congr fun h0=>by
      have h1:rekeyE ⟨x1,x2,x3,x4,x5,x6⟩ ds=0:=sells_zero (v:=⟨4,me,mo,⟨id,te,de,fe,pr,ch,un⟩,ta,⟨ow,bp⟩⟩) (t:=⟨ts,f,b,d,al⟩) (c:=⟨⟨x1,x2,x3,x4,x5,x6⟩,ds,ss⟩) h0;have h2:(rekeyX ⟨x1,x2,x3,x4,x5,x6⟩ ds).rev=x2+1:=by rw [rekeyX,if_pos h1]
      have e:noted ⟨⟨x1,x2,x3,x4,x5,x6⟩,ds,ss⟩ ⟨4,me,mo,⟨id,te,de,fe,pr,ch,un⟩,ta,⟨ow,bp⟩⟩=⟨id,2,(rekeyX ⟨x1,x2,x3,x4,x5,x6⟩ ds).rev,ta,x2⟩:=by rw [h2];rfl
      rw [e]
      rfl
end
section
open Go Go.RowKit
theorem keep_sell (t : PTerms) (tv v : Value) (A B kb mb : Nat) (cs : List PCust) (ys : List ACust) (ki me mo id te de fe pr ch un ta ow bp : Int) (w : World) (hm : evMay ki me mo id te de fe pr ch un ta ow bp = true) (hme : I64 me) (hk : ki = 2 ∨ ki = 3 ∨ ki = 4)
    (oK:Own w kb [v,tv,I t.f,I t.b,I t.d,I t.al,.map (some mb)]) (oM:OwnIdx w mb (cs.map fun c=>c.acc.meter)) (hB:BookAt w B v cs ys) (ha:0≤idxOf cs me) (tS:Sl w tv 2 t.ts.length (t.ts.flatMap AStep.cells)) (hBw:B≤w.heap.size) (hkb:kb < B) (hmb:mb < B) (hA:A≤B) (hlen:∀ c∈cs,c.sold.length≤1000):
    Calls Tryz.prog 80 #[.pointer (some ⟨kb,0,none⟩),evV ki me mo id te de fe pr ch un ta ow bp] w (KeepP A B kb mb t tv cs ⟨ki,me,mo,⟨id,te,de,fe,pr,ch,un⟩,ta,⟨ow,bp⟩⟩ w):=by
  obtain ⟨j,hj⟩:=Int.eq_ofNat_of_zero_le ha;have hjl:j < cs.length:=by rcases idxOf_bd cs me with h | h<;>omega
  have hk1:¬ ki=1:=by omega
  have hk5:¬ ki=5:=by omega
  have hevE:evE t cs ⟨ki,me,mo,⟨id,te,de,fe,pr,ch,un⟩,ta,⟨ow,bp⟩⟩=sellsE t (cs.getD j default) ⟨ki,me,mo,⟨id,te,de,fe,pr,ch,un⟩,ta,⟨ow,bp⟩⟩:=by
    have:=evE_hap (t:=t) (cs:=cs) (v:=⟨ki,me,mo,⟨id,te,de,fe,pr,ch,un⟩,ta,⟨ow,bp⟩⟩) hm hk1 ha;simp only [hj,Int.toNat_natCast] at this;rw [this];unfold hapE;rw [if_neg hk5]
  have hevC:evC t cs ⟨ki,me,mo,⟨id,te,de,fe,pr,ch,un⟩,ta,⟨ow,bp⟩⟩=cs.set j ⟨ansX t (cs.getD j default) ⟨ki,me,mo,⟨id,te,de,fe,pr,ch,un⟩,ta,⟨ow,bp⟩⟩,ansL t (cs.getD j default) ⟨ki,me,mo,⟨id,te,de,fe,pr,ch,un⟩,ta,⟨ow,bp⟩⟩,(cs.getD j default).sold++[noted (cs.getD j default) ⟨ki,me,mo,⟨id,te,de,fe,pr,ch,un⟩,ta,⟨ow,bp⟩⟩]⟩:=by
    have:=evC_hap (t:=t) (cs:=cs) (v:=⟨ki,me,mo,⟨id,te,de,fe,pr,ch,un⟩,ta,⟨ow,bp⟩⟩) hk1;simp only [hj,Int.toNat_natCast] at this;rw [this];unfold hapC;rw [if_neg hk5]
  have hmet:sellsE t (cs.getD j default) ⟨ki,me,mo,⟨id,te,de,fe,pr,ch,un⟩,ta,⟨ow,bp⟩⟩=0→(ansX t (cs.getD j default) ⟨ki,me,mo,⟨id,te,de,fe,pr,ch,un⟩,ta,⟨ow,bp⟩⟩).meter=(cs.getD j default).acc.meter:=fun h=>by
    have h2:=hap_meter (t:=t) (c:=cs.getD j default) (v:=⟨ki,me,mo,⟨id,te,de,fe,pr,ch,un⟩,ta,⟨ow,bp⟩⟩) (by unfold hapE;rw [if_neg hk5];exact h);unfold hapC at h2;rw [if_neg hk5] at h2;exact h2
  have HE:=Lib.hid hevE;have HC:=Lib.hid hevC;have HMT:=Lib.hid hmet;have C:=Lib.hid (fun W=>check_any me mo id te de fe pr ch un ta ow bp ki W);rw [hm] at C;have HJ:Hid (findI me (cs.map fun c=>c.acc.meter) 0=(j:Int)):=hj;have hk':(ki==1)=false:=by rw [beq_eq_false_iff_ne];exact hk1
  have hk5':(ki != 5)=true:=by simp [hk5]
  have HKK:=Lib.hid hk;have hl0:=hlen _ (getD_mem (α:=PCust) hjl);obtain ⟨g,cap,rfl,hg1,hg2⟩:=owns_pos hB.2.1 (by omega);have HTS:=Lib.hid tS;clear hm ha hj hk hk1 hk5 hevE hevC hmet hlen tS;generalize hv:(.slice (some ⟨g,0,none⟩) cs.length cap:Value)=v at *;have HB:=Lib.hid hB;have oV:=Own.new (w:=w) (g:=w.heap.size) (by rfl) [I ki,I me,I mo,I id,I te,I de,I fe,I pr,I ch,I un,I ta,I ow,I bp] 48;have kB:=boxed_below w (.cells #[I ki,I me,I mo,I id,I te,I de,I fe,I pr,I ch,I un,I ta,I ow,I bp] 48);have HK:=Lib.hid oK;have HM:=Lib.hid oM;clear hB oK oM;go_enter Tryz.func80,Tryz.ntmps80
  go_wp2_with fail
  refine (C.out _).mono ?_;rintro e w1 ⟨he,k1⟩;simp only [if_true] at he;subst he;have kw1:=kB.trans (k1.mono kB.size);have oV1:=oV.below k1;have oK1:=HK.out.below kw1;have oM1:=HM.out.below kw1;have hsz1:w.heap.size+1≤w1.heap.size:=by have:=k1.size;simp at this;omega
  clear oV kB k1 C;go_upto_region 2 with fail
  go_cut [4,5] (fun s4 s5 wx=>s4=I (idxA (cs.map fun c=>c.acc.meter) me)∧s5=.bool (decide (0≤findI me (cs.map fun c=>c.acc.meter) 0))∧Own wx kb [v,tv,I t.f,I t.b,I t.d,I t.al,.map (some mb)]∧Own wx w.heap.size [I ki,I me,I mo,I id,I te,I de,I fe,I pr,I ch,I un,I ta,I ow,I bp]∧OwnIdx wx mb (cs.map fun c=>c.acc.meter)∧Below w.heap.size w wx∧w.heap.size+1≤wx.heap.size)
  case first=>
    have L:=run_lookI (w:=w1.drew) oM1 hme;have HK1:=Lib.hid oK1;have HV1:=Lib.hid oV1;have HM1:=Lib.hid oM1;have KW1:=Lib.hid kw1;have kO:=oK1;have kA:=kO.s7;clear kO;have vO:=oV1;have vA:=vO.s13;clear vO;clear oK1 oV1 oM1 kw1;go_region
    all_goals
      go_wp2_with fail
      go_meet;exact ⟨rfl,rfl,HK1.out,HV1.out,HM1.out,Below.drew KW1.out,hsz1⟩
  case rest=>
    obtain ⟨rfl,rfl,oK2,oV2,oM2,kw2,hsz2⟩:=hcut;clear oK1 oV1 oM1 kw1 hsz1;subst hv;have hidx:idxA (cs.map fun c=>c.acc.meter) me=(j:Int):=by unfold idxA;rw [HJ.out,if_pos (by omega)]
    rw [hidx,HJ.out];have hj0:(0:Int)≤(j:Int):=by omega
    have hj1:(j:Int) < (cs.length:Int):=by omega
    have hB2:=HB.out.below kw2;have HS:=Lib.hid (sell_any t ⟨ki,me,mo,⟨id,te,de,fe,pr,ch,un⟩,ta,⟨ow,bp⟩⟩ tv g cap j kb mb B cs ys wc HKK.out hB2 hjl oK2 hkb (Nat.le_trans hBw kw2.size) (HTS.out.below kw2) hl0);simp only [AEvent.v] at HS;have HM2:=Lib.hid oM2;have KW2:=Lib.hid kw2;have HK2:=Lib.hid oK2;clear hidx;have vO:=oV2;have vA:=vO.s13;clear vO;have kO:=oK2;have kA:=kO.s7;clear kO;clear hB2 oM2 kw2
    go_wp2_with fail
    refine (want_yes _ _).mono ?_;rintro e w' ⟨rfl,rfl⟩
    go_wp2_with fail
    refine HS.out.mono ?_;rintro e w3 hP;unfold SellP at hP
    by_cases hF:sellsE t (cs.getD j default) ⟨ki,me,mo,⟨id,te,de,fe,pr,ch,un⟩,ta,⟨ow,bp⟩⟩=0
    · obtain ⟨rfl,hb3,q3⟩:=hP.1 hF
      obtain ⟨ys3,hB3⟩:=hb3
      have hKS:Hid (KState w3 B kb mb t tv (evC t cs ⟨ki,me,mo,⟨id,te,de,fe,pr,ch,un⟩,ta,⟨ow,bp⟩⟩)):=by
        unfold Hid KState;rw [HC.out];refine ⟨_,ys3,?_,?_,hB3⟩
        · obtain ⟨cur,e,h1,h2⟩:=HK2.out
          exact ⟨cur,e,(q3.block kb hkb).trans h1,h2⟩
        · rw [set_meters hjl (HMT.out hF)]
          exact HM2.out.heap (q3.block mb hmb)
      have hBl:Hid (Below A w w3):=(below_le (KW2.out.mono (Nat.le_trans hA hBw)) (Nat.le_refl _)).trans (below_le q3 hA);have hE0:=Lib.hid (show evE t cs ⟨ki,me,mo,⟨id,te,de,fe,pr,ch,un⟩,ta,⟨ow,bp⟩⟩=0 by rw [HE.out];exact hF);clear hP hB3 q3 hF vA kA;go_wp2;exact bodyPost_ret (results_none rfl _ _ _) rfl (KeepP.yes hE0.out hKS.out hBl.out)
    · obtain ⟨rfl,q3⟩:=hP.2 hF
      have hE0:evE t cs ⟨ki,me,mo,⟨id,te,de,fe,pr,ch,un⟩,ta,⟨ow,bp⟩⟩=sellsE t (cs.getD j default) ⟨ki,me,mo,⟨id,te,de,fe,pr,ch,un⟩,ta,⟨ow,bp⟩⟩:=HE.out;exact ⟨rfl,KeepP.no hE0 hF (KW2.out.trans (q3.mono KW2.out.size))⟩
end
section
open Go Go.RowKit
theorem set_same_self {l:List Value} {k:Nat} {v:Value} (h:l[k]?=some v):l.set k v=l:=by
  apply List.ext_getElem?;intro i;rw [List.getElem?_set]
  by_cases e:k=i
  · subst e
    have hk:=(List.getElem?_eq_some_iff.1 h).1;rw [if_pos rfl,if_pos hk,h]
  · rw [if_neg e]
/-- seven cells of a customer are written, what he was sold stays -/
theorem flat_set7 {xs:List ACust} {k:Nat} (hk:k < xs.length) (x:ACust) (hs:(.slice x.sa x.sn x.sc:Value)=.slice (xs.getD k default).sa (xs.getD k default).sn (xs.getD k default).sc):(((((((xs.flatMap ACust.cells).set (k*8) (I x.meter)).set (k*8+1) (I x.rev)).set (k*8+2) (I x.next)).set (k*8+3) (I x.month)).set (k*8+4) (I x.bought)).set (k*8+5) (I x.free)).set (k*8+6) (.slice x.da x.dn x.dc)=(xs.set k x).flatMap ACust.cells:=by
  rw [← flat_set8 hk x];refine (set_same_self ?_).symm;rw [List.getElem?_set_ne (by omega),List.getElem?_set_ne (by omega),List.getElem?_set_ne (by omega),List.getElem?_set_ne (by omega),List.getElem?_set_ne (by omega),List.getElem?_set_ne (by omega),List.getElem?_set_ne (by omega)];have h:=getD_flat ACust.cells 8 ACust.cells_len xs k 7 hk (by decide);have hl:k*8+7 < (xs.flatMap ACust.cells).length:=by rw [length_flat _ 8 ACust.cells_len];omega
  rw [List.getD_eq_getElem?_getD,List.getElem?_eq_getElem hl] at h;rw [List.getElem?_eq_getElem hl,hs]
  congr 1
theorem book_charge {B g cap j:Nat} {cs:List PCust} {xs:List ACust} {ua da sa:Option Addr} {uc dc sc x1:Nat} {a1 a2 a3 a4 a5 a6:Int} {X:AAcc} {L:List ADebt} {S:List ASold} {w W1 W7:World}
    (hB:BookAt w B (.slice (some ⟨g,0,none⟩) cs.length cap) cs xs) (hBw:B≤w.heap.size) (hj:j < cs.length) (hx:xs.getD j default=⟨a1,a2,a3,a4,a5,a6,da,x1,dc,sa,S.length,sc⟩) (hso:w.ownsRow B 69 5 (.slice sa S.length sc) S.length (S.flatMap ASold.cells))
    (kw:Below w.heap.size w W1) (hu:Sl W1 (.slice ua L.length uc) 2 L.length (L.flatMap ADebt.cells)) (hF:FarB w.heap.size (.slice ua L.length uc)) (h7:ButFor g W1 W7)
    (hrow:W7.ownsRow B 67 8 (.slice (some ⟨g,0,none⟩) cs.length cap) cs.length ((((((((xs.flatMap ACust.cells).set (j*8) (I X.meter)).set (j*8+1) (I X.rev)).set (j*8+2) (I X.next)).set (j*8+3) (I X.month)).set (j*8+4) (I X.bought)).set (j*8+5) (I X.free)).set (j*8+6) (.slice ua L.length uc))):
    (∃ ys,BookAt W7 B (.slice (some ⟨g,0,none⟩) cs.length cap) (cs.set j ⟨X,L,S⟩) ys)∧Below B w W7:=by
  have hjx:j < xs.length:=by rw [hB.1];exact hj
  have hgB:=hB.2.1.lt g rfl;have hflat:=flat_set7 hjx (ofCust ⟨X,L,S⟩ ua uc sa sc) (by rw [hx];rfl);simp only [ofCust] at hflat;rw [hflat] at hrow;have hsb:sBlk (ofCust ⟨X,L,S⟩ ua uc sa sc)=(Value.slice sa S.length sc).ownBlock:=sBlk_own;have hsx:sBlk (xs.getD j default)=(Value.slice sa S.length sc).ownBlock:=by rw [hx];exact sBlk_own
  have hsoB:∀ z,(Value.slice sa S.length sc).ownBlock=some z→B≤z∧z < w.heap.size:=fun z hz=>hso.lt z hz;have hgso:(Value.slice sa S.length sc).ownBlock≠some g:=fun e=>(((hB.2.2.2 j hjx g).2 (by rw [hsx];exact e)).1) rfl;have s7:=h7.2.1;have sw:=kw.size
  have hd:∀ z,dBlk (ofCust ⟨X,L,S⟩ ua uc sa sc)=some z→w.heap.size≤z:=fun z hz=>by
    obtain ⟨off,pr,rfl,hp⟩:=dblk_at hz;exact hF _ _ _ rfl
  have hu7:Sl W7 (.slice ua L.length uc) 2 L.length (L.flatMap ADebt.cells):=by
    refine sl_heap hu (by omega) fun a m cc hv hp=>?_
    simp only [Value.slice.injEq] at hv;obtain ⟨rfl,-,-⟩:=hv;have q1:w.heap.size≤a.block:=hF _ _ _ rfl;exact h7.1 _ (by omega)
  have hso7:=h7.owns (owns_below hso kw) hgso;refine ⟨⟨xs.set j (ofCust ⟨X,L,S⟩ ua uc sa sc),hB.set hBw hj (by omega) (fun z hz hv hs=>?_) hrow ⟨rfl,hu7,hso7⟩ (fun z hz=>⟨hd z hz,fun e=>?_⟩) (fun z hz=>.inl (by rw [hsx,← hsb];exact hz))⟩,?_⟩
  · rw [h7.1 z (fun e=>hv (by rw [e];rfl))]
    exact kw.block z hz
  · rw [hsb] at e
    have:=(hsoB _ e).2;have:=hd _ hz;omega
  · refine ⟨h7.2.2.1.trans kw.os,h7.2.2.2.1.trans kw.tape,h7.2.2.2.2.trans kw.output,by omega,fun z hz=>?_⟩
    rw [h7.1 z (by omega)];exact kw.block z (by omega)
end
section
open Go Go.RowKit
theorem keep_charge0 (t : PTerms) (tv : Value) (g cap A B kb mb j : Nat) (cs : List PCust) (ys : List ACust) (me mo id te de fe pr ch un ta ow bp x1 x2 x3 x4 x5 x6 E X1 X2 X3 X4 X5 X6 : Int) (da sa : Option Addr) (dc sc : Nat) (ds L : List ADebt) (ss : List ASold) (w : World) (hm : evMay 5 me mo id te de fe pr ch un ta ow bp = true) (hme : I64 me)
    (oK:Own w kb [.slice (some ⟨g,0,none⟩) cs.length cap,tv,I t.f,I t.b,I t.d,I t.al,.map (some mb)]) (oM:OwnIdx w mb (cs.map fun c=>c.acc.meter)) (hB:BookAt w B (.slice (some ⟨g,0,none⟩) cs.length cap) cs ys) (hj:j < cs.length) (HJ:Hid (findI me (cs.map fun c=>c.acc.meter) 0=(j:Int)))
    (hx:ys.getD j default=⟨x1,x2,x3,x4,x5,x6,da,ds.length,dc,sa,ss.length,sc⟩) (hS:Sl w (.slice da ds.length dc) 2 ds.length (ds.flatMap ADebt.cells)) (hso:w.ownsRow B 69 5 (.slice sa ss.length sc) ss.length (ss.flatMap ASold.cells))
    (Ow:Hid (∀ W,Sl W (.slice da ds.length dc) 2 ds.length (ds.flatMap ADebt.cells)→Calls Tryz.prog 125 #[.agg #[I x1,I x2,I x3,I x4,I x5,I x6,.slice da ds.length dc],.agg #[I ow,I bp]] W (GrewAccF ⟨X1,X2,X3,X4,X5,X6⟩ L E W)))
    (HE:Hid (evE t cs ⟨5,me,mo,⟨id,te,de,fe,pr,ch,un⟩,ta,⟨ow,bp⟩⟩=E)) (HC:Hid (E=0→evC t cs ⟨5,me,mo,⟨id,te,de,fe,pr,ch,un⟩,ta,⟨ow,bp⟩⟩=cs.set j ⟨⟨X1,X2,X3,X4,X5,X6⟩,L,ss⟩)) (HMT:Hid (E=0→X1=(cs.getD j default).acc.meter))
    (hBw:B≤w.heap.size) (hkb:kb < B) (hmb:mb < B) (hA:A≤B):
    Calls Tryz.prog 80 #[.pointer (some ⟨kb,0,none⟩),evV 5 me mo id te de fe pr ch un ta ow bp] w (KeepP A B kb mb t tv cs ⟨5,me,mo,⟨id,te,de,fe,pr,ch,un⟩,ta,⟨ow,bp⟩⟩ w):=by
  have hjx:j < ys.length:=by rw [hB.1];exact hj
  have hrow:=row_cells (Own.of_owns hB.2.1) hjx;rw [hx] at hrow;have HX:=Lib.hid hx;have hgB:=hB.2.1.lt g rfl;have HSd:=Lib.hid hS;have HSo:=Lib.hid hso;have HR0:=Lib.hid hrow;have C:=Lib.hid (fun W=>check_any me mo id te de fe pr ch un ta ow bp 5 W);rw [hm] at C;clear hm hx hS hso hrow;generalize hv:(.slice (some ⟨g,0,none⟩) cs.length cap:Value)=v at *;have HB:=Lib.hid hB;have oV:=Own.new (w:=w) (g:=w.heap.size) (by rfl) [I 5,I me,I mo,I id,I te,I de,I fe,I pr,I ch,I un,I ta,I ow,I bp] 48;have kB:=boxed_below w (.cells #[I 5,I me,I mo,I id,I te,I de,I fe,I pr,I ch,I un,I ta,I ow,I bp] 48);have HK:=Lib.hid oK;have HM:=Lib.hid oM;clear hB oK oM;go_enter Tryz.func80,Tryz.ntmps80
  go_wp2_with fail
  refine (C.out _).mono ?_;rintro e w1 ⟨he,k1⟩;simp only [if_true] at he;subst he;have kw1:=kB.trans (k1.mono kB.size);have oV1:=oV.below k1;have oK1:=HK.out.below kw1;have oM1:=HM.out.below kw1;have hsz1:w.heap.size+1≤w1.heap.size:=by have:=k1.size;simp at this;omega
  clear oV kB k1 C;go_upto_region 2 with fail
  go_cut [4,5] (fun s4 s5 wx=>s4=I (idxA (cs.map fun c=>c.acc.meter) me)∧s5=.bool (decide (0≤findI me (cs.map fun c=>c.acc.meter) 0))∧Own wx kb [v,tv,I t.f,I t.b,I t.d,I t.al,.map (some mb)]∧Own wx w.heap.size [I 5,I me,I mo,I id,I te,I de,I fe,I pr,I ch,I un,I ta,I ow,I bp]∧OwnIdx wx mb (cs.map fun c=>c.acc.meter)∧Below w.heap.size w wx∧w.heap.size+1≤wx.heap.size)
  case first=>
    have L:=run_lookI (w:=w1.drew) oM1 hme;have HK1:=Lib.hid oK1;have HV1:=Lib.hid oV1;have HM1:=Lib.hid oM1;have KW1:=Lib.hid kw1;have kO:=oK1;have kfA:=kO.f;have k0:=kO.c0;have k1:=kO.c1;have k2:=kO.c2;have k3:=kO.c3;have k4:=kO.c4;have k5:=kO.c5;have k6:=kO.c6;clear kO;have vO:=oV1;have vA:=vO.s13;clear vO;clear oK1 oV1 oM1 kw1;go_region
    all_goals
      go_wp2_with fail
      go_meet;exact ⟨rfl,rfl,HK1.out,HV1.out,HM1.out,Below.drew KW1.out,hsz1⟩
  case rest=>
    obtain ⟨rfl,rfl,oK2,oV2,oM2,kw2,hsz2⟩:=hcut;clear oK1 oV1 oM1 kw1 hsz1;subst hv;have hidx:idxA (cs.map fun c=>c.acc.meter) me=(j:Int):=by unfold idxA;rw [HJ.out,if_pos (by omega)]
    rw [hidx,HJ.out];have hj0:(0:Int)≤(j:Int):=by omega
    have hj1:(j:Int) < (cs.length:Int):=by omega
    have HM2:=Lib.hid oM2;have KW2:=Lib.hid kw2;have HK2:=Lib.hid oK2;have HV2:=Lib.hid oV2;have HROW:=Lib.hid (fun i hi=>And.intro ((kw2.cell (p:=⟨g,j*8+i,none⟩) hgB.2).trans (HR0.out i hi).1) ((kw2.frozen (p:=⟨g,j*8+i,none⟩) hgB.2).trans (HR0.out i hi).2));have hrowc:=HROW.out;have y0:=(hrowc 0 (by decide)).1;simp only [ACust.cells,List.getD_cons_zero,Nat.add_zero] at y0;clear hidx hrowc;have vO:=oV2;have vA:=vO.s13;clear vO;have kO:=oK2;have kfA:=kO.f;have k0:=kO.c0;have k1:=kO.c1;have k2:=kO.c2;have k3:=kO.c3;have k4:=kO.c4;have k5:=kO.c5;have k6:=kO.c6;clear kO;clear oM2 kw2 oK2 oV2
    go_wp2_with fail
    refine (want_yes _ _).mono ?_;rintro e w' ⟨rfl,rfl⟩;go_upto_region 12 with fail
    clear vA k0 k1 k2 k3 k4 k5 k6 kfA y0
    go_cut [9,10] (fun s9 s10 wx=>∃ ga ua uc,s9=.pointer (some ⟨ga,0,none⟩)∧s10=I E∧Own wx ga [I X1,I X2,I X3,I X4,I X5,I X6,.slice ua L.length uc]∧Sl wx (.slice ua L.length uc) 2 L.length (L.flatMap ADebt.cells)∧FarB w.heap.size (.slice ua L.length uc)∧Below w.heap.size w wx∧w.heap.size≤ga)
    case first=>
      have HSS:(fun W=>Own W w.heap.size [I 5,I me,I mo,I id,I te,I de,I fe,I pr,I ch,I un,I ta,I ow,I bp]∧∀ i,i < 8→W.cell? ⟨g,j*8+i,none⟩=some ((ACust.mk x1 x2 x3 x4 x5 x6 da ds.length dc sa ss.length sc).cells.getD i undef)) wc.drew:=⟨HV2.out,fun i hi=>(HROW.out i hi).1⟩;have hs0:=KW2.out.size;have HF:=fun (W:World) (h:(fun W=>Own W w.heap.size [I 5,I me,I mo,I id,I te,I de,I fe,I pr,I ch,I un,I ta,I ow,I bp]∧∀ i,i < 8→W.cell? ⟨g,j*8+i,none⟩=some ((ACust.mk x1 x2 x3 x4 x5 x6 da ds.length dc sa ss.length sc).cells.getD i undef)) W)=>(And.intro (Own.t13 h.1) (And.intro (h.2 0 (by decide)) (And.intro (h.2 1 (by decide)) (And.intro (h.2 2 (by decide)) (And.intro (h.2 3 (by decide)) (And.intro (h.2 4 (by decide)) (And.intro (h.2 5 (by decide)) (h.2 6 (by decide)))))))));simp only [ACust.cells,List.getD_cons_zero,List.getD_cons_succ,Nat.add_zero] at HF;refine AnyC.begin 6 (fun W=>Own W w.heap.size [I 5,I me,I mo,I id,I te,I de,I fe,I pr,I ch,I un,I ta,I ow,I bp]∧∀ i,i < 8→W.cell? ⟨g,j*8+i,none⟩=some ((ACust.mk x1 x2 x3 x4 x5 x6 da ds.length dc sa ss.length sc).cells.getD i undef)) (by kernel_rfl) ?_;refine AnyC.tk 0 ?_ HSS ?_ ?_;rotate_left
      · (intro W hSw;have hf:=HF W hSw;clear hSw;first | (go_simp;done) | (go_simp;with_reducible rfl))
      (try simp only [Act.put]);(try simp only [List.setIfInBounds_toArray]);refine AnyC.tk 1 ?_ HSS ?_ ?_;rotate_left
      · (intro W hSw;have hf:=HF W hSw;clear hSw;first | (go_simp;done) | (go_simp;with_reducible rfl))
      (try simp only [Act.put]);refine AnyC.tk 2 ?_ HSS ?_ ?_;rotate_left
      · (intro W hSw;have hf:=HF W hSw;clear hSw;first | (go_simp;done) | (go_simp;with_reducible rfl))
      (try simp only [Act.put]);refine AnyC.tk 3 ?_ HSS ?_ ?_;rotate_left
      · (intro W hSw;have hf:=HF W hSw;clear hSw;first | (go_simp;done) | (go_simp;with_reducible rfl))
      (try simp only [Act.put]);refine AnyC.tk 4 ?_ HSS ?_ ?_;rotate_left
      · (intro W hSw;have hf:=HF W hSw;clear hSw;first | (go_simp;done) | (go_simp;with_reducible rfl))
      (try simp only [Act.put]);refine AnyC.tk 5 ?_ HSS ?_ ?_;rotate_left
      · (intro W hSw;have hf:=HF W hSw;clear hSw;first | (go_simp;done) | (go_simp;with_reducible rfl))
      (try simp only [Act.put]);refine AnyC.two (i:=6) (j:=10) (by kernel_rfl) (by rfl) (by rfl) (fun K hK=>?_) (fun K hK=>?_)
      · go_simp
        have hSc:=HSd.out.below KW2.out;(with_reducible refine (Ow.out _ ?_).mono ?_)
        · exact hSc
        rintro e w4 ⟨u,rfl,hu,k4,hFu⟩;obtain ⟨ua,uc,rfl,-⟩:=_root_.id hu;have k4':Below wc.heap.size wc w4:=⟨k4.os,k4.tape,k4.output,k4.size,k4.block⟩;have hFu':FarB wc.heap.size (.slice ua L.length uc):=hFu;have kw4:=KW2.out.trans (k4'.mono hs0)
        go_wp2_with fail
        refine hK.out _ _ (fun h=>absurd rfl h) ?_;clear hK K HSS;(try simp only [Act.put]);refine AnyC.pu 7 ?_ ?_ ?_;rotate_left
        · (intro w;first | (go_simp;done) | (go_simp;with_reducible rfl))
        (try simp only [Act.put]);refine AnyC.pu 8 ?_ ?_ ?_;rotate_left
        · (intro w;first | (go_simp;done) | (go_simp;with_reducible rfl))
        (try simp only [Act.put]);refine AnyC.pu 9 ?_ ?_ ?_;rotate_left
        · (intro w;first | (go_simp;done) | (go_simp;with_reducible rfl))
        (try simp only [Act.put]);refine AnyC.one (i:=10) (by kernel_rfl) (by rfl) (fun K hK=>?_);go_simp;refine hK.out _ _ (fun _ h=>absurd h (by decide)) ?_;clear hK K;(try simp only [Act.put]);refine AnyC.one (i:=11) (by kernel_rfl) (by rfl) (fun K hK=>?_);go_simp;refine hK.out _ _ (fun _ h=>absurd h (by decide)) ?_;clear hK K;(try simp only [Act.put]);refine AnyC.one (i:=12) (by kernel_rfl) (by rfl) (fun K hK=>?_);go_simp;refine hK.out _ _ (fun _ h=>absurd h (by decide)) ?_;clear hK K;(try simp only [Act.put]);refine AnyC.done (by kernel_rfl) ?_ _
        go_wp2_with fail
        go_meet;have kA:=boxed_below w4 (.cells #[I X1,I X2,I X3,I X4,I X5,I X6,.slice ua L.length uc] 64);exact ⟨_,ua,uc,rfl,rfl,Own.new rfl [I X1,I X2,I X3,I X4,I X5,I X6,.slice ua L.length uc] _,hu.below kA,hFu'.mono hs0,kw4.trans (kA.mono kw4.size),kw4.size⟩
      · go_simp
        have kP:Below wc.heap.size wc (World.drew (wc.alloc (.cells #[I 0,I 0,I 0,I 0,I 0,I 0,.slice none 0 0] 64))):=(boxed_below wc _).drew;have oP:Own (World.drew (wc.alloc (.cells #[I 0,I 0,I 0,I 0,I 0,I 0,.slice none 0 0] 64))) wc.heap.size [I 0,I 0,I 0,I 0,I 0,I 0,.slice none 0 0]:=Own.new rfl _ _;refine hK.out _ _ (fun _ _=>⟨HV2.out.below kP,fun i hi=>(kP.cell (p:=⟨g,j*8+i,none⟩) (Nat.lt_of_lt_of_le hgB.2 hs0)).trans (HROW.out i hi).1⟩) ?_;clear hK K HSS;(try simp only [Act.put]);refine AnyC.one (i:=6) (by kernel_rfl) (by rfl) (fun K hK=>?_);go_simp;have hSc:=(HSd.out.below KW2.out).below kP;(with_reducible refine (Ow.out _ ?_).mono ?_)
        · exact hSc
        rintro e w4 ⟨u,rfl,hu,k4,hFu⟩;obtain ⟨ua,uc,rfl,-⟩:=_root_.id hu;have hsP:(World.drew (wc.alloc (.cells #[I 0,I 0,I 0,I 0,I 0,I 0,.slice none 0 0] 64))).heap.size=wc.heap.size+1:=by simp
        have k4':Below (wc.heap.size+1) (World.drew (wc.alloc (.cells #[I 0,I 0,I 0,I 0,I 0,I 0,.slice none 0 0] 64))) w4:=by rw [← hsP];exact k4
        have hFu':FarB (wc.heap.size+1) (.slice ua L.length uc):=by rw [← hsP];exact hFu
        have hF1:=hFu'.far (show wc.heap.size < wc.heap.size+1 by omega);have oP4:=oP.below (k4'.mono (by omega));have kw4:=(KW2.out.trans (kP.mono hs0)).trans (k4'.mono (by omega));have OP:=Lib.hid oP4;have aO:=oP4;have aA:=aO.s7;clear aO;have r1:=set_same;have r2:=set_off;have r3:=set_blk;clear oP oP4
        go_wp2_with fail
        refine hK.out _ _ (fun h=>absurd rfl h) ?_;clear hK K;(try simp only [Act.put]);refine AnyC.pu 7 ?_ ?_ ?_;rotate_left
        · (intro w;first | (go_simp;done) | (go_simp;with_reducible rfl))
        (try simp only [Act.put]);refine AnyC.pu 8 ?_ ?_ ?_;rotate_left
        · (intro w;first | (go_simp;done) | (go_simp;with_reducible rfl))
        (try simp only [Act.put]);refine AnyC.pu 9 ?_ ?_ ?_;rotate_left
        · (intro w;first | (go_simp;done) | (go_simp;with_reducible rfl))
        (try simp only [Act.put]);refine AnyC.one (i:=11) (by kernel_rfl) (by rfl) (fun K hK=>?_);go_simp;refine hK.out _ _ (fun _ h=>absurd h (by decide)) ?_;clear hK K;(try simp only [Act.put]);refine AnyC.one (i:=12) (by kernel_rfl) (by rfl) (fun K hK=>?_);go_simp;refine hK.out _ _ (fun _ h=>absurd h (by decide)) ?_;clear hK K;(try simp only [Act.put]);refine AnyC.done (by kernel_rfl) ?_ _
        go_wp2_with fail
        go_meet;refine ⟨_,ua,uc,rfl,rfl,OP.out.set7 (I X1) (I X2) (I X3) (I X4) (I X5) (I X6) (.slice ua L.length uc),?_,hFu'.mono (by omega),?_,hs0⟩
        · repeat (first | with_reducible exact hu | refine Sl.set ?_ hF1 _ | fail)
        · have kk:=kw4
          exact below_autor
    case rest=>
      obtain ⟨ga,ua,uc,rfl,rfl,oA,hu,hF,kw,hga⟩:=hcut;have KW:=Lib.hid kw
      by_cases hE:E=0
      · subst hE
        have hrow:=fun i hi=>And.intro ((kw.cell (p:=⟨g,j*8+i,none⟩) hgB.2).trans (HR0.out i hi).1) ((kw.frozen (p:=⟨g,j*8+i,none⟩) hgB.2).trans (HR0.out i hi).2);have y0:=hrow 0 (by decide);have y1:=hrow 1 (by decide);have y2:=hrow 2 (by decide);have y3:=hrow 3 (by decide);have y4:=hrow 4 (by decide);have y5:=hrow 5 (by decide);have y6:=hrow 6 (by decide);simp only [ACust.cells,List.getD_cons_zero,List.getD_cons_succ,Nat.add_zero] at y0 y1 y2 y3 y4 y5 y6;obtain ⟨y0,f0⟩:=y0;obtain ⟨y1,f1⟩:=y1;obtain ⟨y2,f2⟩:=y2;obtain ⟨y3,f3⟩:=y3;obtain ⟨y4,f4⟩:=y4;obtain ⟨y5,f5⟩:=y5;obtain ⟨y6,f6⟩:=y6;have hgc:g < wc.heap.size:=Nat.lt_of_lt_of_le hgB.2 kw.size;have hgag:¬ ga=g:=by omega
        have hgga:¬ g=ga:=by omega
        have h7:=((((((ButFor.one wc g (j*8) (I X1)).trans (ButFor.one _ g (j*8+1) (I X2))).trans (ButFor.one _ g (j*8+2) (I X3))).trans (ButFor.one _ g (j*8+3) (I X4))).trans (ButFor.one _ g (j*8+4) (I X5))).trans (ButFor.one _ g (j*8+5) (I X6))).trans (ButFor.one _ g (j*8+6) (.slice ua L.length uc));have hrow7:=owns_store (owns_store (owns_store (owns_store (owns_store (owns_store (owns_store (owns_below HB.out.2.1 kw) (j*8) (I X1)) (j*8+1) (I X2)) (j*8+2) (I X3)) (j*8+3) (I X4)) (j*8+4) (I X5)) (j*8+5) (I X6)) (j*8+6) (.slice ua L.length uc);obtain ⟨hbk,hbw⟩:=book_charge (X:=⟨X1,X2,X3,X4,X5,X6⟩) HB.out hBw hj HX.out HSo.out kw hu hF h7 hrow7;obtain ⟨zs,hbk⟩:=hbk;have hkg:kb≠g:=by omega
        have hmg:mb≠g:=by omega
        have oK7:=h7.own (HK.out.below kw) hkg;have oM7:=(HM.out.below kw).heap (h7.1 mb hmg)
        have hKS:Hid (KState ((((((((wc.setCell ⟨g,j*8,none⟩ (I X1)).setCell ⟨g,j*8+1,none⟩ (I X2)).setCell ⟨g,j*8+2,none⟩ (I X3)).setCell ⟨g,j*8+3,none⟩ (I X4)).setCell ⟨g,j*8+4,none⟩ (I X5)).setCell ⟨g,j*8+5,none⟩ (I X6)).setCell ⟨g,j*8+6,none⟩ (.slice ua L.length uc))) B kb mb t tv (evC t cs ⟨5,me,mo,⟨id,te,de,fe,pr,ch,un⟩,ta,⟨ow,bp⟩⟩)):=by
          unfold Hid KState;rw [HC.out rfl];refine ⟨_,zs,oK7,?_,hbk⟩;rw [set_meters hj (HMT.out rfl)];exact oM7
        have hBl:=Lib.hid (below_le hbw hA);have aO:=oA;have aA:=aO.s7;clear aO;have r1:=set_same;have r2:=set_off;have r3:=set_blk;clear HSd HSo HR0 hbk hbw oK7 oM7 h7 hrow7 hrow hu hF oA kw HX HJ HROW HK2 HM2 KW2 HV2
        go_wp2_with fail
        refine (want_yes _ _).mono ?_;rintro e w' ⟨rfl,rfl⟩;go_wp2
        all_goals exact bodyPost_ret (results_none rfl _ _ _) rfl (KeepP.yes HE.out hKS.out hBl.out)
      · have HE0:=Lib.hid hE
        have hE':(E==0)=false:=by simp [hE]
        clear hu hF oA hE
        go_wp2_with fail
        refine (want_no _ _).mono ?_;rintro e w' ⟨rfl,rfl⟩;exact ⟨rfl,KeepP.no HE.out HE0.out KW.out⟩
theorem oweX_meter {x:AAcc} {ds:List ADebt} {d:ADebt} (h:oweE x ds d=0):(oweX x ds d).meter=x.meter:=by simp only [oweX,h,if_pos]
theorem keep_charge (t:PTerms) (tv v:Value) (A B kb mb:Nat) (cs:List PCust) (ys:List ACust) (me mo id te de fe pr ch un ta ow bp:Int) (w:World) (hm:evMay 5 me mo id te de fe pr ch un ta ow bp=true) (hme:I64 me)
    (oK:Own w kb [v,tv,I t.f,I t.b,I t.d,I t.al,.map (some mb)]) (oM:OwnIdx w mb (cs.map fun c=>c.acc.meter)) (hB:BookAt w B v cs ys) (ha:0≤idxOf cs me) (hBw:B≤w.heap.size) (hkb:kb < B) (hmb:mb < B) (hA:A≤B):
    Calls Tryz.prog 80 #[.pointer (some ⟨kb,0,none⟩),evV 5 me mo id te de fe pr ch un ta ow bp] w (KeepP A B kb mb t tv cs ⟨5,me,mo,⟨id,te,de,fe,pr,ch,un⟩,ta,⟨ow,bp⟩⟩ w):=by
  obtain ⟨j,hj⟩:=Int.eq_ofNat_of_zero_le ha;have hjl:j < cs.length:=by rcases idxOf_bd cs me with h | h<;>omega
  obtain ⟨g,cap,rfl,hg1,hg2⟩:=owns_pos hB.2.1 (by omega);have hCR:=hB.2.2.1 j hjl;have hevE:=evE_hap (t:=t) (cs:=cs) (v:=⟨5,me,mo,⟨id,te,de,fe,pr,ch,un⟩,ta,⟨ow,bp⟩⟩) hm (show ¬ (5:Int)=1 by decide) ha;have hevC:=evC_hap (t:=t) (cs:=cs) (v:=⟨5,me,mo,⟨id,te,de,fe,pr,ch,un⟩,ta,⟨ow,bp⟩⟩) (show ¬ (5:Int)=1 by decide);simp only [hj,Int.toNat_natCast] at hevE hevC;unfold hapE at hevE;unfold hapC at hevC;rw [if_pos rfl] at hevE hevC;generalize hx:ys.getD j default=x at *;generalize hc:cs.getD j default=c at *;obtain ⟨hxe,hSd,hSo⟩:=hCR;obtain ⟨m1,m2,m3,m4,m5,m6,da,dn,dc,sa,sn,sc⟩:=x;simp only [ofCust,ACust.mk.injEq,true_and,and_true] at hxe;obtain ⟨rfl,rfl,rfl,rfl,rfl,rfl,rfl,rfl⟩:=hxe;obtain ⟨⟨x1,x2,x3,x4,x5,x6⟩,ds,ss⟩:=c;simp only at hSd hSo hevE hevC hx
  exact keep_charge0 t tv g cap A B kb mb j cs ys me mo id te de fe pr ch un ta ow bp x1 x2 x3 x4 x5 x6 (oweE ⟨x1,x2,x3,x4,x5,x6⟩ ds ⟨ow,bp⟩) _ _ _ _ _ _ da sa dc sc ds (oweL ⟨x1,x2,x3,x4,x5,x6⟩ ds ⟨ow,bp⟩) ss w hm hme oK oM hB hjl (Lib.hid hj) hx hSd hSo
    (Lib.hid fun W hW=>Owe_f ⟨x1,x2,x3,x4,x5,x6⟩ _ ds ⟨ow,bp⟩ W hW) (Lib.hid hevE) (Lib.hid fun _=>hevC) (Lib.hid fun h=>by rw [hc];exact oweX_meter h) hBw hkb hmb hA
end
end Go.Proofs.YtdjgcenjonegjaaGreat
