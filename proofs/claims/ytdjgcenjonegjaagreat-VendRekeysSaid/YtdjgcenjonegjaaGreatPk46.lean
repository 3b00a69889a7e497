/- oracle.Issue · ref.Issued · what comes of asking for a token: plain · vend.Charge, ref.VendCharge -/
import Derived.Test.YtdjgcenjonegjaaGreatPk08
import Derived.Test.YtdjgcenjonegjaaGreatPk45
import Derived.Deep.AppendLies
import Derived.Deep.RegionHeld3
import Derived.Test.YtdjgcenjonegjaaGreatPk38
import Derived.Test.YtdjgcenjonegjaaGreatPk44
import Derived.Test.YtdjgcenjonegjaaGreatPk22
namespace Go.Proofs.YtdjgcenjonegjaaGreat
set_option linter.unusedSimpArgs false
set_option linter.unusedVariables false
open Go Go.RowKit
set_option maxRecDepth 20000

set_option maxHeartbeats 4000000 in
theorem Issue_any (v : Value) (ps : List APair) (x y z d : Int) (w : World) (h : Sl w v 4 ps.length (ps.flatMap APair.cells)) (hw : ∀ p ∈ ps, p.wf) (hx : I64 x) (hy : I64 y) (hz : I64 z) :
    Calls Tryz.prog 51 #[.agg #[v],I x,I y,I z,I d] w (GrewIs (issL ps x y z d) (issN ps x y z d) (issE ps x y z d) w):=by
  obtain ⟨i0,hi,hz0,hz1,hz2⟩:=info_parts infoPair;have hS:=h;obtain ⟨a,cap,rfl,-⟩:=id h;obtain ⟨kB,ob,oz⟩:=boxes2 w [.slice a ps.length cap] 35 [.slice none 0 0] 35;have K:=Lib.hid (known_any _ ps _ (hS.below kB) hw);have HX:=Lib.hid (And.intro hx (And.intro hy hz));have HS:=Lib.hid hS;have r1:=set_same;clear hx hy hz h hS hw;go_enter Tryz.func51,Tryz.ntmps51
  go_wp2_with fail
  refine K.out.mono ?_;rintro e w1 (⟨hm,b,rfl,hb,hM,k1⟩ | ⟨hm,rfl,k1⟩)
  · have k := kB.trans (k1.mono kB.size)
    have h2s:w.heap.size+2≤w1.heap.size:=by have:=k1.size;simp at this;omega
    have ob1:=(ob.below k1).alloc (.cells #[I x,I y,I z] 202);have oz1:=(oz.below k1).alloc (.cells #[I x,I y,I z] 202);have om1:=hM.alloc (.cells #[I x,I y,I z] 202);have ow1:=Own.new (w:=w1) rfl [I x,I y,I z] 202;have kk:=k.alloc k.size (.cells #[I x,I y,I z] 202);have hm5:=mayO_len hm;have HM:=Lib.hid hm;clear hm k1 hM K kB ob oz k hb
    go_wp2_with fail
    refine (wmay_any x y z _).mono ?_;rintro e w2 ⟨rfl,k2⟩;have k:=kk.trans (k2.mono kk.size);have h3s:w1.heap.size < w2.heap.size:=by have:=k2.size;simp at this;omega
    have ob2:=ob1.below k2;have oz2:=oz1.below k2;have om2:=om1.below k2;have ow2:=ow1.below k2;have hsp:=pairMay_split ⟨x,y,z,d⟩;simp only at hsp;clear ob1 oz1 om1 ow1 k2 kk;cases hwm:whatMay x y z
    · have hE:=Lib.hid (iss_range HM.out (show pairMay ⟨x,y,z,d⟩=false by rw [hsp,hwm];rfl))
      have cO:=oz2;have cA:=cO.s1;clear cO;clear ob2 oz2 om2 ow2 hsp hwm HM HX HS;go_wp2;exact bodyPost_ret (v:=T3 (.agg #[.slice none 0 0]) (I 0) (I 2)) (by simp [results,Tryz.results51,go_sem, *];try omega) rfl (GrewIs.bad hE.out (by decide) (k.setCell (p:=⟨w.heap.size+1,0,none⟩) (Nat.le_succ _) _))
    · rw [hwm, Bool.true_and] at hsp
      cases hdt:inB d 0 65535
      · have hE:=Lib.hid (iss_range HM.out (show pairMay ⟨x,y,z,d⟩=false by rw [hsp,hdt]))
        have hn:¬ (0≤d∧d≤65535):=by rw [← inB_true,hdt];simp
        have cO:=oz2;have cA:=cO.s1;clear cO;clear ob2 oz2 om2 ow2 hsp hwm HM HX HS hdt
        by_cases hneg:d < 0
        · clear hn
          go_wp2;exact bodyPost_ret (v:=T3 (.agg #[.slice none 0 0]) (I 0) (I 2)) (by simp [results,Tryz.results51,go_sem, *];try omega) rfl (GrewIs.bad hE.out (by decide) (k.setCell (p:=⟨w.heap.size+1,0,none⟩) (Nat.le_succ _) _))
        · have hbig:65535 < d:=by omega
          clear hn;go_wp2;exact bodyPost_ret (v:=T3 (.agg #[.slice none 0 0]) (I 0) (I 2)) (by simp [results,Tryz.results51,go_sem, *];try omega) rfl (GrewIs.bad hE.out (by decide) (k.setCell (p:=⟨w.heap.size+1,0,none⟩) (Nat.le_succ _) _))
      · rw [hdt] at hsp
        obtain ⟨d0,d1⟩:=inB_true.1 hdt;have hneg:¬ d < 0:=by omega
        have hbig:¬ 65535 < d:=by omega
        have HP:=Lib.hid hsp;have oO:=ob2;have oA:=oO.s1;clear oO;clear hsp hwm hdt
        go_wp2_with fail
        refine (clone_own _ ps _ (HS.out.below k) hm5).mono ?_;rintro e w3 ⟨u,rfl,hu,k3⟩;clear oA
        obtain ⟨sa,sc,rfl⟩:∃ sa sc,u=.slice sa ps.length sc:=by
          rcases owns_cases hu with ⟨q1,q2⟩ | ⟨g,c,q1,_⟩
          · exact ⟨none,0,by rw [q1,q2]⟩
          · exact ⟨_,_,q1⟩
        have kk:=(k.trans (k3.mono k.size));have h4s:w2.heap.size≤w3.heap.size:=k3.size;have kN:=kk.alloc kk.size (.cells #[.slice sa ps.length sc] 35);have oz3:=(oz2.below k3).alloc (.cells #[.slice sa ps.length sc] 35);have ow3:=(ow2.below k3).alloc (.cells #[.slice sa ps.length sc] 35);have om3:=(om2.below k3).alloc (.cells #[.slice sa ps.length sc] 35);have on3:=Own.new (w:=w3) rfl [.slice sa ps.length sc] 35;have hL:=run_look om3 HX.out.1 HX.out.2.1 HX.out.2.2;have hur:=hu.alloc (.cells #[.slice sa ps.length sc] 35);have n1:¬ w.heap.size+1=w3.heap.size:=by omega
        have n2:¬ w1.heap.size=w3.heap.size:=by omega
        have n3:¬ w3.heap.size=w.heap.size+1:=by omega
        have cO:=oz3;have cA:=cO.s1;clear cO;have pO:=ow3;have pA:=pO.s3;clear pO;clear ob2 oz2 om2 ow2 k3 om3 k ow3;have kE:=fun X=>kN.setCell (p:=⟨w.heap.size+1,0,none⟩) (Nat.le_succ _) X;cases hh:hasKey ps x y z
        · rw [hh] at hL
          by_cases h5:ps.length=500
          · have hE:=Lib.hid (iss_full HM.out HP.out hh h5)
            have h5':((ps.length:Int)==500)=true:=by simp;omega
            clear hh h5 hu hur HM HP on3 HX HS;generalize tagOf ps x y z=tg at *;go_wp2;exact bodyPost_ret (v:=T3 (.agg #[.slice none 0 0]) (I 0) (I 16)) (by simp [results,Tryz.results51,go_sem, *];try omega) rfl (GrewIs.bad hE.out (by decide) (kE _))
          · have hE := Lib.hid (iss_new HM.out HP.out hh h5)
            have h5':((ps.length:Int)==500)=false:=by simp;omega
            have hF:Hid (∀ (gg cap2:Nat) (W:World),W.ownsRow w2.heap.size 100 4 (.slice (some ⟨gg,0,none⟩) (ps.length+1) cap2) (ps.length+1) (ps.flatMap APair.cells++[I x,I y,I z,I d])→gg≠w3.heap.size→∀ X Y,Sl ((W.setCell ⟨w3.heap.size,0,none⟩ X).setCell ⟨w.heap.size+1,0,none⟩ Y) (.slice (some ⟨gg,0,none⟩) (ps.length+1) cap2) 4 (ps++[(⟨x,y,z,d⟩:APair)]).length ((ps++[(⟨x,y,z,d⟩:APair)]).flatMap APair.cells)):=by
              intro gg cap2 W ho hne X Y;have hg:=(ho.lt gg rfl).1;have:=((Sl.of_owns ho (by omega)).set (j:=0) (Far.lit hne) X).set (z:=w.heap.size+1) (j:=0) (Far.lit (by omega)) Y;rw [List.length_append,List.flatMap_append];exact this
            have hrow:=hur;have hub:∀ g,(Value.slice sa ps.length sc).ownBlock=some g→w2.heap.size≤g∧g < w3.heap.size:=fun g hg=>hu.lt g hg;have r3:=set_blk;clear hh h5 hu HM HP HX HS;generalize tagOf ps x y z=tg at *
            go_wp2_with
              (at_builtin
               refine wpList_append_lies _ rfl _ _ 33 rfl w2.heap.size 100 i0 (.agg #[.int .i64 0,.int .i64 0,.int .i64 0,.int .i64 0]) 4 32 Tryz.underlying33 hi hz0 hz1 hz2 rfl (by decide) _ _ (ps.flatMap APair.cells) rfl (hrow.alloc _) ⟨w3.heap.size+1,0,none⟩ 1 1 [I x,I y,I z,I d] rfl rfl (news_at _ (size_alloc1 _ _) [I x,I y,I z,I d] _) (oneCells_lit rfl) (by omega) (by unfold maxLen;omega) (by omega) (by simp;omega) _ rfl ?_;intro gg cap2 w5 hown' hgrow hat hlt1
               have hne:gg≠w3.heap.size:=by
                 rcases hat with hat | hat
                 · have:=(hub _ hat).2;omega
                 · simp at hat;omega
               have kG:=(kN.alloc kN.size (.cells #[I x,I y,I z,I d] 100)).grown hgrow (by simp;omega) (fun j hj=>by have:=(hub _ hj).1;omega);have on5:=(on3.alloc (.cells #[I x,I y,I z,I d] 100)).grown hgrow (fun e=>by have:=(hub _ e.symm).2;omega);have oz5:=(oz3.alloc (.cells #[I x,I y,I z,I d] 100)).grown hgrow (fun e=>by have:=(hub _ e.symm).1;omega);have HSl:=Lib.hid (hF.out gg cap2 w5 hown' hne);have HFB:Hid (FarB w.heap.size (.slice (some ⟨gg,0,none⟩) (ps.length+1) cap2)):=Lib.hid (FarB.lit (by have:=(hown'.lt gg rfl).1;omega));have kE:=fun X Y=>(kG.setCell (p:=⟨w3.heap.size,0,none⟩) (by show w.heap.size≤w3.heap.size;omega) X).setCell (p:=⟨w.heap.size+1,0,none⟩) (Nat.le_succ _) Y;have m0:=on5.cell 0 (by simp);have mf0:=on5.frozen 0;have q0:=oz5.cell 0 (by simp);have qf0:=oz5.frozen 0;simp only [Nat.zero_add,List.getD_cons_zero] at m0 q0;clear hown' hgrow hat hF hrow hub kG on5 oz5 on3 oz3 hur cA pA kN kk hL)
            exact bodyPost_ret (v:=T3 (.agg #[.slice (some ⟨gg,0,none⟩) (ps.length+1) cap2]) (I d) (I 0)) (by simp [results,Tryz.results51,go_sem, *];try omega) rfl (GrewIs.good hE.out (HSl.out _ _) (kE _ _) HFB.out)
        · rw [hh] at hL
          have hE:=Lib.hid (iss_known HM.out HP.out hh);have HFB:Hid (FarB w.heap.size (.slice sa ps.length sc)):=Lib.hid (fun a n c e=>Nat.le_trans (by omega) ((FarB.of_owns hur) a n c e));have HSl:=Lib.hid (fun X=>Sl.of_owns (ownsRow_setCell_below hur (a:=⟨w.heap.size+1,0,none⟩) (by show w.heap.size+1 < w2.heap.size;omega) X) (by omega));clear hh hu hur HM HP on3 HX HS;generalize tagOf ps x y z=tg at *;go_wp2;exact bodyPost_ret (v:=T3 (.agg #[.slice sa ps.length sc]) (I tg) (I 0)) (by simp [results,Tryz.results51,go_sem, *];try omega) rfl (GrewIs.good hE.out (HSl.out _) (kE _) HFB.out)
  · have k:=kB.trans (k1.mono kB.size)
    have hE:=Lib.hid (iss_state (x:=x) (y:=y) (z:=z) (d:=d) hm);have cO:=oz.below k1;have cA:=cO.s1;clear cO;clear hm k1 K kB ob oz HX HS;go_wp2;exact bodyPost_ret (v:=T3 (.agg #[.slice none 0 0]) (I 0) (I 5)) (by simp [results,Tryz.results51,go_sem, *];try omega) rfl (GrewIs.bad hE.out (by decide) (k.setCell (p:=⟨w.heap.size+1,0,none⟩) (Nat.le_succ _) _))
end Go.Proofs.YtdjgcenjonegjaaGreat
namespace Go.Proofs.YtdjgcenjonegjaaGreat
set_option linter.unusedSimpArgs false
set_option linter.unusedVariables false
open Go Go.RowKit
set_option maxRecDepth 20000

theorem owns_below' {w w':World} {b e sz n:Nat} {v:Value} {cs:List Value} (h:w.ownsRow b e sz v n cs) (hb:Below w.heap.size w w'):w'.ownsRow b e sz v n cs:=by
  obtain ⟨hl,h⟩:=h;refine ⟨hl,h.imp id ?_⟩;rintro ⟨g,cap,cur,hv,hg,hh,r⟩;exact ⟨g,cap,cur,hv,hg,(hb.block g (Array.getElem?_eq_some_iff.1 hh).1).trans hh,r⟩
set_option maxHeartbeats 4000000 in
theorem Issued_any (v : Value) (ps : List APair) (x y z d : Int) (w : World) (h : Sl w v 4 ps.length (ps.flatMap APair.cells)) :
    Calls Tryz.prog 32 #[.agg #[v],I x,I y,I z,I d] w (GrewIs (issL ps x y z d) (issN ps x y z d) (issE ps x y z d) w):=by
  obtain ⟨i0,hi,hz0,hz1,hz2⟩:=info_parts infoPair;have hS:=h;obtain ⟨a,cap,rfl,-,-,-,hr⟩:=h;obtain ⟨kB,ob,oz⟩:=boxes2 w [.slice a ps.length cap] 35 [.slice none 0 0] 35;have h2s:w.heap.size+2≤((w.alloc (.cells #[.slice a ps.length cap] 35)).alloc (.cells #[.slice none 0 0] 35)).heap.size:=by simp
  have K:=Lib.hid (OracleMay_any _ ps _ (hS.below kB));have HS:=Lib.hid hS;have HR:=Lib.hid hr;have r1:=set_same;clear hS hr;go_enter Tryz.func32,Tryz.ntmps32
  go_wp2_with fail
  refine K.out.mono ?_;rintro e w1 ⟨rfl,k1⟩;have k:=kB.trans (k1.mono kB.size);have h3s:w.heap.size+2≤w1.heap.size:=Nat.le_trans h2s k1.size;have ob1:=ob.below k1;have oz1:=oz.below k1;clear k1 K kB ob oz h2s;cases hm:mayO ps
  · have hE:=Lib.hid (iss_state (x:=x) (y:=y) (z:=z) (d:=d) hm)
    have cO:=oz1;have cA:=cO.s1;clear cO;clear hm HS HR ob1 oz1;go_wp2;exact bodyPost_ret (v:=T3 (.agg #[.slice none 0 0]) (I 0) (I 5)) (by simp [results,Tryz.results32,go_sem, *];try omega) rfl (GrewIs.bad hE.out (by decide) (k.setCell (p:=⟨w.heap.size+1,0,none⟩) (Nat.le_succ _) _))
  · have HM := Lib.hid hm
    have hm5:=mayO_len hm;have kk:=k.alloc k.size (.cells #[I x,I y,I z,I d] 100);have ob2:=ob1.alloc (.cells #[I x,I y,I z,I d] 100);have oz2:=oz1.alloc (.cells #[I x,I y,I z,I d] 100);have op2:=Own.new (w:=w1) rfl [I x,I y,I z,I d] 100;clear hm k ob1 oz1
    go_wp2_with fail
    refine (PairMay_any ⟨x,y,z,d⟩ _).mono ?_;rintro e w2 ⟨rfl,k2⟩;have k:=kk.trans (k2.mono kk.size);have h4s:w1.heap.size < w2.heap.size:=by have:=k2.size;simp at this;omega
    have ob1:=ob2.below k2;have oz1:=oz2.below k2;have op1:=op2.below k2;clear k2 kk ob2 oz2 op2;cases hp:pairMay ⟨x,y,z,d⟩
    · have hE:=Lib.hid (iss_range HM.out hp)
      have cO:=oz1;have cA:=cO.s1;clear cO;clear hp HS HR ob1 oz1 op1 HM;go_wp2;exact bodyPost_ret (v:=T3 (.agg #[.slice none 0 0]) (I 0) (I 2)) (by simp [results,Tryz.results32,go_sem, *];try omega) rfl (GrewIs.bad hE.out (by decide) (k.setCell (p:=⟨w.heap.size+1,0,none⟩) (Nat.le_succ _) _))
    · have HP:=Lib.hid hp
      have oO:=ob1;have oA:=oO.s1;clear oO;clear hp
      go_wp2_with fail
      refine (OracleCopy_own _ ps _ (HS.out.below k) hm5).mono ?_;rintro e w3 ⟨u,rfl,hu,k3⟩;clear oA
      obtain ⟨sa,sc,rfl⟩:∃ sa sc,u=.slice sa ps.length sc:=by
        rcases owns_cases hu with ⟨q1,q2⟩ | ⟨g,c,q1,_⟩
        · exact ⟨none,0,by rw [q1,q2]⟩
        · exact ⟨_,_,q1⟩
      have kk:=(k.trans (k3.mono k.size));have h5s:w2.heap.size≤w3.heap.size:=k3.size;have kN:=kk.alloc kk.size (.cells #[.slice sa ps.length sc] 35);have ob3:=(ob1.below k3).alloc (.cells #[.slice sa ps.length sc] 35);have oz3:=(oz1.below k3).alloc (.cells #[.slice sa ps.length sc] 35);have op3:=(op1.below k3).alloc (.cells #[.slice sa ps.length sc] 35);have on3:=Own.new (w:=w3) rfl [.slice sa ps.length sc] 35;have hur:=hu.alloc (.cells #[.slice sa ps.length sc] 35);have hub:∀ g,(Value.slice sa ps.length sc).ownBlock=some g→w2.heap.size+2≤g∧g < w3.heap.size:=fun g hg=>hu.lt g hg;have n1:¬ w.heap.size+1=w3.heap.size:=by omega
      have n2:¬ w1.heap.size=w3.heap.size:=by omega
      have n3:¬ w3.heap.size=w.heap.size+1:=by omega
      have oO:=ob3;have oA:=oO.s1;clear oO;clear ob1 oz1 op1 k3 k hu kk
      go_wp2_with fail
      refine (tagged_any _ ps x y z _ (HS.out.below kN)).mono ?_;rintro e w4 ⟨rfl,k4⟩;have kM:=kN.trans (k4.mono kN.size);have h6s:w3.heap.size < w4.heap.size:=by have:=k4.size;simp at this;omega
      have HB4:=ob3.below k4;have HZ4:=oz3.below k4;have HP4:=op3.below k4;have HN4:=on3.below k4;have hu4:=owns_below' hur k4;have hcs:=tagI_cases ps x y z;generalize tagI ps x y z=ti at *;clear oA ob3 oz3 op3 on3 hur k4 kN;have kE:=fun X=>kM.setCell (p:=⟨w.heap.size+1,0,none⟩) (Nat.le_succ _) X;rcases hcs with ⟨rfl,hh⟩ | ⟨j,hj,rfl,hh,htag⟩
      · by_cases h5:ps.length=500
        · have hE:=Lib.hid (iss_full HM.out HP.out hh h5)
          have h5':((ps.length:Int)==500)=true:=by simp;omega
          have cO:=HZ4;have cA:=cO.s1;clear cO;have mO:=HN4;have mA:=mO.s1;clear mO;clear hh h5 HM HP HS HR HB4 HZ4 HP4 HN4 hu4 hub;go_wp2;exact bodyPost_ret (v:=T3 (.agg #[.slice none 0 0]) (I 0) (I 16)) (by simp [results,Tryz.results32,go_sem, *];try omega) rfl (GrewIs.bad hE.out (by decide) (kE _))
        · have hE := Lib.hid (iss_new HM.out HP.out hh h5)
          have h5':((ps.length:Int)==500)=false:=by simp;omega
          have hF:Hid (∀ (gg cap2:Nat) (W:World),W.ownsRow (w2.heap.size+2) 100 4 (.slice (some ⟨gg,0,none⟩) (ps.length+1) cap2) (ps.length+1) (ps.flatMap APair.cells++[I x,I y,I z,I d])→gg≠w3.heap.size→∀ X Y,Sl ((W.setCell ⟨w3.heap.size,0,none⟩ X).setCell ⟨w.heap.size+1,0,none⟩ Y) (.slice (some ⟨gg,0,none⟩) (ps.length+1) cap2) 4 (ps++[(⟨x,y,z,d⟩:APair)]).length ((ps++[(⟨x,y,z,d⟩:APair)]).flatMap APair.cells)):=by
            intro gg cap2 W ho hne X Y;have hg:=(ho.lt gg rfl).1;have:=((Sl.of_owns ho (by omega)).set (j:=0) (Far.lit hne) X).set (z:=w.heap.size+1) (j:=0) (Far.lit (by omega)) Y;rw [List.length_append,List.flatMap_append];exact this
          have r3:=set_blk;have hrow:=hu4;have Z4:=HZ4;have N4:=HN4;have pO:=HP4;have pA:=pO.s4;clear pO;have mO:=HN4;have mA:=mO.s1;clear mO;clear hh h5 HM HP HS HR HB4 HP4 kE
          go_wp2_with
            (at_builtin
             refine wpList_append_lies _ rfl _ _ 33 rfl (w2.heap.size+2) 100 i0 (.agg #[.int .i64 0,.int .i64 0,.int .i64 0,.int .i64 0]) 4 32 Tryz.underlying33 hi hz0 hz1 hz2 rfl (by decide) _ _ (ps.flatMap APair.cells) rfl (hrow.alloc _) ⟨w4.heap.size,0,none⟩ 1 1 [I x,I y,I z,I d] rfl rfl (news_lit _ _ _) (oneCells_lit rfl) (by omega) (by unfold maxLen;omega) (by omega) (by simp;omega) _ rfl ?_;intro gg cap2 w5 hown' hgrow hat hlt1
             have hne:gg≠w3.heap.size:=by
               rcases hat with hat | hat
               · have:=(hub _ hat).2;omega
               · simp at hat;omega
             have kG:=(kM.alloc kM.size (.cells #[I x,I y,I z,I d] 100)).grown hgrow (by simp;omega) (fun j hj=>by have:=(hub _ hj).1;omega);have on5:=(N4.alloc (.cells #[I x,I y,I z,I d] 100)).grown hgrow (fun e=>by have:=(hub _ e.symm).2;omega);have oz5:=(Z4.alloc (.cells #[I x,I y,I z,I d] 100)).grown hgrow (fun e=>by have:=(hub _ e.symm).1;omega);have HSl:=Lib.hid (hF.out gg cap2 w5 hown' hne);have HFB:Hid (FarB w.heap.size (.slice (some ⟨gg,0,none⟩) (ps.length+1) cap2)):=Lib.hid (FarB.lit (by have:=(hown'.lt gg rfl).1;omega));have kE:=fun X Y=>(kG.setCell (p:=⟨w3.heap.size,0,none⟩) (by show w.heap.size≤w3.heap.size;omega) X).setCell (p:=⟨w.heap.size+1,0,none⟩) (Nat.le_succ _) Y;have q0:=on5.cell 0 (by simp);have qf0:=on5.frozen 0;have s0:=oz5.cell 0 (by simp);have sf0:=oz5.frozen 0;simp only [Nat.zero_add,List.getD_cons_zero] at q0 s0;clear hown' hgrow hat hF hrow hub kG on5 oz5 hu4 HZ4 HN4 Z4 N4 kM mA pA)
          exact bodyPost_ret (v:=T3 (.agg #[.slice (some ⟨gg,0,none⟩) (ps.length+1) cap2]) (I d) (I 0)) (by simp [results,Tryz.results32,go_sem, *];try omega) rfl (GrewIs.good hE.out (HSl.out _ _) (kE _ _) HFB.out)
      · have hE:=Lib.hid (iss_known HM.out HP.out hh)
        obtain ⟨b,off,rfl,hb,hc⟩:=HR.out.resolve_left (by omega);obtain ⟨-,-,-,e3⟩:=elPair hb hc kM j hj;have hi0:(0:Int)≤(j:Int):=by omega
        have hi1:(j:Int) < (ps.length:Int):=by omega
        have HFB:Hid (FarB w.heap.size (.slice sa ps.length sc)):=Lib.hid (fun a n c e=>Nat.le_trans (by omega) ((FarB.of_owns hu4) a n c e));have HSl:=Lib.hid (fun X=>Sl.of_owns (ownsRow_setCell_below hu4 (a:=⟨w.heap.size+1,0,none⟩) (by show w.heap.size+1 < w2.heap.size+2;omega) X) (by omega));rw [htag] at hE;have oO:=HB4;have oA:=oO.s1;clear oO;have cO:=HZ4;have cA:=cO.s1;clear cO;have mO:=HN4;have mA:=mO.s1;clear mO;clear hh htag hc HR HM HP HS HB4 HZ4 HP4 HN4 hu4 hub;generalize ps.getD j default=p at *;obtain ⟨p1,p2,p3,p4⟩:=p;simp only at e3 hE;go_wp2;go_region
        all_goals
          go_wp2;exact bodyPost_ret (v:=T3 (.agg #[.slice sa ps.length sc]) (I p4) (I 0)) (by simp [results,Tryz.results32,go_sem, *];try omega) rfl (GrewIs.good hE.out (HSl.out _) (drewN_below (kE _) 1) HFB.out)
end Go.Proofs.YtdjgcenjonegjaaGreat
namespace Go.Proofs.YtdjgcenjonegjaaGreat
set_option linter.unusedSimpArgs false
set_option linter.unusedVariables false
open Go Go.RowKit
set_option maxRecDepth 20000
structure VOut where
  e:Int
  L:List AWrite
  P:List APair
  rm:Int
  b:ABill
  s:ByteArray
def vtZ (k:Int):VOut:=⟨k,[],[],0,⟨0,0,0,0,0,0,0⟩,⟨#[]⟩⟩
def vtTok (cls A id g:Int):AToken:=⟨cls,id,A,g⟩
def vtEv (ki me mo:Int) (B:ABill) (g:Int):AEvent:=⟨ki,me,mo,B,g,⟨0,0⟩⟩
def vtAmt (cls rv un:Int):Int:=if cls=2 then rv else un
/-- behind the account's answer: E, the key's revision behind it, the bill -/
def vtA (xs : List Int) (ps : List APair) (ki me mo cls draw rev E rv : Int) (B : ABill) : VOut :=
  if E=0 then
    if tokFault (vtTok cls (vtAmt cls rv B.units) B.id 0)=0 then
      if issE ps me rev (bodyV (vtTok cls (vtAmt cls rv B.units) B.id 0)) draw=0 then
        if keepsE xs (vtEv ki me mo B (issN ps me rev (bodyV (vtTok cls (vtAmt cls rv B.units) B.id 0)) draw))=0 then
          ⟨0,keepsL xs (vtEv ki me mo B (issN ps me rev (bodyV (vtTok cls (vtAmt cls rv B.units) B.id 0)) draw)),issL ps me rev (bodyV (vtTok cls (vtAmt cls rv B.units) B.id 0)) draw,me,B,fmtT (vtTok cls (vtAmt cls rv B.units) B.id (issN ps me rev (bodyV (vtTok cls (vtAmt cls rv B.units) B.id 0)) draw))⟩
        else vtZ (keepsE xs (vtEv ki me mo B (issN ps me rev (bodyV (vtTok cls (vtAmt cls rv B.units) B.id 0)) draw)))
      else vtZ (issE ps me rev (bodyV (vtTok cls (vtAmt cls rv B.units) B.id 0)) draw)
    else vtZ (tokFault (vtTok cls (vtAmt cls rv B.units) B.id 0))
  else vtZ E
def custOf (t:PTerms) (xs:List Int) (me:Int):PCust:=(loadC t xs).getD (idxOf (loadC t xs) me).toNat default
/-- the whole; aE, aX, aB: how the account answers -/
def vtO (t:PTerms) (xs:List Int) (ps:List APair) (ki me mo cls draw:Int) (aE:AAcc→List ADebt→Int) (aX:AAcc→List ADebt→AAcc) (aB:AAcc→List ADebt→ABill):VOut:=
  if loadE t xs=0 then (if 0≤idxOf (loadC t xs) me then vtA xs ps ki me mo cls draw (custOf t xs me).acc.rev (aE (custOf t xs me).acc (custOf t xs me).debts) (aX (custOf t xs me).acc (custOf t xs me).debts).rev (aB (custOf t xs me).acc (custOf t xs me).debts) else vtZ 18) else vtZ (loadE t xs)
/-- the program's result: a struct of what is written, the oracle, the paper; and the code -/
def VtP (O:VOut) (w:World) (e:Ending) (w':World):Prop:=
  ∃ u v,e=.returned (T2 (.agg #[u,v,I O.rm,I O.b.id,I O.b.tender,I O.b.debt,I O.b.fee,I O.b.price,I O.b.change,I O.b.units,.string O.s]) (I O.e))∧Sl w' u 2 O.L.length (O.L.flatMap AWrite.cells)∧Sl w' v 4 O.P.length (O.P.flatMap APair.cells)∧Below w.heap.size w w'∧FarB w.heap.size v
/-- the reference's, and vend.Sell's and the like: four results -/
def Vt4P (O:VOut) (w:World) (e:Ending) (w':World):Prop:=
  ∃ u v,e=.returned (.tuple #[u,.agg #[v],.agg #[I O.rm,I O.b.id,I O.b.tender,I O.b.debt,I O.b.fee,I O.b.price,I O.b.change,I O.b.units,.string O.s],I O.e])∧Sl w' u 2 O.L.length (O.L.flatMap AWrite.cells)∧Sl w' v 4 O.P.length (O.P.flatMap APair.cells)∧Below w.heap.size w w'
abbrev vtNo (k:Int):Value:=T2 (.agg #[.slice none 0 0,.slice none 0 0,I 0,I 0,I 0,I 0,I 0,I 0,I 0,I 0,.string ⟨#[]⟩]) (I k)
abbrev vt4No (k:Int):Value:=.tuple #[.slice none 0 0,.agg #[.slice none 0 0],.agg #[I 0,I 0,I 0,I 0,I 0,I 0,I 0,I 0,.string ⟨#[]⟩],I k]
theorem VtP.no {O:VOut} {w w':World} {k:Int} (h:O=vtZ k) (hb:Below w.heap.size w w'):VtP O w (.returned (vtNo k)) w':=by
  subst h;exact ⟨_,_,rfl,Sl.nil _ _,Sl.nil _ _,hb,FarB.nil _ _ _⟩
theorem Vt4P.no {O:VOut} {w w':World} {k:Int} (h:O=vtZ k) (hb:Below w.heap.size w w'):Vt4P O w (.returned (vt4No k)) w':=by
  subst h;exact ⟨_,_,rfl,Sl.nil _ _,Sl.nil _ _,hb⟩
theorem VtP.yes {O:VOut} {w w':World} {L:List AWrite} {P:List APair} {me:Int} {b1 b2 b3 b4 b5 b6 b7:Int} {s:ByteArray} {u v:Value} (h:O=⟨0,L,P,me,⟨b1,b2,b3,b4,b5,b6,b7⟩,s⟩) (hu:Sl w' u 2 L.length (L.flatMap AWrite.cells)) (hv:Sl w' v 4 P.length (P.flatMap APair.cells)) (hb:Below w.heap.size w w') (hf:FarB w.heap.size v):
    VtP O w (.returned (T2 (.agg #[u,v,I me,I b1,I b2,I b3,I b4,I b5,I b6,I b7,.string s]) (I 0))) w':=by
  subst h;exact ⟨_,_,rfl,hu,hv,hb,hf⟩
theorem Vt4P.yes {O:VOut} {w w':World} {L:List AWrite} {P:List APair} {me:Int} {b1 b2 b3 b4 b5 b6 b7:Int} {s:ByteArray} {u v:Value} (h:O=⟨0,L,P,me,⟨b1,b2,b3,b4,b5,b6,b7⟩,s⟩) (hu:Sl w' u 2 L.length (L.flatMap AWrite.cells)) (hv:Sl w' v 4 P.length (P.flatMap APair.cells)) (hb:Below w.heap.size w w'):
    Vt4P O w (.returned (.tuple #[u,.agg #[v],.agg #[I me,I b1,I b2,I b3,I b4,I b5,I b6,I b7,.string s],I 0])) w':=by
  subst h;exact ⟨_,_,rfl,hu,hv,hb⟩
theorem vtO_load {t:PTerms} {xs:List Int} {ps:List APair} {ki me mo cls draw:Int} {aE:AAcc→List ADebt→Int} {aX:AAcc→List ADebt→AAcc} {aB:AAcc→List ADebt→ABill} (h:loadE t xs≠0):vtO t xs ps ki me mo cls draw aE aX aB=vtZ (loadE t xs):=by unfold vtO;rw [if_neg h]
theorem vtO_none {t:PTerms} {xs:List Int} {ps:List APair} {ki me mo cls draw:Int} {aE:AAcc→List ADebt→Int} {aX:AAcc→List ADebt→AAcc} {aB:AAcc→List ADebt→ABill} (h:loadE t xs=0) (h2:idxOf (loadC t xs) me < 0):vtO t xs ps ki me mo cls draw aE aX aB=vtZ 18:=by unfold vtO;rw [if_pos h,if_neg (by omega)]
theorem vtO_cust {t:PTerms} {xs:List Int} {ps:List APair} {ki me mo cls draw:Int} {aE:AAcc→List ADebt→Int} {aX:AAcc→List ADebt→AAcc} {aB:AAcc→List ADebt→ABill} {c:PCust} (h:loadE t xs=0) (h2:0≤idxOf (loadC t xs) me) (hc:custOf t xs me=c):
    vtO t xs ps ki me mo cls draw aE aX aB=vtA xs ps ki me mo cls draw c.acc.rev (aE c.acc c.debts) (aX c.acc c.debts).rev (aB c.acc c.debts):=by unfold vtO;rw [if_pos h,if_pos h2,hc]
section
variable {xs:List Int} {ps:List APair} {ki me mo cls draw rev E rv:Int} {B:ABill}
theorem vtA_acc (h:E≠0):vtA xs ps ki me mo cls draw rev E rv B=vtZ E:=by unfold vtA;rw [if_neg h]
theorem vtA_tok {F A:Int} (h:E=0) (hA:vtAmt cls rv B.units=A) (hF:tokFault (vtTok cls A B.id 0)=F) (h2:F≠0):vtA xs ps ki me mo cls draw rev E rv B=vtZ F:=by subst hA hF;unfold vtA;rw [if_pos h,if_neg h2]
theorem vtA_iss {A D G:Int} (h:E=0) (hA:vtAmt cls rv B.units=A) (hF:tokFault (vtTok cls A B.id 0)=0) (hD:bodyV (vtTok cls A B.id 0)=D) (hG:issE ps me rev D draw=G) (h2:G≠0):vtA xs ps ki me mo cls draw rev E rv B=vtZ G:=by
  subst hA hD hG;unfold vtA;rw [if_pos h,if_pos hF,if_neg h2]
theorem vtA_keep {A D N K:Int} (h:E=0) (hA:vtAmt cls rv B.units=A) (hF:tokFault (vtTok cls A B.id 0)=0) (hD:bodyV (vtTok cls A B.id 0)=D) (hG:issE ps me rev D draw=0) (hN:issN ps me rev D draw=N) (hK:keepsE xs (vtEv ki me mo B N)=K) (h2:K≠0):vtA xs ps ki me mo cls draw rev E rv B=vtZ K:=by
  subst hA hD hN hK;unfold vtA;rw [if_pos h,if_pos hF,if_pos hG,if_neg h2]
theorem vtA_yes {A D N:Int} (h:E=0) (hA:vtAmt cls rv B.units=A) (hF:tokFault (vtTok cls A B.id 0)=0) (hD:bodyV (vtTok cls A B.id 0)=D) (hG:issE ps me rev D draw=0) (hN:issN ps me rev D draw=N) (hK:keepsE xs (vtEv ki me mo B N)=0):
    vtA xs ps ki me mo cls draw rev E rv B=⟨0,keepsL xs (vtEv ki me mo B N),issL ps me rev D draw,me,B,fmtT (vtTok cls A B.id N)⟩:=by
  subst hA hD hN;unfold vtA;rw [if_pos h,if_pos hF,if_pos hG,if_pos hK]
end
/-- one world is another but for two blocks, below a bound -/
def But2 (a b B:Nat) (W W':World):Prop:=(∀ z,z < B→z≠a→z≠b→W'.heap[z]?=W.heap[z]?)∧W.heap.size≤W'.heap.size
theorem But2.refl (a b B:Nat) (W:World):But2 a b B W W:=⟨fun _ _ _ _=>rfl,Nat.le_refl _⟩
theorem But2.set {a b B:Nat} {W W':World} (h:But2 a b B W W') (z j:Nat) (v:Value) (hz:z=a∨z=b):But2 a b B W (W'.setCell ⟨z,j,none⟩ v):=
  ⟨fun y hy h1 h2=>by rw [← h.1 y hy h1 h2];simp [World.setCell,Array.getElem?_modify,show ¬ z=y by omega],by simpa [World.setCell] using h.2⟩
theorem But2.below {a b B:Nat} {W W' W'':World} (h:But2 a b B W W') (k:Below W'.heap.size W' W'') (hB:B≤W.heap.size):But2 a b B W W'':=
  ⟨fun y hy h1 h2=>(k.block y (Nat.lt_of_lt_of_le hy (Nat.le_trans hB h.2))).trans (h.1 y hy h1 h2),Nat.le_trans h.2 k.size⟩
theorem But2.own {a b B:Nat} {W W':World} {z:Nat} {cs:List Value} (h:But2 a b B W W') (o:Own W z cs) (hz:z < B) (h1:z≠a) (h2:z≠b):Own W' z cs:=by
  obtain ⟨cur,e,h3,hc⟩:=o;exact ⟨cur,e,(h.1 z hz h1 h2).trans h3,hc⟩
/-- a cell that is no word of 32 bits -/
def notU:Value→Bool
  | .int .u32 _=>false
  | _=>true
/-- writes do not lie in a block that holds no word -/
theorem far_writes {W:World} {g:Nat} {arr:Array Value} {ty:TypeId} {fz:Nat×Nat} (hg:W.heap[g]?=some (.cells arr ty fz)) (hall:arr.toList.all notU=true) {v:Value} {L:List AWrite} (h:Sl W v 2 L.length (L.flatMap AWrite.cells)) (hn:0 < L.length):Far g v:=by
  obtain ⟨a,cap,rfl,-,-,-,hr⟩:=h;rcases hr with hr | ⟨b,off,rfl,hb,hc⟩
  · omega
  · rintro a n c e hbg
    injection e with e1 e2 e3
    injection e1 with e1
    subst e1;have hbg:b=g:=hbg;subst hbg;obtain ⟨x,xs,rfl⟩:∃ x xs,L=x::xs:=by cases L with | nil=>simp at hn | cons x xs=>exact ⟨x,xs,rfl⟩
    have h1:=hc 1 (by simp [AWrite.cells]);rw [Lib.cell_of_heap hg] at h1;have h2:arr[off+1]?=some (U32 x.word):=by simpa [AWrite.cells] using h1
    have h3:(U32 x.word)∈arr.toList:=by
      rw [Array.mem_toList_iff];exact Array.mem_of_getElem? h2
    have h4:=List.all_eq_true.1 hall _ h3;cases h4
/-- a list of pairs in new memory stays, whatever two older blocks are written -/
theorem sl_but {W W':World} {v:Value} {sz n a b B:Nat} {cs:List Value} (h:Sl W v sz n cs) (k:But2 a b W.heap.size W W') (hf:FarB B v) (ha:a < B) (hb:b < B):Sl W' v sz n cs:=
  sl_heap h k.2 fun x m c hv hn=>by
    subst hv
    have h1:=hf x m c rfl
    obtain ⟨x',c',e,-,-,-,hr⟩:=h
    injection e with e1 e2 e3
    subst e1
    rcases hr with hr | ⟨g,off,e,hg,-⟩
    · omega
    · injection e with e
      subst e
      exact k.1 g hg (by have:B≤g:=h1;omega) (by have:B≤g:=h1;omega)
theorem sl_put {z j:Nat} {w:World} {v:Value} {sz n:Nat} {cs:List Value} (h:Sl w v sz n cs) (hf:0 < n→Far z v) (x:Value):Sl (w.setCell ⟨z,j,none⟩ x) v sz n cs:=h.chg hf ((Chg.refl z w).set j x)
theorem findI_at {me:Int}:∀ (l:List Int) (j:Nat),0≤findI me l j→(j:Int)≤findI me l j∧l.getD (findI me l j-j).toNat 0=me
  | [],j,h=>by unfold findI at h;omega
  | x :: xs, j, h => by
    unfold findI at h ⊢
    split
    · rename_i hx;refine ⟨Int.le_refl _,?_⟩
      rw [show ((j:Int)-(j:Int)).toNat=0 by omega];exact hx
    · rename_i hx
      rw [if_neg hx] at h
      obtain ⟨h1,h2⟩:=findI_at xs (j+1) h
      refine ⟨by omega,?_⟩
      rw [show (findI me xs (j+1)-(j:Int)).toNat=(findI me xs (j+1)-((j+1:Nat):Int)).toNat+1 by omega]
      exact h2
theorem custOf_meter {t:PTerms} {xs:List Int} {me:Int} (h:0≤idxOf (loadC t xs) me):(custOf t xs me).acc.meter=me:=by
  obtain ⟨-,h2⟩:=findI_at _ 0 h;unfold custOf
  have h3:(((loadC t xs).map fun c=>c.acc.meter)).getD (idxOf (loadC t xs) me).toNat 0=me:=by
    unfold idxOf at h ⊢;rw [show (findI me ((loadC t xs).map fun c=>c.acc.meter) 0).toNat=(findI me ((loadC t xs).map fun c=>c.acc.meter) 0-((0:Nat):Int)).toNat by omega];exact h2
  have hlt:(idxOf (loadC t xs) me).toNat < (loadC t xs).length:=by rcases idxOf_bd (loadC t xs) me with h | h<;>omega
  rw [List.getD_eq_getElem?_getD,List.getElem?_eq_getElem hlt];rw [List.getD_eq_getElem?_getD,List.getElem?_eq_getElem (by simpa using hlt)] at h3;simpa using h3
end Go.Proofs.YtdjgcenjonegjaaGreat
namespace Go.Proofs.YtdjgcenjonegjaaGreat
set_option linter.unusedSimpArgs false
set_option linter.unusedVariables false
open Go Go.RowKit
set_option maxRecDepth 20000
def chgV (me ow bp:Int):AEvent:=⟨5,me,0,⟨0,0,0,0,0,0,0⟩,0,⟨ow,bp⟩⟩
def owesC (t:PTerms) (xs:List Int) (me ow bp:Int):Int:=oweE ((loadC t xs).getD (idxOf (loadC t xs) me).toNat default).acc ((loadC t xs).getD (idxOf (loadC t xs) me).toNat default).debts ⟨ow,bp⟩
def chgE (t:PTerms) (xs:List Int) (me ow bp:Int):Int:=if loadE t xs=0 then (if 0≤idxOf (loadC t xs) me then (if owesC t xs me ow bp=0 then keepsE xs (chgV me ow bp) else owesC t xs me ow bp) else 18) else loadE t xs
def chgL (t:PTerms) (xs:List Int) (me ow bp:Int):List AWrite:=if loadE t xs=0 then (if 0≤idxOf (loadC t xs) me then (if owesC t xs me ow bp=0 then keepsL xs (chgV me ow bp) else []) else []) else []
def ChgP (t:PTerms) (xs:List Int) (me ow bp:Int) (w:World) (e:Ending) (w':World):Prop:=GrewSl2 2 (chgL t xs me ow bp).length ((chgL t xs me ow bp).flatMap AWrite.cells) (chgE t xs me ow bp) w e w'
end Go.Proofs.YtdjgcenjonegjaaGreat
