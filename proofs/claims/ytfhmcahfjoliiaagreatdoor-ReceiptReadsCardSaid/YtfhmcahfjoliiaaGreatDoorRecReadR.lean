/- ref.ReceiptRead: the walk -/
import Derived.Test.YtfhmcahfjoliiaaGreatDoorRecBack
import Derived.Test.YtfhmcahfjoliiaaGreatDoorRecRefs
import Derived.Test.YtfhmcahfjoliiaaGreatDoorCentsRef
import Derived.Deep.DeepCutAuto
set_option maxRecDepth 20000
set_option maxHeartbeats 8000000
set_option linter.unusedSimpArgs false
set_option linter.unusedVariables false
namespace Go.Proofs.YtfhmcahfjoliiaaGreatDoor
open Go Go.RowKit

/-- the result, the texts, the receipt: three blocks -/
structure RvX (w wr:World) (g fb:Nat) (L A:List Value):Prop where
  r:Own wr w.heap.size zRec
  l:Own wr g L
  a:Own wr fb A
  b:Below w.heap.size w wr
theorem RvX.setA {w wr:World} {g fb:Nat} {L A:List Value} (h:RvX w wr g fb L A) (h1:w.heap.size < fb) (h2:fb≠g) (j:Nat) (x:Value):RvX w (wr.setCell ⟨fb,j,none⟩ x) g fb L (A.set j x):=
  ⟨h.r.other (by show fb≠w.heap.size;omega) x,h.l.other h2 x,h.a.set j x,h.b.setCell (by show w.heap.size≤fb;omega) x⟩
theorem RvX.below {w wr w':World} {g fb:Nat} {L A:List Value} (h:RvX w wr g fb L A) (k:Below wr.heap.size wr w'):RvX w w' g fb L A:=
  ⟨h.r.below k,h.l.below k,h.a.below k,h.b.trans (k.mono h.b.size)⟩
theorem RvX.drew {w wr:World} {g fb:Nat} {L A:List Value} (h:RvX w wr g fb L A):RvX w wr.drew g fb L A:=⟨h.r,h.l,h.a,h.b.drew⟩
theorem recAns_ok {me id te de fe pr ch un:Int} {tk s:ByteArray} (h:recSE me id te de fe pr ch un tk=0) (h2:recST me id te de fe pr ch un tk=s):recAns ⟨me,id,te,de,fe,pr,ch,un,tk⟩ s=T2 (recV me id te de fe pr ch un tk) (I 0):=by
  unfold recST at h2;rw [if_pos h] at h2;unfold recAns;rw [if_pos ⟨h,h2⟩];rfl
theorem recAns_bad {me id te de fe pr ch un:Int} {tk s:ByteArray} (h:¬ recSE me id te de fe pr ch un tk=0∨¬ recST me id te de fe pr ch un tk=s):recAns ⟨me,id,te,de,fe,pr,ch,un,tk⟩ s=T2 (.agg #[I 0,I 0,I 0,I 0,I 0,I 0,I 0,I 0,.string ⟨#[]⟩]) (I 3):=by
  unfold recAns;rw [if_neg];rintro ⟨h1,h2⟩;rcases h with h | h
  · exact h h1
  · unfold recST at h
    rw [if_pos h1] at h;exact h h2
abbrev rec3:Value:=T2 (.agg zRec.toArray) (I 3)
theorem list9 {l:List ByteArray} (h:l.length=9):∃ a b c d e f g h i,l=[a,b,c,d,e,f,g,h,i]:=by
  match l,h with
  | [a,b,c,d,e,f,g,h,i],_=>exact ⟨a,b,c,d,e,f,g,h,i,rfl⟩
theorem whole_grew (s:ByteArray) (w:World):Calls Tryz.prog 15 #[.string s] w (Grew (I (whI s)) w):=(whole_any s w).mono (fun e w' h=>⟨h.1,by rw [h.2];exact Below.refl _ _⟩)
theorem RRead_big (s:ByteArray) (w:World) (hs:¬ s.size≤400):Calls Tryz.prog 5 #[.string s] w (Grew (T2 (.agg zRec.toArray) (I 1)) w):=by
  have j400:(400:Int) < (s.size:Int):=by omega
  have OR:=Own.new (w:=w) (g:=w.heap.size) (by rfl) [I 0,I 0,I 0,I 0,I 0,I 0,I 0,I 0,.string ⟨#[]⟩] 25;have KB:=boxed_below w (.cells #[I 0,I 0,I 0,I 0,I 0,I 0,I 0,I 0,.string ⟨#[]⟩] 25);have rO:=OR;have rA:=rO.s9;clear rO;go_enter Tryz.func5,Tryz.ntmps5
  go_wp2_with fail
  exact bodyPost_ret (v:=T2 (.agg #[I 0,I 0,I 0,I 0,I 0,I 0,I 0,I 0,.string ⟨#[]⟩]) (I 1)) (by simp [results,Tryz.results5,go_sem, *];try omega) rfl (⟨rfl,below_autor⟩)
theorem ReceiptRead_in (s : ByteArray) (w : World) (hs : s.size ≤ 400) : Calls Tryz.prog 5 #[.string s] w (Grew (recAnsO (recR2 s) s) w) := by
  have j400:(s.size:Int)≤400:=by omega
  have VL:=Lib.hid (fun W=>values_any s W hs);have V0:=Lib.hid (show valN s=none→recAnsO (recR2 s) s=rec3 from fun h=>by unfold recR2;rw [h];rfl);have V1:=Lib.hid (fun l (h:valN s=some l) (hz:¬ (atL l 8).size=24)=>(show recAnsO (recR2 s) s=rec3 by unfold recR2;rw [h];simp only [];rw [if_neg hz];rfl));have V2:=Lib.hid (fun l (h:valN s=some l) (hz:(atL l 8).size=24)=>(show recAnsO (recR2 s) s=recAns ⟨mnV (atL l 0),whI (atL l 1),centsV (atL l 2),centsV (atL l 3),centsV (atL l 4),centsV (atL l 5),centsV (atL l 6),whI (atL l 7),tok5 (atL l 8)⟩ s by unfold recR2;rw [h];simp only [];rw [if_pos hz];rfl));generalize recAnsO (recR2 s) s=VA at *;have kB:=boxed_below w (.cells #[I 0,I 0,I 0,I 0,I 0,I 0,I 0,I 0,.string ⟨#[]⟩] 25);have oR:=Own.new (w:=w) rfl [I 0,I 0,I 0,I 0,I 0,I 0,I 0,I 0,.string ⟨#[]⟩] 25;have KB:=Lib.hid kB;have OR:=Lib.hid oR;have r1:=set_same;have r2:=set_off;have r3:=set_blk;clear kB oR hs;go_enter Tryz.func5,Tryz.ntmps5
  go_wp2_with fail
  refine (VL.out _).mono ?_;rintro e w1 ⟨k1,⟨hv,v,rfl⟩ | ⟨l,g,cap,hv,hl,rfl,hg,hO⟩⟩
  · have hV:=V0.out hv
    clear V0 V1 V2 VL hv;have KB:=KB.out.trans (k1.mono KB.out.size);have rO:=OR.out.below k1;have rA:=rO.s9;clear rO
    go_wp2_with fail
    exact bodyPost_ret (v:=T2 (.agg #[I 0,I 0,I 0,I 0,I 0,I 0,I 0,I 0,.string ⟨#[]⟩]) (I 3)) (by simp [results,Tryz.results5,go_sem, *];try omega) rfl (⟨by rw [hV],below_autor⟩)
  · obtain ⟨t0, t1, t2, t3, t4, t5, t6, t7, t8, rfl⟩ := list9 hl
    have HV:=Lib.hid hv;have HO:=Lib.hid (show Own w1 g [.string t0,.string t1,.string t2,.string t3,.string t4,.string t5,.string t6,.string t7,.string t8] from hO);have lO:=HO.out;have lA:=lO.s9;clear lO;clear VL V0 hv hl hO
    by_cases hz:t8.size=24
    · have hzi:(t8.size:Int)=24:=by omega
      have HW:=Lib.hid (V2.out _ HV.out hz);simp only [atL,List.getD_cons_zero,List.getD_cons_succ] at HW;have MN:=Lib.hid (fun W=>MeterNamed_any t0 W);unfold MnP at MN;have W1:=Lib.hid (fun W=>whole_grew t1 W);have C2:=Lib.hid (fun W=>ReadCents_any t2 W);have C3:=Lib.hid (fun W=>ReadCents_any t3 W);have C4:=Lib.hid (fun W=>ReadCents_any t4 W);have C5:=Lib.hid (fun W=>ReadCents_any t5 W);have C6:=Lib.hid (fun W=>ReadCents_any t6 W);unfold CentsP at C2 C3 C4 C5 C6;have W7:=Lib.hid (fun W=>whole_grew t7 W);have HT:=Lib.hid (show tok5 t8=t8.extract 0 4++t8.extract 5 9++t8.extract 10 14++t8.extract 15 19++t8.extract 20 24 from rfl);have x0:=size_extract t8 0 4 (by omega);have x1:=size_extract t8 5 9 (by omega);have x2:=size_extract t8 10 14 (by omega);have x3:=size_extract t8 15 19 (by omega);have x4:=size_extract t8 20 24 (by omega);generalize mnV t0=v0 at *;generalize mnE t0=e0 at *;generalize whI t1=v1 at *;generalize centsV t2=v2 at *;generalize centsE t2=e2 at *;generalize centsV t3=v3 at *;generalize centsE t3=e3 at *;generalize centsV t4=v4 at *;generalize centsE t4=e4 at *;generalize centsV t5=v5 at *;generalize centsE t5=e5 at *;generalize centsV t6=v6 at *;generalize centsE t6=e6 at *;generalize whI t7=v7 at *;generalize tok5 t8=tk at *;have hgw:g < w1.heap.size:=HO.out.lt;have k2:=boxed_below w1 (.cells #[I 0,I 0,I 0,I 0,I 0,I 0,I 0,I 0,.string ⟨#[]⟩] 25);have hwk:w.heap.size < w1.heap.size:=by have h2:=k1.size;simp at h2;omega
      have R:=Lib.hid (show RvX w _ g w1.heap.size [.string t0,.string t1,.string t2,.string t3,.string t4,.string t5,.string t6,.string t7,.string t8] [I 0,I 0,I 0,I 0,I 0,I 0,I 0,I 0,.string ⟨#[]⟩] from ⟨(OR.out.below k1).below k2,HO.out.below k2,Own.new (w:=w1) rfl [I 0,I 0,I 0,I 0,I 0,I 0,I 0,I 0,.string ⟨#[]⟩] 25,(KB.out.trans (k1.mono KB.out.size)).trans (k2.mono (by omega))⟩);have H1:=Lib.hid (show w.heap.size < w1.heap.size∧w1.heap.size≠g from ⟨hwk,by omega⟩);have n1:¬ w1.heap.size=g:=by omega
      have n2:¬ g=w1.heap.size:=by omega
      clear k1 k2 hg V1 V2 HV KB OR HO;have aO:=R.out.a;have aA:=aO.s9;clear aO;have mO:=R.out.l;have mA:=mO.s9;clear mO;skip
      go_wp2_with fail
      refine (MN.out _).mono ?_;rintro e wN ⟨rfl,kN⟩;have RB:=Lib.hid (R.out.below kN);clear aA lA kN MN;have aO:=RB.out.a;have aA:=aO.s9;clear aO;have lO:=RB.out.l;have lA:=lO.s9;clear lO;skip;have R:=Lib.hid (RB.out.setA H1.out.1 H1.out.2 0 (I v0));(try simp only [List.set_cons_succ,List.set_cons_zero] at R);clear RB;clear mA
      go_wp2_with fail
      refine (W1.out _).mono ?_;rintro e wN ⟨rfl,kN⟩;have RB:=Lib.hid (R.out.below kN);clear aA lA kN W1;have aO:=RB.out.a;have aA:=aO.s9;clear aO;have lO:=RB.out.l;have lA:=lO.s9;clear lO;skip;have R:=Lib.hid (RB.out.setA H1.out.1 H1.out.2 1 (I v1));(try simp only [List.set_cons_succ,List.set_cons_zero] at R);clear RB
      go_wp2_with fail
      refine (C2.out _).mono ?_;rintro e wN ⟨rfl,kN⟩;have RB:=Lib.hid (R.out.below kN);clear aA lA kN C2;have aO:=RB.out.a;have aA:=aO.s9;clear aO;have lO:=RB.out.l;have lA:=lO.s9;clear lO;skip;have R:=Lib.hid (RB.out.setA H1.out.1 H1.out.2 2 (I v2));(try simp only [List.set_cons_succ,List.set_cons_zero] at R);clear RB
      go_wp2_with fail
      refine (C3.out _).mono ?_;rintro e wN ⟨rfl,kN⟩;have RB:=Lib.hid (R.out.below kN);clear aA lA kN C3;have aO:=RB.out.a;have aA:=aO.s9;clear aO;have lO:=RB.out.l;have lA:=lO.s9;clear lO;skip;have R:=Lib.hid (RB.out.setA H1.out.1 H1.out.2 3 (I v3));(try simp only [List.set_cons_succ,List.set_cons_zero] at R);clear RB
      go_wp2_with fail
      refine (C4.out _).mono ?_;rintro e wN ⟨rfl,kN⟩;have RB:=Lib.hid (R.out.below kN);clear aA lA kN C4;have aO:=RB.out.a;have aA:=aO.s9;clear aO;have lO:=RB.out.l;have lA:=lO.s9;clear lO;skip;have R:=Lib.hid (RB.out.setA H1.out.1 H1.out.2 4 (I v4));(try simp only [List.set_cons_succ,List.set_cons_zero] at R);clear RB
      go_wp2_with fail
      refine (C5.out _).mono ?_;rintro e wN ⟨rfl,kN⟩;have RB:=Lib.hid (R.out.below kN);clear aA lA kN C5;have aO:=RB.out.a;have aA:=aO.s9;clear aO;have lO:=RB.out.l;have lA:=lO.s9;clear lO;skip;have R:=Lib.hid (RB.out.setA H1.out.1 H1.out.2 5 (I v5));(try simp only [List.set_cons_succ,List.set_cons_zero] at R);clear RB
      go_wp2_with fail
      refine (C6.out _).mono ?_;rintro e wN ⟨rfl,kN⟩;have RB:=Lib.hid (R.out.below kN);clear aA lA kN C6;have aO:=RB.out.a;have aA:=aO.s9;clear aO;have lO:=RB.out.l;have lA:=lO.s9;clear lO;skip;have R:=Lib.hid (RB.out.setA H1.out.1 H1.out.2 6 (I v6));(try simp only [List.set_cons_succ,List.set_cons_zero] at R);clear RB
      go_wp2_with fail
      refine (W7.out _).mono ?_;rintro e wN ⟨rfl,kN⟩;have RB:=Lib.hid (R.out.below kN);clear aA lA kN W7;have aO:=RB.out.a;have aA:=aO.s9;clear aO;have lO:=RB.out.l;have lA:=lO.s9;clear lO;skip;have R:=Lib.hid (RB.out.setA H1.out.1 H1.out.2 7 (I v7));(try simp only [List.set_cons_succ,List.set_cons_zero] at R);clear RB
      go_wp2_with fail
      go_region
      all_goals
        have R9:=Lib.hid (show RvX w _ g w1.heap.size [.string t0,.string t1,.string t2,.string t3,.string t4,.string t5,.string t6,.string t7,.string t8] [I v0,I v1,I v2,I v3,I v4,I v5,I v6,I v7,.string tk] from (R.out.setA H1.out.1 H1.out.2 8 (.string tk)).drew);rw [← HT.out];clear R aA lA x0 x1 x2 x3 x4 HT hz;generalize ((wN.setCell ⟨w1.heap.size,7,none⟩ (.int .i64 v7)).setCell ⟨w1.heap.size,8,none⟩ (.string tk)).drew=WZ at *;have aO:=R9.out.a;have aA:=aO.s9;clear aO;have SH:=Lib.hid (fun W=>Shown2_any v0 v1 v2 v3 v4 v5 v6 v7 tk W);unfold RecSP at SH;have RO:=Lib.hid (fun h h2=>recAns_ok (me:=v0) (id:=v1) (te:=v2) (de:=v3) (fe:=v4) (pr:=v5) (ch:=v6) (un:=v7) (tk:=tk) (s:=s) h h2);have RB:=Lib.hid (fun h=>recAns_bad (me:=v0) (id:=v1) (te:=v2) (de:=v3) (fe:=v4) (pr:=v5) (ch:=v6) (un:=v7) (tk:=tk) (s:=s) h);rw [← HW.out] at RO RB;clear HW;generalize recST v0 v1 v2 v3 v4 v5 v6 v7 tk=t at *;generalize recSE v0 v1 v2 v3 v4 v5 v6 v7 tk=e at *
        by_cases he:e=0
        · by_cases ht:t=s
          · have hV:=RO.out he ht
            subst he;subst ht;have hw1:(t.toList==t.toList)=true:=beq_self_eq_true _;clear RO RB
            go_wp2_with fail
            refine (SH.out _).mono ?_;rintro e2 w2 ⟨rfl,k2⟩;have KB:=(R9.out.below k2).b;have QA:=Lib.hid (R9.out.below k2).a;have QR:=Lib.hid (R9.out.below k2).r;clear aA R9 k2 SH;have aO:=QA.out;have aA:=aO.s9;clear aO;have rO:=QR.out;have rA:=rO.s9;clear rO;clear QA QR
            go_wp2_with fail
            exact bodyPost_ret (v:=T2 (.agg #[I v0,I v1,I v2,I v3,I v4,I v5,I v6,I v7,.string tk]) (I 0)) (by simp [results,Tryz.results5,go_sem, *];try omega) rfl (⟨by rw [hV],below_autor⟩)
          · have hV:=RB.out (Or.inr ht)
            subst he;have hw1:=str_ne ht;clear RO RB ht
            go_wp2_with fail
            refine (SH.out _).mono ?_;rintro e2 w2 ⟨rfl,k2⟩;have KB:=(R9.out.below k2).b;have QA:=Lib.hid (R9.out.below k2).a;have QR:=Lib.hid (R9.out.below k2).r;clear aA R9 k2 SH;have aO:=QA.out;have aA:=aO.s9;clear aO;have rO:=QR.out;have rA:=rO.s9;clear rO;clear QA QR
            go_wp2_with fail
            exact bodyPost_ret (v:=T2 (.agg #[I 0,I 0,I 0,I 0,I 0,I 0,I 0,I 0,.string ⟨#[]⟩]) (I 3)) (by simp [results,Tryz.results5,go_sem, *];try omega) rfl (⟨by rw [hV],below_autor⟩)
        · have hV:=RB.out (Or.inl he)
          have he1:(e==0)=false:=by simp [he]
          clear RO RB
          go_wp2_with fail
          refine (SH.out _).mono ?_;rintro e2 w2 ⟨rfl,k2⟩;have KB:=(R9.out.below k2).b;have QA:=Lib.hid (R9.out.below k2).a;have QR:=Lib.hid (R9.out.below k2).r;clear aA R9 k2 SH;have aO:=QA.out;have aA:=aO.s9;clear aO;have rO:=QR.out;have rA:=rO.s9;clear rO;clear QA QR
          go_wp2_with fail
          exact bodyPost_ret (v:=T2 (.agg #[I 0,I 0,I 0,I 0,I 0,I 0,I 0,I 0,.string ⟨#[]⟩]) (I 3)) (by simp [results,Tryz.results5,go_sem, *];try omega) rfl (⟨by rw [hV],below_autor⟩)
    · have hzi:¬ (t8.size:Int)=24:=by omega
      have hV:=V1.out _ HV.out hz;clear V1 V2 HV hz HO;have KB:=KB.out.trans (k1.mono KB.out.size);have rO:=OR.out.below k1;have rA:=rO.s9;clear rO
      go_wp2_with fail
      exact bodyPost_ret (v:=T2 (.agg #[I 0,I 0,I 0,I 0,I 0,I 0,I 0,I 0,.string ⟨#[]⟩]) (I 3)) (by simp [results,Tryz.results5,go_sem, *];try omega) rfl (⟨by rw [hV],below_autor⟩)
end Go.Proofs.YtfhmcahfjoliiaaGreatDoor
