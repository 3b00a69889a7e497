/- words.Read -/
import Derived.Test.YtfhmcahfjoliiaaGreatDoorPk05
import Derived.Test.YtfhmcahfjoliiaaGreatDoorPk22
set_option maxRecDepth 20000
set_option maxHeartbeats 8000000
set_option linter.unusedSimpArgs false
set_option linter.unusedVariables false
namespace Go.Proofs.YtfhmcahfjoliiaaGreatDoor
open Go.RowKit

def formS (s:ByteArray):Bool:=decide (s.size=0∨bat s 0=48∧1 < s.size)
def wrdE (s:ByteArray):Int:=if 40 < s.size then 1 else if formS s then 3 else if allDig s s.size then (if 79228162514264337593543950336≤decV s s.size then 2 else 0) else 3
def readV (s:ByteArray):Nat:=if wrdE s=0 then decV s s.size else 0
theorem readV_zero {s:ByteArray} (h:wrdE s≠0):readV s=0:=by unfold readV;rw [if_neg h]
def GrewWE (n:Nat) (er:Int) (w:World) (e:Ending) (w':World):Prop:=GrewW2 (n%4294967296) (n / 4294967296%4294967296) (n / 18446744073709551616%4294967296) er w e w'
/-- a digit more -/
theorem read_step {x y z dg:Nat} {w0 w1 w2 c v0 v1 v2 c':Nat} (ht:val [x,y,z]*10=w0+4294967296*(w1+4294967296*(w2+4294967296*c))) (hp:val [w0,w1,w2]+dg=v0+4294967296*(v1+4294967296*(v2+4294967296*c'))):
    val [x,y,z]*10+dg=val [v0,v1,v2]+79228162514264337593543950336*(c+c'):=by
  rw [val3] at hp ⊢;rw [val3] at ht;rw [val3];omega
def ReadRel (W:World) (g gi:Nat) (s:ByteArray) (k:Nat) (o:Bool) (wr:World):Prop:=
  ∃ x y z:Nat,(x < 4294967296∧y < 4294967296∧z < 4294967296)∧o=decide (79228162514264337593543950336≤decV s k)∧(o=false→val [x,y,z]=decV s k)∧Own wr g [U32 x,U32 y,U32 z]∧Own wr W.heap.size [U32 0,U32 0,U32 0]∧wr.heap[gi]?=some (.stringIter s k)∧Below W.heap.size W wr
theorem Read_form (s:ByteArray) (w:World) (h:¬ 40 < s.size) (hf:formS s=true):Calls Tryz.prog 83 #[.string s] w (GrewW2 0 0 0 3 w):=by
  have k0:=boxed_below w (.cells #[U32 0,U32 0,U32 0] 111);have zO:=(Own.new (w:=w) rfl [U32 0,U32 0,U32 0] 111);have zA:=zO.s3;clear zO;have r1:=set_same;have r2:=set_off;have r3:=set_blk;have h1:¬ (40:Int) < (s.size:Int):=by omega
  unfold formS at hf;rw [decide_eq_true_eq] at hf
  by_cases h0:s.size=0
  · have he:s=ByteArray.empty:=by
      apply ByteArray.ext;exact Array.eq_empty_of_size_eq_zero h0
    subst he;clear h hf;go_enter Tryz.func83,Tryz.ntmps83;go_wp2;refine bodyPost_ret (v:=T2 (wideV 0 0 0) (I 3)) (by simp [results,Tryz.results83,go_sem, *]) rfl ⟨rfl,below_autor⟩
  · obtain ⟨f1,f2⟩:=hf.resolve_left h0
    have hne:=empty_toList (s:=s) (by omega);have hb:=bat_eq (s:=s) (k:=0) (by omega);have h2:(1:Int) < (s.size:Int):=by omega
    go_enter Tryz.func83,Tryz.ntmps83;go_wp2;refine bodyPost_ret (v:=T2 (wideV 0 0 0) (I 3)) (by simp [results,Tryz.results83,go_sem, *]) rfl ⟨rfl,below_autor⟩
theorem row_setCell {w:World} {g gi j:Nat} {o:Option Obj} (h:w.heap[gi]?=o) (hne:g≠gi) (x:Value):(w.setCell ⟨g,j,none⟩ x).heap[gi]?=o:=by
  rw [← h];simp [World.setCell,Array.getElem?_modify,hne]
theorem ReadRel.next {W w3 : World} {g g8 gi : Nat} {s : ByteArray} {k : Nat} {o : Bool} {x y z dg v0 v1 v2 c c' : Nat} {a0 a1 a2 : Value} (h0 : v0 < 4294967296) (h1 : v1 < 4294967296) (h2 : v2 < 4294967296)
    (hoo:o=decide (79228162514264337593543950336≤decV s k)) (hval:o=false→val [x,y,z]=decV s k) (hstep:val [x,y,z]*10+dg=val [v0,v1,v2]+79228162514264337593543950336*(c+c')) (hdg:decV s (k+1)=decV s k*10+dg)
    (og:Own w3 g [a0,a1,a2]) (ores:Own w3 W.heap.size [U32 0,U32 0,U32 0]) (hi:w3.heap[gi]?=some (.stringIter s (k+1))) (hb:Below W.heap.size W w3) (n1:g8≠g) (n2:g8≠W.heap.size) (n3:g8≠gi) (n4:g≠W.heap.size) (n5:g≠gi) (n6:W.heap.size≤g8) (n7:W.heap.size≤g)
    (o':Bool) (ho:o'=(o||decide (c≠0)||decide (c'≠0))):
    Hid (ReadRel W g gi s (k+1) o' ((((((w3.setCell ⟨g8,0,none⟩ (U32 v0)).setCell ⟨g8,1,none⟩ (U32 v1)).setCell ⟨g8,2,none⟩ (U32 v2)).setCell ⟨g,0,none⟩ (U32 v0)).setCell ⟨g,1,none⟩ (U32 v1)).setCell ⟨g,2,none⟩ (U32 v2))):=by
  have hv:=val3_lt h0 h1 h2
  have key:o'=decide (79228162514264337593543950336≤decV s (k+1))∧(o'=false→val [v0,v1,v2]=decV s (k+1)):=by
    cases o
    · have h3:=hval rfl
      rw [hdg,← h3,hstep]
      by_cases hc:c=0∧c'=0
      · obtain ⟨rfl,rfl⟩:=hc
        simp at ho;subst ho;refine ⟨?_,fun _=>by omega⟩
        rw [eq_comm,decide_eq_false_iff_not];omega
      · have h4:1≤c+c':=by omega
        have:o'=true:=by
          rw [ho]
          by_cases h5:c=0
          · have h6:c'≠0:=by omega
            simp [h5,h6]
          · simp [h5]
        subst this;refine ⟨?_,fun h=>by cases h⟩
        rw [eq_comm,decide_eq_true_eq];have:=Nat.mul_le_mul_left 79228162514264337593543950336 h4;omega
    · simp at ho
      subst ho;rw [eq_comm,decide_eq_true_eq] at hoo;refine ⟨?_,fun h=>by cases h⟩
      rw [eq_comm,decide_eq_true_eq,hdg];omega
  refine ⟨v0,v1,v2,⟨h0,h1,h2⟩,key.1,key.2,?_,?_,?_,?_⟩
  · exact ((((((og.other (a:=⟨g8,0,none⟩) n1 _).other (a:=⟨g8,1,none⟩) n1 _).other (a:=⟨g8,2,none⟩) n1 _).set 0 (U32 v0)).set 1 (U32 v1)).set 2 (U32 v2))
  · exact ((((((ores.other (a:=⟨g8,0,none⟩) n2 _).other (a:=⟨g8,1,none⟩) n2 _).other (a:=⟨g8,2,none⟩) n2 _).other (a:=⟨g,0,none⟩) n4 _).other (a:=⟨g,1,none⟩) n4 _).other (a:=⟨g,2,none⟩) n4 _)
  · exact row_setCell (row_setCell (row_setCell (row_setCell (row_setCell (row_setCell hi n3 _) n3 _) n3 _) n5 _) n5 _) n5 _
  · exact (((((hb.setCell (p:=⟨g8,0,none⟩) n6 _).setCell (p:=⟨g8,1,none⟩) n6 _).setCell (p:=⟨g8,2,none⟩) n6 _).setCell (p:=⟨g,0,none⟩) n7 _).setCell (p:=⟨g,1,none⟩) n7 _).setCell (p:=⟨g,2,none⟩) n7 _
theorem ReadRel.start {W:World} {s:ByteArray}:ReadRel W (W.heap.size+1) (W.heap.size+1+1) s 0 false (((W.alloc (.cells #[U32 0,U32 0,U32 0] 111)).alloc (.cells #[U32 0,U32 0,U32 0] 111)).iter s 0):=by
  refine ⟨0,0,0,by decide,rfl,fun _=>rfl,(Own.new (w:=W.alloc (.cells #[U32 0,U32 0,U32 0] 111)) (g:=W.heap.size+1) (by simp) [U32 0,U32 0,U32 0] 111).alloc _,((Own.new (w:=W) rfl [U32 0,U32 0,U32 0] 111).alloc _).alloc _,?_,((boxed_below W _).alloc (boxed_below W _).size _).alloc ((boxed_below W _).alloc (boxed_below W _).size _).size _⟩;have:=World.iter_heap ((W.alloc (.cells #[U32 0,U32 0,U32 0] 111)).alloc (.cells #[U32 0,U32 0,U32 0] 111)) s 0
  rwa [World.size_alloc,World.size_alloc] at this
theorem Read_main (s : ByteArray) (w : World) (h : ¬ 40 < s.size) (hf : formS s = false) : Calls Tryz.prog 83 #[.string s] w (GrewWE (readV s) (wrdE s) w) := by
  have hE:wrdE s=if allDig s s.size then (if 79228162514264337593543950336≤decV s s.size then 2 else 0) else 3:=by unfold wrdE;rw [if_neg h,hf];rfl
  have HBAD:Hid (allDig s s.size=false→Ending.returned (T2 (wideV 0 0 0) (I 3))=Ending.returned (T2 (wideV (readV s%4294967296) (readV s / 4294967296%4294967296) (readV s / 18446744073709551616%4294967296)) (I (wrdE s)))):=fun ha=>by
    have h3:wrdE s=3:=by rw [hE,ha];rfl
    rw [readV_zero (by rw [h3];decide),h3]
  have HE:=Lib.hid hE;unfold formS at hf;rw [decide_eq_false_iff_not] at hf;have h1:¬ (40:Int) < (s.size:Int):=by omega
  have hs0:0 < s.size:=by omega
  have hne:=empty_toList hs0;have hb0:=bat_eq (s:=s) (k:=0) hs0;have hs0':(0:Int) < (s.size:Int):=by omega
  clear hE h
  by_cases h48:bat s 0=48
  · have h2 : ¬ (1 : Int) < (s.size : Int) := by omega
    go_enter Tryz.func83,Tryz.ntmps83;go_wp2
    go_loopw [5,7,8,9,10] (fun ov _ _ _ _ wr=>∃ (k:Nat) (o:Bool),k≤s.size∧ov=.bool o∧Hid (allDig s k=true)∧Hid (ReadRel w (w.heap.size+1) (w.heap.size+1+1) s k o wr)) (fun _ _ _ _ _ wr=>s.size-wr.iterPos (w.heap.size+1+1))
    case atStart=>exact ⟨0,false,Nat.zero_le _,rfl,rfl,ReadRel.start⟩
    case round=>
      obtain ⟨k,o,hk,rfl,hall,hR⟩:=hrel;obtain ⟨x,y,z,⟨hx,hy,hz⟩,hoo1,hval,oW,oR,hit,hbw⟩:=hR.out;have HOO:=Lib.hid hoo1;clear hoo1
      by_cases hlt:k < s.size
      · have hb := bat_lt s k
        by_cases ha:bat s k < 128
        · have hnx:=next_ascii_at (P:=Tryz.prog) hit hlt ha
          cases hd:digAt s k
          · have hbad:=Lib.hid (HBAD.out (allDig_no hlt hd))
            have hd':=Lib.hid hd;clear hd
            by_cases h48:bat s k < 48
            · have h48':((bat s k:Nat):Int) < 48:=by omega
              generalize bat s k=b at *;have oz:=oR.iterTo (s:=s) (p:=(k+1)) (show w.heap.size+1+1≠w.heap.size by omega);have qO:=oz;have qA:=qO.s3;clear qO;have kI:=iterTo_below hbw (show w.heap.size≤w.heap.size+1+1 by omega) s (k+1);clear oz;have r1:=set_same;have r2:=set_off;have r3:=set_blk;go_wp2;refine bodyPost_ret (v:=T2 (wideV 0 0 0) (I 3)) (by simp [results,Tryz.results83,go_sem, *]) rfl ⟨hbad.out,below_autor⟩
            · have h57:57 < bat s k:=by
                have:=hd'.out;rw [← Bool.not_eq_true,digAt_true] at this;omega
              have h48':¬ ((bat s k:Nat):Int) < 48:=by omega
              have h57':(57:Int) < ((bat s k:Nat):Int):=by omega
              generalize bat s k=b at *;have oz:=oR.iterTo (s:=s) (p:=(k+1)) (show w.heap.size+1+1≠w.heap.size by omega);have qO:=oz;have qA:=qO.s3;clear qO;have kI:=iterTo_below hbw (show w.heap.size≤w.heap.size+1+1 by omega) s (k+1);clear oz;have r1:=set_same;have r2:=set_off;have r3:=set_blk;go_wp2;refine bodyPost_ret (v:=T2 (wideV 0 0 0) (I 3)) (by simp [results,Tryz.results83,go_sem, *]) rfl ⟨hbad.out,below_autor⟩
          · obtain ⟨d0,d1⟩:=digAt_true.1 hd
            have hA:=Lib.hid (allDig_succ hall.out hd);obtain ⟨dg,hdg⟩:∃ dg,bat s k=48+dg:=⟨bat s k-48,by omega⟩;have hdV:decV s (k+1)=decV s k*10+dg:=by rw [decV,hdg];omega
            have hdgi2:((bat s k:Nat):Int)-48=(dg:Int):=by omega
            have hdg9:dg≤9:=by omega
            have hdgw:IntKind.u32.wrap (dg:Int)=(dg:Int):=by show (dg:Int)%4294967296=_;omega
            have hdgw2:IntKind.i32.wrap (dg:Int)=(dg:Int):=by simp [IntKind.wrap,IntKind.bits,IntKind.signed];omega
            have h48':¬ ((bat s k:Nat):Int) < 48:=by omega
            have h57':¬ (57:Int) < ((bat s k:Nat):Int):=by omega
            have T:=Lib.hid (fun W=>Times_any x y z 10 W hx hy hz (by decide));have hl:allW [x,y,z]:=by intro d hd;simp at hd;omega
            have hok:=timesF_ok (show 10 < 4294967296 by decide);have hw0:=wordC_lt hok hl (x:=0) (by decide) 0;have hw1:=wordC_lt hok hl (x:=0) (by decide) 1;have hw2:=wordC_lt hok hl (x:=0) (by decide) 2;have htd:=times_digits x y z 10;generalize wordC (timesF 10) [x,y,z] 0 0=w0 at *;generalize wordC (timesF 10) [x,y,z] 0 1=w1 at *;generalize wordC (timesF 10) [x,y,z] 0 2=w2 at *;generalize carryC (timesF 10) [x,y,z] 0 3=cc at *;have P:=Lib.hid (fun W=>Plus_any w0 w1 w2 dg W hw0 hw1 hw2 (by omega));have hl2:allW [w0,w1,w2]:=by intro d hd;simp at hd;omega
            have hv0:=wordC_lt plusF_ok hl2 (x:=dg) (by omega) 0;have hv1:=wordC_lt plusF_ok hl2 (x:=dg) (by omega) 1;have hv2:=wordC_lt plusF_ok hl2 (x:=dg) (by omega) 2;have hpd:=plus_digits w0 w1 w2 dg;generalize wordC plusF [w0,w1,w2] dg 0=v0 at *;generalize wordC plusF [w0,w1,w2] dg 1=v1 at *;generalize wordC plusF [w0,w1,w2] dg 2=v2 at *;generalize carryC plusF [w0,w1,w2] dg 3=cd at *;have hstep:=read_step htd hpd;have oW1:=oW.iterTo (s:=s) (p:=k+1) (show w.heap.size+1+1≠w.heap.size+1 by omega);have oR1:=oR.iterTo (s:=s) (p:=k+1) (show w.heap.size+1+1≠w.heap.size by omega);have hbw1:=iterTo_below hbw (show w.heap.size≤w.heap.size+1+1 by omega) s (k+1);have hit1:=iterTo_at (q:=k+1) hit;have hsz1:=iterTo_size wr (w.heap.size+1+1) s (k+1);have hpos:=iter_pos hit;generalize bat s k=b at *;clear hl hl2 htd hpd hd hdg hok oW oR;generalize iterTo wr (w.heap.size+1+1) s (k+1)=wi at *;have aO:=oW1;have aA:=aO.s3;clear aO
            go_wp2_with fail
            refine (T.out _).mono ?_;rintro e W2 ⟨rfl,k2⟩;have hbw2:=hbw1.trans (k2.mono hbw1.size);have oW2:=(oW1.below k2).alloc (.cells #[U32 w0,U32 w1,U32 w2] 111);have oR2:=(oR1.below k2).alloc (.cells #[U32 w0,U32 w1,U32 w2] 111);have oN2:=Own.new (w:=W2) rfl [U32 w0,U32 w1,U32 w2] 111;have hil:w.heap.size+1+1 < wi.heap.size:=(Array.getElem?_eq_some_iff.1 hit1).1;have hit2:=(k2.block _ hil).trans hit1;have hil2:w.heap.size+1+1 < W2.heap.size:=(Array.getElem?_eq_some_iff.1 hit2).1;have kN:=boxed_below W2 (.cells #[U32 w0,U32 w1,U32 w2] 111);have hit3:=(kN.block _ hil2).trans hit2;have hbw3:=hbw2.trans (kN.mono hbw2.size);clear oW1 oR1 hbw1 hbw2 k2 T aA hit1 hit2
            go_wp2_with fail
            refine (P.out _).mono ?_;rintro e W3 ⟨rfl,k3⟩;have hbw4:=hbw3.trans (k3.mono hbw3.size);have oW3:=oW2.below k3;have oR3:=oR2.below k3;have hit4:=(k3.block _ (by simp;omega)).trans hit3;have hil4:W2.heap.size < W3.heap.size:=(oN2.below k3).lt;have HN:=Lib.hid (fun o' ho=>ReadRel.next (g8:=W2.heap.size) (o':=o') hv0 hv1 hv2 HOO.out hval hstep hdV oW3 oR3 hit4 hbw4 (by omega) (by omega) (by omega) (by omega) (by omega) (by omega) (by omega) ho)
            have hpos4:∀ u0 u1 u2 u3 u4 u5,((((((W3.setCell ⟨W2.heap.size,0,none⟩ u0).setCell ⟨W2.heap.size,1,none⟩ u1).setCell ⟨W2.heap.size,2,none⟩ u2).setCell ⟨w.heap.size+1,0,none⟩ u3).setCell ⟨w.heap.size+1,1,none⟩ u4).setCell ⟨w.heap.size+1,2,none⟩ u5).iterPos (w.heap.size+1+1)=k+1:=fun u0 u1 u2 u3 u4 u5=>
              iter_pos (row_setCell (row_setCell (row_setCell (row_setCell (row_setCell (row_setCell hit4 (by omega) _) (by omega) _) (by omega) _) (by omega) _) (by omega) _) (by omega) _)
            have fO:=oW3;have fA:=fO.s3;clear fO;have dO:=oN2.below k3;have dA:=dO.s3;clear dO;have hne1:¬ W2.heap.size=w.heap.size+1:=by omega
            have HP:=Lib.hid hpos4;clear oW2 oR2 oN2 kN hit3 hbw3 k3 oW3 oR3 hit4 hbw4 P hall hR hpos4 HOO hval hstep hdV hit hbw hnx;have r1:=set_same;have r2:=set_off;have r3:=set_blk;cases o
            · by_cases hc0:cc=0
              · by_cases hd0:cd=0
                · have hnew:=HN.out false (by simp [hc0,hd0])
                  have hc0':(cc:Int)=0:=by omega
                  have hd0':(cd:Int)=0:=by omega
                  clear HN hc0 hd0;go_wp2;refine ⟨?_,?_⟩
                  · exact ⟨k+1,false,by omega,by first | rfl | (congr 1;rw [bne_iff_ne];assumption),hA,hnew⟩
                  · rw [HP.out,hpos];omega
                · have hnew:=HN.out true (by simp [hd0])
                  have hc0':(cc:Int)=0:=by omega
                  have hd0':¬ (cd:Int)=0:=by omega
                  clear HN hc0 hd0;go_wp2;refine ⟨?_,?_⟩
                  · exact ⟨k+1,true,by omega,by first | rfl | (congr 1;rw [bne_iff_ne];assumption),hA,hnew⟩
                  · rw [HP.out,hpos];omega
              · have hnew:=HN.out true (by simp [hc0])
                have hc0':¬ (cc:Int)=0:=by omega
                clear HN hc0;go_wp2;refine ⟨?_,?_⟩
                · exact ⟨k+1,true,by omega,by first | rfl | (congr 1;rw [bne_iff_ne];assumption),hA,hnew⟩
                · rw [HP.out,hpos];omega
            · have hnew:=HN.out true (by simp)
              clear HN;go_wp2;refine ⟨?_,?_⟩
              · exact ⟨k+1,true,by omega,by first | rfl | (congr 1;rw [bne_iff_ne];assumption),hA,hnew⟩
              · rw [HP.out,hpos];omega
        · obtain ⟨r,q,r0,r1,hnx⟩:=next_high_at (P:=Tryz.prog) hit hlt ha
          have hd:digAt s k=false:=by rw [← Bool.not_eq_true,digAt_true];omega
          have hbad:=Lib.hid (HBAD.out (allDig_no hlt hd));have h48':¬ (r:Int) < 48:=by omega
          have h57':(57:Int) < (r:Int):=by omega
          clear hd;have oz:=oR.iterTo (s:=s) (p:=q) (show w.heap.size+1+1≠w.heap.size by omega);have qO:=oz;have qA:=qO.s3;clear qO;have kI:=iterTo_below hbw (show w.heap.size≤w.heap.size+1+1 by omega) s q;clear oz;have r1:=set_same;have r2:=set_off;have r3:=set_blk;go_wp2;refine bodyPost_ret (v:=T2 (wideV 0 0 0) (I 3)) (by simp [results,Tryz.results83,go_sem, *]) rfl ⟨hbad.out,below_autor⟩
      · have hnx:=next_end_at (P:=Tryz.prog) hit hlt
        have hks:k=s.size:=by omega
        subst hks;have hE2:=HE.out;rw [hall.out,if_pos rfl] at hE2;have aO:=oW;have aA:=aO.s3;clear aO;have qO:=oR;have qA:=qO.s3;clear qO;clear oW oR hR hit;have r1:=set_same;have r2:=set_off;have r3:=set_blk;have hoo:=HOO.out;cases o
        · rw [eq_comm,decide_eq_false_iff_not] at hoo
          rw [if_neg hoo] at hE2
          have hfin:Hid (Ending.returned (T2 (wideV x y z) (I 0))=Ending.returned (T2 (wideV (readV s%4294967296) (readV s / 4294967296%4294967296) (readV s / 18446744073709551616%4294967296)) (I (wrdE s)))):=by
            have h5:=hval rfl;rw [val3] at h5;have h6:readV s=decV s s.size:=by unfold readV;rw [if_pos hE2]
            obtain ⟨d0,d1,d2,-⟩:=digits4 (N:=readV s) (c:=0) hx hy hz (by rw [h6,← h5];simp);rw [d0,d1,d2,hE2]
            rfl
          clear hval hoo hE2 HOO;go_wp2;refine bodyPost_ret (v:=T2 (wideV x y z) (I 0)) (by simp [results,Tryz.results83,go_sem, *]) rfl ⟨hfin.out,below_autor⟩
        · rw [eq_comm,decide_eq_true_eq] at hoo
          rw [if_pos hoo] at hE2
          have hfin:Hid (Ending.returned (T2 (wideV 0 0 0) (I 2))=Ending.returned (T2 (wideV (readV s%4294967296) (readV s / 4294967296%4294967296) (readV s / 18446744073709551616%4294967296)) (I (wrdE s)))):=by
            rw [readV_zero (by rw [hE2];decide),hE2]
            rfl
          clear hval hoo hE2 HOO;go_wp2;refine bodyPost_ret (v:=T2 (wideV 0 0 0) (I 2)) (by simp [results,Tryz.results83,go_sem, *]) rfl ⟨hfin.out,below_autor⟩
  · have h48' : ¬ ((bat s 0 : Nat) : Int) = 48 := by omega
    go_enter Tryz.func83,Tryz.ntmps83;go_wp2
    go_loopw [5,7,8,9,10] (fun ov _ _ _ _ wr=>∃ (k:Nat) (o:Bool),k≤s.size∧ov=.bool o∧Hid (allDig s k=true)∧Hid (ReadRel w (w.heap.size+1) (w.heap.size+1+1) s k o wr)) (fun _ _ _ _ _ wr=>s.size-wr.iterPos (w.heap.size+1+1))
    case atStart=>exact ⟨0,false,Nat.zero_le _,rfl,rfl,ReadRel.start⟩
    case round=>
      obtain ⟨k,o,hk,rfl,hall,hR⟩:=hrel;obtain ⟨x,y,z,⟨hx,hy,hz⟩,hoo1,hval,oW,oR,hit,hbw⟩:=hR.out;have HOO:=Lib.hid hoo1;clear hoo1
      by_cases hlt:k < s.size
      · have hb := bat_lt s k
        by_cases ha:bat s k < 128
        · have hnx:=next_ascii_at (P:=Tryz.prog) hit hlt ha
          cases hd:digAt s k
          · have hbad:=Lib.hid (HBAD.out (allDig_no hlt hd))
            have hd':=Lib.hid hd;clear hd
            by_cases h48:bat s k < 48
            · have h48':((bat s k:Nat):Int) < 48:=by omega
              generalize bat s k=b at *;have oz:=oR.iterTo (s:=s) (p:=(k+1)) (show w.heap.size+1+1≠w.heap.size by omega);have qO:=oz;have qA:=qO.s3;clear qO;have kI:=iterTo_below hbw (show w.heap.size≤w.heap.size+1+1 by omega) s (k+1);clear oz;have r1:=set_same;have r2:=set_off;have r3:=set_blk;go_wp2;refine bodyPost_ret (v:=T2 (wideV 0 0 0) (I 3)) (by simp [results,Tryz.results83,go_sem, *]) rfl ⟨hbad.out,below_autor⟩
            · have h57:57 < bat s k:=by
                have:=hd'.out;rw [← Bool.not_eq_true,digAt_true] at this;omega
              have h48':¬ ((bat s k:Nat):Int) < 48:=by omega
              have h57':(57:Int) < ((bat s k:Nat):Int):=by omega
              generalize bat s k=b at *;have oz:=oR.iterTo (s:=s) (p:=(k+1)) (show w.heap.size+1+1≠w.heap.size by omega);have qO:=oz;have qA:=qO.s3;clear qO;have kI:=iterTo_below hbw (show w.heap.size≤w.heap.size+1+1 by omega) s (k+1);clear oz;have r1:=set_same;have r2:=set_off;have r3:=set_blk;go_wp2;refine bodyPost_ret (v:=T2 (wideV 0 0 0) (I 3)) (by simp [results,Tryz.results83,go_sem, *]) rfl ⟨hbad.out,below_autor⟩
          · obtain ⟨d0,d1⟩:=digAt_true.1 hd
            have hA:=Lib.hid (allDig_succ hall.out hd);obtain ⟨dg,hdg⟩:∃ dg,bat s k=48+dg:=⟨bat s k-48,by omega⟩;have hdV:decV s (k+1)=decV s k*10+dg:=by rw [decV,hdg];omega
            have hdgi2:((bat s k:Nat):Int)-48=(dg:Int):=by omega
            have hdg9:dg≤9:=by omega
            have hdgw:IntKind.u32.wrap (dg:Int)=(dg:Int):=by show (dg:Int)%4294967296=_;omega
            have hdgw2:IntKind.i32.wrap (dg:Int)=(dg:Int):=by simp [IntKind.wrap,IntKind.bits,IntKind.signed];omega
            have h48':¬ ((bat s k:Nat):Int) < 48:=by omega
            have h57':¬ (57:Int) < ((bat s k:Nat):Int):=by omega
            have T:=Lib.hid (fun W=>Times_any x y z 10 W hx hy hz (by decide));have hl:allW [x,y,z]:=by intro d hd;simp at hd;omega
            have hok:=timesF_ok (show 10 < 4294967296 by decide);have hw0:=wordC_lt hok hl (x:=0) (by decide) 0;have hw1:=wordC_lt hok hl (x:=0) (by decide) 1;have hw2:=wordC_lt hok hl (x:=0) (by decide) 2;have htd:=times_digits x y z 10;generalize wordC (timesF 10) [x,y,z] 0 0=w0 at *;generalize wordC (timesF 10) [x,y,z] 0 1=w1 at *;generalize wordC (timesF 10) [x,y,z] 0 2=w2 at *;generalize carryC (timesF 10) [x,y,z] 0 3=cc at *;have P:=Lib.hid (fun W=>Plus_any w0 w1 w2 dg W hw0 hw1 hw2 (by omega));have hl2:allW [w0,w1,w2]:=by intro d hd;simp at hd;omega
            have hv0:=wordC_lt plusF_ok hl2 (x:=dg) (by omega) 0;have hv1:=wordC_lt plusF_ok hl2 (x:=dg) (by omega) 1;have hv2:=wordC_lt plusF_ok hl2 (x:=dg) (by omega) 2;have hpd:=plus_digits w0 w1 w2 dg;generalize wordC plusF [w0,w1,w2] dg 0=v0 at *;generalize wordC plusF [w0,w1,w2] dg 1=v1 at *;generalize wordC plusF [w0,w1,w2] dg 2=v2 at *;generalize carryC plusF [w0,w1,w2] dg 3=cd at *;have hstep:=read_step htd hpd;have oW1:=oW.iterTo (s:=s) (p:=k+1) (show w.heap.size+1+1≠w.heap.size+1 by omega);have oR1:=oR.iterTo (s:=s) (p:=k+1) (show w.heap.size+1+1≠w.heap.size by omega);have hbw1:=iterTo_below hbw (show w.heap.size≤w.heap.size+1+1 by omega) s (k+1);have hit1:=iterTo_at (q:=k+1) hit;have hsz1:=iterTo_size wr (w.heap.size+1+1) s (k+1);have hpos:=iter_pos hit;generalize bat s k=b at *;clear hl hl2 htd hpd hd hdg hok oW oR;generalize iterTo wr (w.heap.size+1+1) s (k+1)=wi at *;have aO:=oW1;have aA:=aO.s3;clear aO
            go_wp2_with fail
            refine (T.out _).mono ?_;rintro e W2 ⟨rfl,k2⟩;have hbw2:=hbw1.trans (k2.mono hbw1.size);have oW2:=(oW1.below k2).alloc (.cells #[U32 w0,U32 w1,U32 w2] 111);have oR2:=(oR1.below k2).alloc (.cells #[U32 w0,U32 w1,U32 w2] 111);have oN2:=Own.new (w:=W2) rfl [U32 w0,U32 w1,U32 w2] 111;have hil:w.heap.size+1+1 < wi.heap.size:=(Array.getElem?_eq_some_iff.1 hit1).1;have hit2:=(k2.block _ hil).trans hit1;have hil2:w.heap.size+1+1 < W2.heap.size:=(Array.getElem?_eq_some_iff.1 hit2).1;have kN:=boxed_below W2 (.cells #[U32 w0,U32 w1,U32 w2] 111);have hit3:=(kN.block _ hil2).trans hit2;have hbw3:=hbw2.trans (kN.mono hbw2.size);clear oW1 oR1 hbw1 hbw2 k2 T aA hit1 hit2
            go_wp2_with fail
            refine (P.out _).mono ?_;rintro e W3 ⟨rfl,k3⟩;have hbw4:=hbw3.trans (k3.mono hbw3.size);have oW3:=oW2.below k3;have oR3:=oR2.below k3;have hit4:=(k3.block _ (by simp;omega)).trans hit3;have hil4:W2.heap.size < W3.heap.size:=(oN2.below k3).lt;have HN:=Lib.hid (fun o' ho=>ReadRel.next (g8:=W2.heap.size) (o':=o') hv0 hv1 hv2 HOO.out hval hstep hdV oW3 oR3 hit4 hbw4 (by omega) (by omega) (by omega) (by omega) (by omega) (by omega) (by omega) ho)
            have hpos4:∀ u0 u1 u2 u3 u4 u5,((((((W3.setCell ⟨W2.heap.size,0,none⟩ u0).setCell ⟨W2.heap.size,1,none⟩ u1).setCell ⟨W2.heap.size,2,none⟩ u2).setCell ⟨w.heap.size+1,0,none⟩ u3).setCell ⟨w.heap.size+1,1,none⟩ u4).setCell ⟨w.heap.size+1,2,none⟩ u5).iterPos (w.heap.size+1+1)=k+1:=fun u0 u1 u2 u3 u4 u5=>
              iter_pos (row_setCell (row_setCell (row_setCell (row_setCell (row_setCell (row_setCell hit4 (by omega) _) (by omega) _) (by omega) _) (by omega) _) (by omega) _) (by omega) _)
            have fO:=oW3;have fA:=fO.s3;clear fO;have dO:=oN2.below k3;have dA:=dO.s3;clear dO;have hne1:¬ W2.heap.size=w.heap.size+1:=by omega
            have HP:=Lib.hid hpos4;clear oW2 oR2 oN2 kN hit3 hbw3 k3 oW3 oR3 hit4 hbw4 P hall hR hpos4 HOO hval hstep hdV hit hbw hnx;have r1:=set_same;have r2:=set_off;have r3:=set_blk;cases o
            · by_cases hc0:cc=0
              · by_cases hd0:cd=0
                · have hnew:=HN.out false (by simp [hc0,hd0])
                  have hc0':(cc:Int)=0:=by omega
                  have hd0':(cd:Int)=0:=by omega
                  clear HN hc0 hd0;go_wp2;refine ⟨?_,?_⟩
                  · exact ⟨k+1,false,by omega,by first | rfl | (congr 1;rw [bne_iff_ne];assumption),hA,hnew⟩
                  · rw [HP.out,hpos];omega
                · have hnew:=HN.out true (by simp [hd0])
                  have hc0':(cc:Int)=0:=by omega
                  have hd0':¬ (cd:Int)=0:=by omega
                  clear HN hc0 hd0;go_wp2;refine ⟨?_,?_⟩
                  · exact ⟨k+1,true,by omega,by first | rfl | (congr 1;rw [bne_iff_ne];assumption),hA,hnew⟩
                  · rw [HP.out,hpos];omega
              · have hnew:=HN.out true (by simp [hc0])
                have hc0':¬ (cc:Int)=0:=by omega
                clear HN hc0;go_wp2;refine ⟨?_,?_⟩
                · exact ⟨k+1,true,by omega,by first | rfl | (congr 1;rw [bne_iff_ne];assumption),hA,hnew⟩
                · rw [HP.out,hpos];omega
            · have hnew:=HN.out true (by simp)
              clear HN;go_wp2;refine ⟨?_,?_⟩
              · exact ⟨k+1,true,by omega,by first | rfl | (congr 1;rw [bne_iff_ne];assumption),hA,hnew⟩
              · rw [HP.out,hpos];omega
        · obtain ⟨r,q,r0,r1,hnx⟩:=next_high_at (P:=Tryz.prog) hit hlt ha
          have hd:digAt s k=false:=by rw [← Bool.not_eq_true,digAt_true];omega
          have hbad:=Lib.hid (HBAD.out (allDig_no hlt hd));have h48':¬ (r:Int) < 48:=by omega
          have h57':(57:Int) < (r:Int):=by omega
          clear hd;have oz:=oR.iterTo (s:=s) (p:=q) (show w.heap.size+1+1≠w.heap.size by omega);have qO:=oz;have qA:=qO.s3;clear qO;have kI:=iterTo_below hbw (show w.heap.size≤w.heap.size+1+1 by omega) s q;clear oz;have r1:=set_same;have r2:=set_off;have r3:=set_blk;go_wp2;refine bodyPost_ret (v:=T2 (wideV 0 0 0) (I 3)) (by simp [results,Tryz.results83,go_sem, *]) rfl ⟨hbad.out,below_autor⟩
      · have hnx:=next_end_at (P:=Tryz.prog) hit hlt
        have hks:k=s.size:=by omega
        subst hks;have hE2:=HE.out;rw [hall.out,if_pos rfl] at hE2;have aO:=oW;have aA:=aO.s3;clear aO;have qO:=oR;have qA:=qO.s3;clear qO;clear oW oR hR hit;have r1:=set_same;have r2:=set_off;have r3:=set_blk;have hoo:=HOO.out;cases o
        · rw [eq_comm,decide_eq_false_iff_not] at hoo
          rw [if_neg hoo] at hE2
          have hfin:Hid (Ending.returned (T2 (wideV x y z) (I 0))=Ending.returned (T2 (wideV (readV s%4294967296) (readV s / 4294967296%4294967296) (readV s / 18446744073709551616%4294967296)) (I (wrdE s)))):=by
            have h5:=hval rfl;rw [val3] at h5;have h6:readV s=decV s s.size:=by unfold readV;rw [if_pos hE2]
            obtain ⟨d0,d1,d2,-⟩:=digits4 (N:=readV s) (c:=0) hx hy hz (by rw [h6,← h5];simp);rw [d0,d1,d2,hE2]
            rfl
          clear hval hoo hE2 HOO;go_wp2;refine bodyPost_ret (v:=T2 (wideV x y z) (I 0)) (by simp [results,Tryz.results83,go_sem, *]) rfl ⟨hfin.out,below_autor⟩
        · rw [eq_comm,decide_eq_true_eq] at hoo
          rw [if_pos hoo] at hE2
          have hfin:Hid (Ending.returned (T2 (wideV 0 0 0) (I 2))=Ending.returned (T2 (wideV (readV s%4294967296) (readV s / 4294967296%4294967296) (readV s / 18446744073709551616%4294967296)) (I (wrdE s)))):=by
            rw [readV_zero (by rw [hE2];decide),hE2]
            rfl
          clear hval hoo hE2 HOO;go_wp2;refine bodyPost_ret (v:=T2 (wideV 0 0 0) (I 2)) (by simp [results,Tryz.results83,go_sem, *]) rfl ⟨hfin.out,below_autor⟩
end Go.Proofs.YtfhmcahfjoliiaaGreatDoor
