/- ref.WideRead · ref.Parsed -/
import Derived.Test.YtfhmcahfjoliiaaGreatDoorWRead
import Derived.Test.YtfhmcahfjoliiaaGreatDoorParseProg
import Derived.Test.YtfhmcahfjoliiaaGreatDoorPk17
set_option maxRecDepth 20000
set_option maxHeartbeats 8000000
set_option linter.unusedSimpArgs false
set_option linter.unusedVariables false
namespace Go.Proofs.YtfhmcahfjoliiaaGreatDoor
section
open Go.RowKit

def RefRel (W:World) (s:ByteArray) (k:Nat) (wr:World):Prop:=
  BN wr (W.heap.size+1) (decV s k)∧Own wr W.heap.size [U32 0,U32 0,U32 0]∧Below W.heap.size W wr
end
section
open Go.RowKit

theorem Sign_any (x n:Nat) (w:World) (hx:BN w x n):Calls Tryz.prog 97 #[.pointer (some ⟨x,0,none⟩)] w (Pure (I (if n=0 then 0 else 1)) w):=by
  obtain ⟨vx,x1,x2⟩:=hx;obtain ⟨la,hA,ca⟩:=x2;obtain ⟨cx0,cx1,-,-⟩:=x1.cells
  by_cases h0:n=0
  · subst h0
    obtain rfl:=can_zero ca;obtain ⟨a,cap,rfl,hn1,hl1,h01,hr1⟩:=hA;clear hr1 hl1 h01 x1 ca;go_enter Tryz.func97,Tryz.ntmps97;go_wp2;go_ret;exact Pure.intro rfl
  · have hl0:0 < la.length:=by
      cases la with
      | nil=>exact absurd ca.1.symm h0
      | cons=>simp
    obtain ⟨a,cap,rfl,hn1,hl1,h01,hr1⟩:=hA;rw [if_neg h0];have hll:((la.length:Int)==0)=false:=by rw [beq_eq_false_iff_ne];omega
    have hll2:¬ ((la.length:Nat):Int)=0:=by omega
    clear hr1 hl1 h01 x1 ca h0;generalize la.length=m at *;go_enter Tryz.func97,Tryz.ntmps97;go_wp2;go_ret;exact Pure.intro rfl
theorem Int64_any (x n:Nat) (w:World) (hx:BN w x n) (hn:n < 576460752303423488):Calls Tryz.prog 98 #[.pointer (some ⟨x,0,none⟩)] w (Pure (I n) w):=by
  have U:=Lib.hid (Uint64_any x n w hx (by omega));obtain ⟨vx,x1,x2⟩:=hx;obtain ⟨cx0,cx1,-,-⟩:=x1.cells;have q1:IntKind.i64.wrap ((n:Nat):Int)=(n:Int):=IntWalk.i64_in _ (by omega);clear hn x1 x2;go_enter Tryz.func98,Tryz.ntmps98
  go_wp2_with fail
  (with_reducible refine U.out.mono ?_);rintro e w' ⟨rfl,rfl⟩;go_wp2;go_ret;exact Pure.intro rfl
def QRel (W:World) (s:ByteArray) (k:Nat) (wr:World):Prop:=
  BN wr (W.heap.size+1) (decV s k)∧Own wr W.heap.size [I 0,I 0,I 0,I 0]∧Below W.heap.size W wr
theorem QRel.start {W:World} {s:ByteArray}:QRel W s 0 ((W.alloc (.cells #[I 0,I 0,I 0,I 0] 86)).alloc (.cells #[.bool false,.slice none 0 0] 126)):=by
  refine ⟨?_,(Own.new (w:=W) rfl [I 0,I 0,I 0,I 0] 86).alloc _,(boxed_below W _).alloc (boxed_below W _).size _⟩;have:=zeroBN (W.alloc (.cells #[I 0,I 0,I 0,I 0] 86))
  rwa [World.size_alloc] at this
theorem Parsed_len (s:ByteArray) (w:World) (h:s.size≠20):Calls Tryz.prog 66 #[.string s] w (ParP s w):=by
  have hE:=Lib.hid (show parE s=6 by unfold parE;rw [if_neg h]);have h1:¬ (s.size:Int)=20:=by omega
  have zO:=(Own.new (w:=w) rfl [I 0,I 0,I 0,I 0] 86);have zA:=zO.s4;clear zO;have r1:=set_same;have r2:=set_off;have r3:=set_blk;clear h;go_enter Tryz.func66,Tryz.ntmps66;go_wp2;exact bodyPost_ret (v:=T2 (.agg #[I 0,I 0,I 0,I 0]) (I 6)) (by simp [results,Tryz.results66,go_sem, *];try omega) rfl (ParP.bad hE.out (by decide) below_autor)
theorem tokOf_at {Q:Nat} (h:Q < 576460752303423488):(⟨(Q:Int) / 144115188075855872,(Q:Int) / 137438953472%1048576,(Q:Int) / 65536%2097152,(Q:Int)%65536⟩:AToken)=tokOf Q:=by
  have h1:Q / 144115188075855872%4=Q / 144115188075855872:=Nat.mod_eq_of_lt (by omega)
  have e1:((Q / 2^57%4:Nat):Int)=(Q:Int) / 144115188075855872:=by
    show ((Q / 144115188075855872%4:Nat):Int)=_;rw [h1];rfl
  have e2:((Q / 2^37%1048576:Nat):Int)=(Q:Int) / 137438953472%1048576:=rfl;have e3:((Q / 2^16%2097152:Nat):Int)=(Q:Int) / 65536%2097152:=rfl;have e4:((Q%65536:Nat):Int)=(Q:Int)%65536:=rfl;unfold tokOf;rw [e1,e2,e3,e4]
theorem Parsed_on (s : ByteArray) (w : World) (hs : s.size = 20) : Calls Tryz.prog 66 #[.string s] w (ParP s w) := by
  have HBAD:Hid (allDig s 20=false→parE s=7):=fun h=>by unfold parE;rw [if_pos hs,h];rfl
  have HC:Hid (allDig s 20=true→parE s=numE (decV s 20)):=fun h=>parE_num hs h;have h1:(s.size:Int)=20:=by omega
  have HS:=Lib.hid hs;clear hs;go_enter Tryz.func66,Tryz.ntmps66;go_wp2
  go_loopw [5] (fun i wr=>∃ k:Nat,k≤20∧i=I k∧Hid (allDig s k=true)∧Hid (QRel w s k wr)) (fun i _=>20-(intOf i).toNat)
  case atStart=>exact ⟨0,by decide,rfl,rfl,QRel.start⟩
  case round=>
    obtain ⟨k,hk,rfl,hall,hR⟩:=hrel
    by_cases hlt:k < 20
    · have hi0:(0:Int)≤(k:Int):=by omega
      have hi1:(k:Int) < 20:=by omega
      have hi2:(k:Int) < (s.size:Int):=by omega
      have hks:k < s.size:=by have:=HS.out;omega
      have hb:=bat_eq hks;have hdf:digAt s k=inB ((bat s k:Nat):Int) 48 57:=rfl;cases hd:digAt s k
      · have HE:=Lib.hid (HBAD.out (allDig_no hlt hd))
        rw [hd] at hdf;obtain ⟨hB,oR,hbw⟩:=hR.out;have zO:=oR;have zA:=zO.s4;clear zO;have hdf':=hdf.symm;clear hd hdf oR hB hR hall;have r1:=set_same;have r2:=set_off;have r3:=set_blk
        go_wp2_with (go_at_call 37;refine (Digit_any _ _).mono ?_;rintro e w' ⟨rfl,rfl⟩)
        exact bodyPost_ret (v:=T2 (.agg #[I 0,I 0,I 0,I 0]) (I 7)) (by simp [results,Tryz.results66,go_sem, *];try omega) rfl (ParP.bad HE.out (by decide) below_autor)
      · obtain ⟨d0,d1⟩:=digAt_true.1 hd
        have hA:=Lib.hid (allDig_succ hall.out hd);have hdf':=(hdf.symm.trans hd);obtain ⟨dg,hdg⟩:∃ dg,bat s k=48+dg:=⟨bat s k-48,by omega⟩;have hdV:=Lib.hid (show decV s (k+1)=decV s k*10+dg by rw [decV,hdg];omega);have h10:decV s k < 10^40:=Nat.lt_of_lt_of_le (decV_lt k hall.out) (Nat.pow_le_pow_right (by decide) (by omega));have big:10^42 < 4294967296^100:=Nat.lt_of_lt_of_le (by decide:10^42 < 4294967296^5) (Nat.pow_le_pow_right (by decide) (by decide));obtain ⟨hB,oR,hbw⟩:=hR.out;have N1:=Lib.hid (fun W=>NewInt_nat 10 W (by decide));have N2:=Lib.hid (fun W=>NewInt_nat dg W (by omega));have M:=Lib.hid (fun W y hz hy=>Mul_any (w.heap.size+1) (w.heap.size+1) y (decV s k) (decV s k) 10 W hz hz hy (Nat.lt_trans (by omega) big) (Nat.lt_trans (by decide) big));have A:=Lib.hid (fun W y hz hy=>Add_any (w.heap.size+1) (w.heap.size+1) y (decV s k*10) (decV s k*10) dg W hz hz hy (Nat.lt_trans (by omega) big) (Nat.lt_trans (by omega) big));rw [← hdV.out] at A
        have hdgi:IntKind.u8.wrap (((bat s k:Nat):Int)-48)=(dg:Int):=by
          rw [hdg];show (((48+dg:Nat):Int)-48)%256=_;omega
        have hdgi2:((bat s k:Nat):Int)-48=(dg:Int):=by omega
        have hdg9:(dg:Int)%256=(dg:Int):=by omega
        clear hd hdf h10 big hdg d0 d1 hR hall;obtain ⟨vn,hvn⟩:∃ vn,vn=decV s (k+1):=⟨_,rfl⟩;have HVN:=Lib.hid hvn.symm;rw [← hvn] at A;clear hdV hvn;generalize decV s k*10=vm at *;generalize decV s k=vv at *;generalize bat s k=b at *
        go_wp2_with (go_at_call 37;refine (Digit_any _ _).mono ?_;rintro e w' ⟨rfl,rfl⟩)
        refine (N1.out _).mono ?_;rintro e W1 ⟨y,rfl,hy,hyl,k1⟩;have hB1:=hB.below k1;have oR1:=oR.below k1;have kk1:=hbw.trans (k1.mono hbw.size);have hbl:=hB.lt;clear hB oR hbw k1
        go_wp2_with fail
        refine (M.out _ _ hB1 hy).mono ?_;rintro e W2 ⟨rfl,hB2,c2⟩;have oR2:=oR1.chg c2 (by omega);have kk2:=c2.below kk1 (by omega) kk1.size;clear hB1 oR1 kk1 c2 hy
        go_wp2_with fail
        refine (N2.out _).mono ?_;rintro e W3 ⟨y2,rfl,hy2,hyl2,k3⟩;have hB3:=hB2.below k3;have oR3:=oR2.below k3;have kk3:=kk2.trans (k3.mono kk2.size);clear hB2 oR2 kk2 k3
        go_wp2_with fail
        refine (A.out _ _ hB3 hy2).mono ?_;rintro e W4 ⟨rfl,hB4,c4⟩;have oR4:=oR3.chg c4 (by omega);have kk4:=c4.below kk3 (by omega) kk3.size;have hnew:Hid (QRel w s (k+1) W4):=⟨by rw [HVN.out];exact hB4,oR4,kk4⟩;clear hB3 oR3 kk3 c4 hy2 hB4 oR4 kk4;go_wp2;exact ⟨⟨k+1,by omega,by go_num,hA,hnew⟩,by simp [intOf];try omega⟩
    · obtain rfl:k=20:=by omega
      have hge:¬ (((20:Nat):Int) < 20):=by omega
      have hN:=decV_lt20 hall.out;have hE:=HC.out hall.out;have big:100000000000000000000 < 4294967296^100:=Nat.lt_of_lt_of_le (by decide:100000000000000000000 < 4294967296^5) (Nat.pow_le_pow_right (by decide) (by decide));have big2:100000000000000000000 < 4294967296^200:=Nat.lt_of_lt_of_le (by decide:100000000000000000000 < 4294967296^5) (Nat.pow_le_pow_right (by decide) (by decide));obtain ⟨hB,oR,hbw⟩:=hR.out;have L:=Lib.hid (BitLen_any (w.heap.size+1) (decV s 20) wr hB (Nat.lt_trans hN big));unfold numE at hE
      by_cases hov:73786976294838206464≤decV s 20
      · rw [if_pos hov] at hE
        have HE:=Lib.hid hE;have hbl:=blen_ge 66 (decV s 20) hov;have hbl':(66:Int) < ((blen (decV s 20):Nat):Int):=by omega
        have zO:=oR;have zA:=zO.s4;clear zO;clear oR hR hE hB hbl big big2 hov hall hN hk hlt;generalize blen (decV s 20)=bb at *
        go_wp2_with fail
        (with_reducible refine L.out.mono ?_);rintro e w' ⟨rfl,rfl⟩;have r1:=set_same;have r2:=set_off;have r3:=set_blk;go_wp2;exact bodyPost_ret (v:=T2 (.agg #[I 0,I 0,I 0,I 0]) (I 2)) (by simp [results,Tryz.results66,go_sem, *];try omega) rfl (ParP.bad HE.out (by decide) below_autor)
      · rw [if_neg hov] at hE
        have hbl:=blen_lt 66 (decV s 20) (Nat.lt_of_not_le hov);have hbl':¬ (66:Int) < ((blen (decV s 20):Nat):Int):=by omega
        have N1:=Lib.hid (fun W=>NewInt_nat 97 W (by decide));have D:=Lib.hid (fun W z y r hz hx hy hr hzr=>QuoRem_any z (w.heap.size+1) y r 0 (decV s 20) 97 0 W hz hx hy hr hzr (Nat.lt_trans hN big2) (.inl (by decide)));have HE:=Lib.hid hE;have HN:Hid (decV s 20 / 97 < 4294967296^100):=Nat.lt_of_le_of_lt (Nat.div_le_self _ _) (Nat.lt_trans hN big);clear hR hE hbl big big2 hov hall hN hk hlt;generalize blen (decV s 20)=bb at *;generalize decV s 20%97=rr at *;generalize hQ:decV s 20 / 97=Q at *;have HQ:=Lib.hid hQ;clear hQ;generalize decV s 20=N at D L hB
        go_wp2_with fail
        (with_reducible refine L.out.mono ?_);rintro e w' ⟨rfl,rfl⟩
        go_wp2_with fail
        refine (N1.out _).mono ?_;rintro e w1 ⟨y,rfl,hy,hyl,k1⟩;rw [World.size_alloc] at hyl;have hz1:=(zeroBN wr).below k1;have hB1:=hB.below (below_box k1);have oR1:=oR.below (below_box k1);have kk1:=hbw.trans ((below_box k1).mono hbw.size);have hz1l:=hz1.lt;have hgR:=oR.lt;have hbl2:=hB.lt;have hyl2:=hy.lt;clear k1 hB oR hbw L N1 hbl'
        go_wp2_with fail
        refine (D.out _ _ _ _ (hz1.below (boxed_below w1 _)) (hB1.below (boxed_below w1 _)) (hy.below (boxed_below w1 _)) (zeroBN w1) (by omega)).mono ?_;rintro e w2 ⟨rfl,wm,hq1,c1,hr2,c2,hq2⟩;have oR2:=((oR1.alloc _).chg c1 (by omega)).chg c2 (by omega);have kw:=kk1.alloc kk1.size (.cells #[.bool false,.slice none 0 0] 126);have kw2:=c1.below kw (by omega) kw.size;have kk2:=c2.below kw2 (by omega) kw2.size;clear kw kw2 c1 c2 hq1 hz1 hB1 hy oR1 kk1 D;have SG:=Lib.hid (Sign_any _ _ _ hr2);have L2:=Lib.hid (BitLen_any _ _ _ hq2 HN.out);have hgz:¬ wr.heap.size=w.heap.size:=by omega
        clear HN hr2
        by_cases hr:rr=0
        · rw [if_pos hr] at SG
          have hE:=HE.out;rw [if_pos hr] at hE
          by_cases hbq:576460752303423488≤Q
          · rw [if_pos hbq] at hE
            have HE:=Lib.hid hE;have hbl:=blen_ge 59 Q hbq;have hbl':(59:Int) < ((blen Q:Nat):Int):=by omega
            have zO:=oR2;have zA:=zO.s4;clear zO;clear hE hbl hbq hq2 oR2 hr;generalize blen Q=bb at *
            go_wp2_with fail
            (with_reducible refine SG.out.mono ?_);rintro e w' ⟨rfl,rfl⟩
            go_wp2_with fail
            (with_reducible refine L2.out.mono ?_);rintro e w' ⟨rfl,rfl⟩;have r1:=set_same;have r2:=set_off;have r3:=set_blk;go_wp2;exact bodyPost_ret (v:=T2 (.agg #[I 0,I 0,I 0,I 0]) (I 2)) (by simp [results,Tryz.results66,go_sem, *];try omega) rfl (ParP.bad HE.out (by decide) below_autor)
          · rw [if_neg hbq] at hE
            have HE:=Lib.hid hE;have hbl:=blen_lt 59 Q (Nat.lt_of_not_le hbq);have hbl':¬ (59:Int) < ((blen Q:Nat):Int):=by omega
            have I6:=Lib.hid (Int64_any _ _ _ hq2 (Nat.lt_of_not_le hbq));have hT:=tokOf_at (Nat.lt_of_not_le hbq)
            have FT:Hid (∀ W,Calls Tryz.prog 99 #[.agg #[I ((Q:Int) / 144115188075855872),I ((Q:Int) / 137438953472%1048576),I ((Q:Int) / 65536%2097152),I ((Q:Int)%65536)]] W (Grew (I (tokFault (tokOf Q))) W)):=Lib.hid fun W=>by
              have h:=TokenFault_any ⟨(Q:Int) / 144115188075855872,(Q:Int) / 137438953472%1048576,(Q:Int) / 65536%2097152,(Q:Int)%65536⟩ W;rw [← hT];exact h
            have ET:=Lib.hid hT;clear hT;have q0:(0:Int)≤(Q:Int):=by omega
            have hqz:=hq2.lt;clear hE hbl hq2 hr hbq;generalize blen Q=bb at *
            go_wp2_with fail
            (with_reducible refine SG.out.mono ?_);rintro e w' ⟨rfl,rfl⟩
            go_wp2_with fail
            (with_reducible refine L2.out.mono ?_);rintro e w' ⟨rfl,rfl⟩
            go_wp2_with fail
            (with_reducible refine I6.out.mono ?_);rintro e w' ⟨rfl,rfl⟩
            go_wp2_with fail
            generalize (Q:Int) / 144115188075855872=ta at *;generalize (Q:Int) / 137438953472%1048576=tb at *;generalize (Q:Int) / 65536%2097152=tc at *;generalize (Q:Int)%65536=td at *;generalize tokFault (tokOf Q)=er at *;refine (FT.out _).mono ?_;rintro e w3 ⟨rfl,k3⟩;have kk3:=kk2.trans ((below_box k3).mono kk2.size);have zO:=oR2.below (below_box k3);have zA:=zO.s4;clear zO;have dO:=(Own.new (w:=w2) rfl [I ta,I tb,I tc,I td] 86).below k3;have dA:=dO.s4;clear dO;have hgR2:=oR2.lt;clear k3 oR2 SG L2 I6 FT kk2
            by_cases her:er=0
            · have HE:Hid (parE s=0):=by have:=HE.out;rw [if_pos her] at this;exact this
              have her':(er != 0)=false:=by simp;omega
              clear her;have r1:=set_same;have r2:=set_off;have r3:=set_blk;go_wp2;exact bodyPost_ret (v:=T2 (.agg #[I ta,I tb,I tc,I td]) (I 0)) (by simp [results,Tryz.results66,go_sem, *];try omega) rfl (ParP.ok HE.out HQ.out ET.out below_autor)
            · have HE:Hid (parE s=2):=by have:=HE.out;rw [if_neg her] at this;exact this
              have her':(er != 0)=true:=by simp;omega
              clear her;have r1:=set_same;have r2:=set_off;have r3:=set_blk;go_wp2;exact bodyPost_ret (v:=T2 (.agg #[I 0,I 0,I 0,I 0]) (I 2)) (by simp [results,Tryz.results66,go_sem, *];try omega) rfl (ParP.bad HE.out (by decide) below_autor)
        · have hE:=HE.out
          rw [if_neg hr] at hE;rw [if_neg hr] at SG;have HE:=Lib.hid hE;have zO:=oR2;have zA:=zO.s4;clear zO;clear hE hq2 L2 oR2
          go_wp2_with fail
          (with_reducible refine SG.out.mono ?_);rintro e w' ⟨rfl,rfl⟩;have r1:=set_same;have r2:=set_off;have r3:=set_blk;go_wp2;exact bodyPost_ret (v:=T2 (.agg #[I 0,I 0,I 0,I 0]) (I 8)) (by simp [results,Tryz.results66,go_sem, *];try omega) rfl (ParP.bad HE.out (by decide) below_autor)
end
end Go.Proofs.YtfhmcahfjoliiaaGreatDoor
