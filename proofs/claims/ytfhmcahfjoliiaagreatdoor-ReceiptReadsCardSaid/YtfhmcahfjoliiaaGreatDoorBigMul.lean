/- great numbers: mul -/
import Derived.Test.YtfhmcahfjoliiaaGreatDoorBigAdd
set_option maxRecDepth 20000
set_option maxHeartbeats 8000000
set_option linter.unusedSimpArgs false
set_option linter.unusedVariables false
namespace Go.Proofs.YtfhmcahfjoliiaaGreatDoor
open Go.RowKit

def MulRel (W:World) (g n:Nat) (hi:Nat) (V:Nat) (wr:World):Prop:=
  (∃ rl:List Nat,rl.length=n∧allW rl∧Own wr g (wcells rl)∧val rl=V∧∀ i,hi≤i→rl.getD i 0=0)∧Below W.heap.size W wr

def MulRow (W:World) (g n:Nat) (hi:Nat) (V P:Nat) (c:Nat) (S:Nat) (wr:World):Prop:=
  (∃ rl:List Nat,rl.length=n∧allW rl∧Own wr g (wcells rl)∧val rl+P*c=V+S∧∀ i,hi≤i→rl.getD i 0=0)∧Below W.heap.size W wr

theorem mul_any (va vb : Value) (n m : Nat) (w : World) (hA : Abs w va n) (hB : Abs w vb m) (hn : n < 4294967296 ^ 250) (hm : m < 4294967296 ^ 250) : Calls Tryz.prog 121 #[va, vb] w (GrewAbs (n * m) w) := by
  obtain ⟨la,hA,ca⟩:=hA;obtain ⟨lb,hB,cb⟩:=hB;have h1:=can_len ca hn;have h2:=can_len cb hm;clear hn hm;obtain ⟨i0,hi,hz0,hz1,hz2⟩:=info_parts infoWd;obtain ⟨a,cap,rfl,hn1,hl1,h01,hr1⟩:=hA;obtain ⟨a2,cap2,rfl,hn2,hl2,h02,hr2⟩:=hB;clear hl1 h01 hl2 h02
  by_cases ha0:la.length=0
  · have:n=0:=by have:=ca.1;rw [List.length_eq_zero_iff.1 ha0] at this;simpa [val] using this.symm
    subst this;have hA:=Lib.hid (⟨[],Sl.nil _ _,by simp [val],by simp [allW],by simp⟩:Abs w (.slice none 0 0) (0*m));have t1:((la.length:Int)==0)=true:=by rw [beq_iff_eq];omega
    clear hr1 hr2 ca cb;go_enter Tryz.func121,Tryz.ntmps121;go_wp2
    all_goals
      go_ret;exact ⟨_,rfl,hA.out,Below.refl _ _⟩
  by_cases hb0:lb.length=0
  · have:m=0:=by have:=cb.1;rw [List.length_eq_zero_iff.1 hb0] at this;simpa [val] using this.symm
    subst this;have hA:=Lib.hid (⟨[],Sl.nil _ _,by simp [val],by simp [allW],by simp⟩:Abs w (.slice none 0 0) (n*0));have t1:((la.length:Int)==0)=false:=by rw [beq_eq_false_iff_ne];omega
    have t2:((lb.length:Int)==0)=true:=by rw [beq_iff_eq];omega
    clear hr1 hr2 ca cb;go_enter Tryz.func121,Tryz.ntmps121;go_wp2
    all_goals
      go_ret;exact ⟨_,rfl,hA.out,Below.refl _ _⟩
  have t1:((la.length:Int)==0)=false:=by rw [beq_eq_false_iff_ne];omega
  have t2:((lb.length:Int)==0)=false:=by rw [beq_eq_false_iff_ne];omega
  obtain ⟨b,off,rfl,hb,hcell⟩:=hr1.resolve_left (by omega);obtain ⟨b2,off2,rfl,hb2,hcell2⟩:=hr2.resolve_left (by omega);have CA:=Lib.hid ca;have CB:=Lib.hid cb;have HC:=Lib.hid hcell;have HC2:=Lib.hid hcell2;clear ca cb hr1 hr2 hcell hcell2;have hle:la.length≤la.length+lb.length:=by omega
  go_enter Tryz.func121,Tryz.ntmps121
  go_wp2_with (refine wpList_make_full _ rfl (.tmp 21) (.tmp 21) 124 rfl w.heap.size 109 i0 (.int .u32 0) 1 Tryz.underlying124 hi hz0 hz1 .i64 .i64 _ _ (la.length+lb.length) rfl rfl (by simp) (by simp) (by rw [hz2];omega) (by unfold maxLen;omega) (Nat.le_refl _) ?_;intro w2 hown hgrow;have hbel:=Below.grown (B:=w.heap.size) (Below.refl _ w) hgrow (Nat.le_refl _) (fun k hk=>by cases hk);have hO:=Own.of_owns (made_int hown);clear hown hgrow)
  have hD:Hid (MulRel w w.heap.size (la.length+lb.length) lb.length 0 w2):=⟨⟨List.replicate (la.length+lb.length) 0,by simp,allW_replicate _,by unfold wcells;rw [List.map_replicate];exact hO,val_replicate _,fun i _=>getD_replicate' _ i⟩,hbel⟩;clear hO hbel
  go_loopw [6,7,8] (fun i _ _ wr=>∃ k:Nat,k≤la.length∧i=I k∧Hid (MulRel w w.heap.size (la.length+lb.length) (k+lb.length) (val (la.take k)*val lb) wr)) (fun i _ _ _=>la.length-(intOf i).toNat)
  case atStart=>exact ⟨0,Nat.zero_le _,rfl,by simpa [val] using hD⟩
  case round=>
    obtain ⟨k,hk,rfl,hD⟩:=hrel;obtain ⟨⟨rl,hrl,hrw,hO,hv,hz⟩,hbw⟩:=hD.out;have hi0:(0:Int)≤(k:Int):=by omega
    by_cases hlt:k < la.length
    · have hi1:(k:Int) < (la.length:Int):=by omega
      have hx:=allW_at CA.out.2.1 k;have hV:=Lib.hid (show val (la.take (k+1))*val lb=val (la.take k)*val lb+4294967296^k*(la.getD k 0*val lb) by rw [val_take_succ hlt,Nat.add_mul,Nat.mul_assoc]);have ea0:=HC.out k (by rw [wcells_len];omega);rw [wcells_at hlt] at ea0;have hD0:Hid (MulRow w w.heap.size (la.length+lb.length) (k+lb.length) (val (la.take k)*val lb) (4294967296^(k+0)) 0 (4294967296^k*(la.getD k 0*val (lb.take 0))) wr):=⟨⟨rl,hrl,hrw,hO,by simp [hv,val],hz⟩,hbw⟩;clear hD hO hv hz hrw hrl;generalize la.getD k 0=x at *;generalize val (la.take k)*val lb=V at *;obtain ⟨wo,rfl⟩:∃ wo:World,wo=wr:=⟨_,rfl⟩;have hbo:=hbw;clear hbw;go_wp2
      go_loopw [7,8] (fun cv j wr=>∃ i c:Nat,i≤lb.length∧c < 4294967296∧j=I i∧cv=.int .u64 c∧Hid (MulRow w w.heap.size (la.length+lb.length) (k+lb.length) V (4294967296^(k+i)) c (4294967296^k*(x*val (lb.take i))) wr)) (fun _ j _=>lb.length-(intOf j).toNat)
      case atStart=>exact ⟨0,0,Nat.zero_le _,by omega,rfl,rfl,hD0⟩
      case round=>
        obtain ⟨i,c,hi,hc,rfl,rfl,hD⟩:=hrel;obtain ⟨⟨rl,hrl,hrw,hO,hv,hz⟩,hbw⟩:=hD.out;have hj0:(0:Int)≤(i:Int):=by omega
        by_cases hlt2:i < lb.length
        · have hj1:(i:Int) < (lb.length:Int):=by omega
          have hki:k+i < rl.length:=by omega
          have ea:=(hbw.cell (p:=⟨b,off+k,none⟩) hb).trans ea0;have eb:=(hbw.cell (p:=⟨b2,off2+i,none⟩) hb2).trans (HC2.out i (by rw [wcells_len];omega));rw [wcells_at hlt2] at eb;have er:=hO.cell (k+i) (by rw [wcells_len];omega);rw [wcells_at hki,Nat.zero_add] at er;have fr:=hO.frozen (k+i);have hy:=allW_at CB.out.2.1 i;have hzz:=allW_at hrw (k+i);obtain ⟨mb1,mb2⟩:=mul_bound hc hx hy hzz;have hst:=Lib.hid (fun s hs=>mul_step (s:=s) hki hlt2 hv hs);have HO:=Lib.hid hO;have hzs:=Lib.hid hz;clear hO hv hz;generalize lb.getD i 0=y at *;generalize rl.getD (k+i) 0=z at *;have s0:(0:Int)≤(k:Int)+(i:Int):=by omega
          have s1:(k:Int)+(i:Int) < (la.length:Int)+(lb.length:Int):=by omega
          have s2:((k:Int)+(i:Int)).toNat=k+i:=by omega
          go_wp2
          go_quiet (fail)
          go_wp2;have e0:(c:Int)+((x:Int)*(y:Int)+(z:Int))=((c+x*y+z:Nat):Int):=by rw [Int.natCast_add,Int.natCast_add,Int.natCast_mul];omega
          rw [e0];generalize hs:c+x*y+z=s at *;have e1:((s:Nat):Int)%4294967296=((s%4294967296:Nat):Int):=by omega
          have e2:((s:Nat):Int) / 4294967296=((s / 4294967296:Nat):Int):=by omega
          rw [e1,e2];refine ⟨⟨i+1,s / 4294967296,by omega,mb2,by go_num,rfl,⟨⟨rl.set (k+i) (s%4294967296),by rw [List.length_set];exact hrl,allW_set hrw _ (by omega),by rw [wcells_set];exact (HO.out.drewN nq).set (k+i) _,hst.out s rfl,fun j hj=>by rw [getD_set_ne (by omega)];exact hzs.out j hj⟩,(drewN_below hbw nq).setCell (p:=⟨w.heap.size,k+i,none⟩) (Nat.le_refl _) _⟩⟩,by simp [intOf];omega⟩
        · have hil:i=lb.length:=by omega
          have hge:(lb.length:Int)≤(i:Int):=by omega
          subst hil;have hki:k+lb.length < rl.length:=by omega
          have er:=hO.cell (k+lb.length) (by rw [wcells_len];omega);rw [wcells_at hki,Nat.zero_add,hz _ (Nat.le_refl _)] at er;have fr:=hO.frozen (k+lb.length);rw [List.take_of_length_le (Nat.le_refl _)] at hv;have hfin:=Lib.hid (mul_row hki (hz _ (Nat.le_refl _)) hv);have HO:=Lib.hid hO;have hzs:=Lib.hid hz;clear hO hv hz;have s0:(0:Int)≤(k:Int)+(lb.length:Int):=by omega
          have s1:(k:Int)+(lb.length:Int) < (la.length:Int)+(lb.length:Int):=by omega
          have s2:((k:Int)+(lb.length:Int)).toNat=k+lb.length:=by omega
          go_wp2;exact ⟨⟨k+1,by omega,by go_num,⟨⟨rl.set (k+lb.length) c,by rw [List.length_set];exact hrl,allW_set hrw _ hc,by rw [wcells_set];exact HO.out.set (k+lb.length) _,by rw [hV.out];exact hfin.out,fun j hj=>by rw [getD_set_ne (by omega)];exact hzs.out j (by omega)⟩,hbw.setCell (p:=⟨w.heap.size,k+lb.length,none⟩) (Nat.le_refl _) _⟩⟩,by simp [intOf];omega⟩
    · have hkl:k=la.length:=by omega
      have hge:(la.length:Int)≤(k:Int):=by omega
      have hsum:val rl=n*m:=by
        rw [hv,hkl,List.take_of_length_le (Nat.le_refl _),CA.out.1,CB.out.1]
      have hfin:Hid (Sl wr (.slice (some ⟨w.heap.size,0,none⟩) (la.length+lb.length) (la.length+lb.length)) 1 rl.length (wcells rl)):=by
        have h2:=hO.sl (n:=la.length+lb.length) (cap:=la.length+lb.length) (sz:=1) (by omega) (Nat.le_refl _) (by rw [wcells_len];omega);rw [hrl];exact h2
      have T:=Lib.hid (trim_any _ rl _ hfin.out hrw);rw [hsum] at T;clear hfin hsum hO hv hz hD hrw hkl HC HC2
      go_wp2_with fail
      refine T.out.mono ?_;rintro e w3 ⟨v',rfl,hA,rfl⟩;go_wp2;go_ret;exact ⟨_,rfl,hA,hbw⟩
end Go.Proofs.YtfhmcahfjoliiaaGreatDoor
