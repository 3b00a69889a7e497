/- great numbers: sub · great numbers: cmp · great numbers: by one word -/
import Derived.Test.YtfhmcahfjoliiaaGreatDoorBigAdd
import Derived.Test.YtfhmcahfjoliiaaGreatDoorPk06
import Derived.Test.YtfhmcahfjoliiaaGreatDoorBigPlain
set_option maxRecDepth 20000
set_option maxHeartbeats 8000000
set_option linter.unusedSimpArgs false
set_option linter.unusedVariables false
namespace Go.Proofs.YtfhmcahfjoliiaaGreatDoor
section
open Go.RowKit

def SubRel (W:World) (g:Nat) (la lb:List Nat) (k c:Nat) (wr:World):Prop:=
  (∃ rl:List Nat,rl.length=la.length∧allW rl∧Own wr g (wcells rl)∧val (rl.take k)+val (lb.take k)=val (la.take k)+4294967296^k*c)∧Below W.heap.size W wr
end
section
open Go.RowKit

def cmpI (n m:Nat):Int:=if n < m then -1 else if n=m then 0 else 1
theorem cmpI_lt {n m:Nat} (h:n < m):cmpI n m=-1:=by simp [cmpI,h]
theorem cmpI_gt {n m:Nat} (h:m < n):cmpI n m=1:=by unfold cmpI;rw [if_neg (by omega),if_neg (by omega)]
theorem cmpI_eq {n m:Nat} (h:n=m):cmpI n m=0:=by subst h;unfold cmpI;rw [if_neg (by omega),if_pos rfl]

theorem cmp_any (va vb : Value) (n m : Nat) (w : World) (hA : Abs w va n) (hB : Abs w vb m) : Calls Tryz.prog 142 #[va, vb] w (Grew (I (cmpI n m)) w) := by
  obtain ⟨la,hA,ca⟩:=hA;obtain ⟨lb,hB,cb⟩:=hB;obtain ⟨a,cap,rfl,hn1,hl1,h01,hr1⟩:=hA;obtain ⟨a2,cap2,rfl,hn2,hl2,h02,hr2⟩:=hB;clear hl1 h01 hl2 h02;rcases Nat.lt_trichotomy la.length lb.length with hlt | heq | hgt
  · have he:=Lib.hid (cmpI_lt (can_longer ca cb hlt))
    have t1:((la.length:Int) != (lb.length:Int))=true:=by simp;omega
    have t2:(la.length:Int) < (lb.length:Int):=by omega
    generalize cmpI n m=R at *;clear hr1 hr2 ca cb;go_enter Tryz.func142,Tryz.ntmps142;go_wp2;go_ret;exact Grew.intro (eI he.out.symm) (Below.refl _ _)
  · have t1:((la.length:Int) != (lb.length:Int))=false:=by simp;omega
    have L1:=Lib.hid (fun h=>cmpI_lt (n:=n) (m:=m) h);have L2:=Lib.hid (fun h=>cmpI_gt (n:=n) (m:=m) h);have L3:=Lib.hid (fun h=>cmpI_eq (n:=n) (m:=m) h);generalize cmpI n m=R at *;have CA:=Lib.hid ca;have CB:=Lib.hid cb;have HE:=Lib.hid heq;clear ca cb heq;go_enter Tryz.func142,Tryz.ntmps142;go_wp2
    go_loopw [5] (fun i wr=>∃ k:Nat,k≤la.length∧i=I ((k:Int)-1)∧Hid (∀ q,k≤q→la.getD q 0=lb.getD q 0)∧∃ q,wr=w.drewN q) (fun i _=>(intOf i+1).toNat)
    case atStart=>exact ⟨la.length,Nat.le_refl _,rfl,(fun q hq=>by rw [List.getD_eq_getElem?_getD,List.getD_eq_getElem?_getD,List.getElem?_eq_none hq,List.getElem?_eq_none (by have:=HE.out;omega)]),0,rfl⟩
    case round=>
      obtain ⟨k,hk,rfl,hsame,q,rfl⟩:=hrel;cases k with
      | zero=>
        have hR:=Lib.hid (L3.out (by rw [← CA.out.1,← CB.out.1,val_alike HE.out (fun i _=>hsame.out i (by omega))]));clear hr1 hr2 L1 L2 L3 hsame;go_wp2;go_ret;exact Grew.intro (eI hR.out.symm) (drewN_below (Below.refl _ _) _)
      | succ k=>
        rw [show (((k+1:Nat):Int)-1)=(k:Int) by omega];have hkb:k < lb.length:=by have:=HE.out;omega
        obtain ⟨b,off,rfl,hb,hcell⟩:=hr1.resolve_left (by omega);obtain ⟨b2,off2,rfl,hb2,hcell2⟩:=hr2.resolve_left (by omega);have ea:=hcell k (by rw [wcells_len];omega);have eb:=hcell2 k (by rw [wcells_len];omega);rw [wcells_at (by omega)] at ea eb;have hi0:(0:Int)≤(k:Int):=by omega
        have hi1:(k:Int) < (la.length:Int):=by omega
        have hi2:(k:Int) < (lb.length:Int):=by omega
        have F:=Lib.hid (show ∀ j,la.getD k 0=lb.getD k 0→k≤j→la.getD j 0=lb.getD j 0 from fun j he hj=>by
          rcases Nat.eq_or_lt_of_le hj with h | h
          · subst h;exact he
          · exact hsame.out j h)
        have G1:=Lib.hid (show la.getD k 0 < lb.getD k 0→R=-1 from fun h=>L1.out (by
          rw [← CA.out.1,← CB.out.1];exact val_less CA.out.2.1 HE.out (by omega) (fun i hi=>hsame.out i hi) h))
        have G2:=Lib.hid (show lb.getD k 0 < la.getD k 0→R=1 from fun h=>L2.out (by
          rw [← CA.out.1,← CB.out.1];exact val_less CB.out.2.1 HE.out.symm (by omega) (fun i hi=>(hsame.out i hi).symm) h))
        clear hr1 hr2 hcell hcell2 L1 L2 L3 hsame;generalize la.getD k 0=x at *;generalize lb.getD k 0=y at *;rcases Nat.lt_trichotomy x y with h | h | h
        · have hR:=Lib.hid (G1.out h)
          have q1:((x:Int) != (y:Int))=true:=by rw [bne_iff_ne];omega
          have q2:(x:Int) < (y:Int):=by omega
          clear F G1 G2 h;go_wp2
          go_quiet (fail)
          go_wp2
          go_quiet (fail)
          go_wp2;go_ret;exact Grew.intro (eI hR.out.symm) below_auto
        · have q1:((x:Int) != (y:Int))=false:=by rw [bne_eq_false_iff_eq];omega
          have hF:=Lib.hid (fun j=>F.out j h);clear F G1 G2;go_wp2
          go_quiet (fail)
          go_wp2;exact ⟨⟨k,by omega,rfl,hF,_,rfl⟩,by simp [intOf];try omega⟩
        · have hR:=Lib.hid (G2.out h)
          have q1:((x:Int) != (y:Int))=true:=by rw [bne_iff_ne];omega
          have q2:¬ (x:Int) < (y:Int):=by omega
          clear F G1 G2 h;go_wp2
          go_quiet (fail)
          go_wp2
          go_quiet (fail)
          go_wp2;go_ret;exact Grew.intro (eI hR.out.symm) below_auto
  · have he:=Lib.hid (cmpI_gt (can_longer cb ca hgt))
    have t1:((la.length:Int) != (lb.length:Int))=true:=by simp;omega
    have t2:¬ (la.length:Int) < (lb.length:Int):=by omega
    generalize cmpI n m=R at *;clear hr1 hr2 ca cb;go_enter Tryz.func142,Tryz.ntmps142;go_wp2;go_ret;exact Grew.intro (eI he.out.symm) (Below.refl _ _)
end
section
open Go.RowKit

theorem or64s (x y:Nat) (hx:x < 4294967296) (hy:y < 4294967296):bits .or .u64 ((x:Int)*4294967296) (y:Int)=((4294967296*x+y:Nat):Int):=by
  have e:(x:Int)*4294967296=((x*2^32:Nat):Int):=by rw [Int.natCast_mul];rfl
  rw [e,u64_or_nat _ _ (by omega) (by omega),← Nat.shiftLeft_eq,← Nat.shiftLeft_add_eq_or_of_lt (show y < 2^32 by omega),Nat.shiftLeft_eq]
  congr 1;omega
def SmallRel (W:World) (g:Nat) (la:List Nat) (d k r:Nat) (wr:World):Prop:=
  (∃ ql:List Nat,ql.length=la.length∧allW ql∧Own wr g (wcells ql)∧val ql*d+4294967296^k*r+val (la.take k)=val la∧∀ i,i < k→ql.getD i 0=0)∧Below W.heap.size W wr
def GrewAbs2 (n r:Nat) (w:World) (e:Ending) (w':World):Prop:=∃ v,e=.returned (T2 v (U32 r))∧Abs w' v n∧Below w.heap.size w w'

theorem small_any (va : Value) (n d : Nat) (w : World) (hA : Abs w va n) (hn : n < 4294967296 ^ 250) (hd0 : 0 < d) (hd1 : d < 4294967296) : Calls Tryz.prog 146 #[va, U32 d] w (GrewAbs2 (n / d) (n % d) w) := by
  obtain ⟨la,hA,ca⟩:=hA;have h1:=can_len ca hn;clear hn;obtain ⟨i0,hi,hz0,hz1,hz2⟩:=info_parts infoWd;obtain ⟨a,cap,rfl,hn1,hl1,h01,hr1⟩:=hA;clear hl1 h01;have CA:=Lib.hid ca;clear ca;go_enter Tryz.func146,Tryz.ntmps146
  go_wp2_with (refine wpList_make_full _ rfl (.tmp 10) (.tmp 10) 124 rfl w.heap.size 109 i0 (.int .u32 0) 1 Tryz.underlying124 hi hz0 hz1 .i64 .i64 _ _ la.length rfl rfl (by simp) (by simp) (by rw [hz2];omega) (by unfold maxLen;omega) (Nat.le_refl _) ?_;intro w2 hown hgrow;have hbel:=Below.grown (B:=w.heap.size) (Below.refl _ w) hgrow (Nat.le_refl _) (fun k hk=>by cases hk);have hO:=Own.of_owns (made_int hown);clear hown hgrow)
  have hD:Hid (SmallRel w w.heap.size la d la.length 0 w2):=⟨⟨List.replicate la.length 0,by simp,allW_replicate _,by unfold wcells;rw [List.map_replicate];exact hO,by rw [val_replicate,List.take_of_length_le (Nat.le_refl _)];simp,fun i _=>getD_replicate' _ i⟩,hbel⟩;clear hO hbel
  go_loopw [7,8] (fun rv i wr=>∃ k r:Nat,k≤la.length∧r < d∧i=I ((k:Int)-1)∧rv=.int .u64 r∧Hid (SmallRel w w.heap.size la d k r wr)) (fun _ i _=>(intOf i+1).toNat)
  case atStart=>exact ⟨la.length,0,Nat.le_refl _,hd0,rfl,rfl,hD⟩
  case round=>
    obtain ⟨k,r,hk,hr,rfl,rfl,hD⟩:=hrel;obtain ⟨⟨ql,hql,hqw,hO,hv,hz⟩,hbw⟩:=hD.out;cases k with
    | zero=>
      obtain ⟨q1,q2⟩:=div_of (q:=val ql) (d:=d) (r:=r) (n:=n) (by rw [← CA.out.1,← hv];simp [val]) hr
      have hfin:Hid (Sl wr (.slice (some ⟨w.heap.size,0,none⟩) la.length la.length) 1 ql.length (wcells ql)):=by
        have h2:=hO.sl (n:=la.length) (cap:=la.length) (sz:=1) (by omega) (Nat.le_refl _) (by rw [wcells_len];omega);rw [hql];exact h2
      have T:=Lib.hid (trim_any _ ql _ hfin.out hqw);rw [← q1] at T;have Q2:=Lib.hid q2;have hr32:(r:Int)%4294967296=(r:Int):=by omega
      have HR:=Lib.hid hr32;clear hfin q1 q2 hO hv hD hqw hz hr1 hr32
      go_wp2_with fail
      refine T.out.mono ?_;rintro e w3 ⟨v',rfl,hA,rfl⟩;go_wp2;go_ret2;exact ⟨_,by rw [Q2.out];rfl,hA,hbw⟩
    | succ k=>
      rw [show (((k+1:Nat):Int)-1)=(k:Int) by omega];have hi0:(0:Int)≤(k:Int):=by omega
      have hi1:(k:Int) < (la.length:Int):=by omega
      obtain ⟨b,off,rfl,hb,hcell⟩:=hr1.resolve_left (by omega);have ea:=(hbw.cell (p:=⟨b,off+k,none⟩) hb).trans (hcell k (by rw [wcells_len];omega));rw [wcells_at (by omega)] at ea;have er:=hO.cell k (by rw [wcells_len];omega);rw [wcells_at (by omega),Nat.zero_add] at er;have fr:=hO.frozen k;have hx:=allW_at CA.out.2.1 k;have hst:=Lib.hid (small_step (show k < la.length by omega) (show k < ql.length by omega) (hz k (by omega)) hv);have HO:=Lib.hid hO;have HZ:=Lib.hid hz;clear hcell hr1 hO hv hz hD;generalize la.getD k 0=x at *;generalize ql.getD k 0=z at *;have hor:=Lib.hid (or64s r x (by omega) hx);go_wp2;rw [hor.out]
      have hdl:(4294967296*r+x) / d < 4294967296:=by
        refine Nat.div_lt_of_lt_mul ?_;omega
      have hml:(4294967296*r+x)%d < d:=Nat.mod_lt _ hd0;have e1:(((4294967296*r+x:Nat):Int)).tmod (d:Int)=(((4294967296*r+x)%d:Nat):Int):=rfl;have e2:(((4294967296*r+x:Nat):Int)).tdiv (d:Int)=(((4294967296*r+x) / d:Nat):Int):=rfl;rw [e1,e2]
      have e3:∀ Q:Nat,Q < 4294967296→IntKind.u64.wrap (Q:Int)%4294967296=(Q:Int):=fun Q hQ=>by
        show (Q:Int)%18446744073709551616%4294967296=_;omega
      rw [e3 _ hdl];exact ⟨⟨k,(4294967296*r+x)%d,by omega,hml,rfl,rfl,⟨⟨ql.set k ((4294967296*r+x) / d),by rw [List.length_set];exact hql,allW_set hqw _ hdl,by rw [wcells_set];exact HO.out.set k _,hst.out,fun j hj=>by rw [getD_set_ne (by omega)];exact HZ.out j (by omega)⟩,hbw.setCell (p:=⟨w.heap.size,k,none⟩) (Nat.le_refl _) _⟩⟩,by simp [intOf];try omega⟩
end
end Go.Proofs.YtfhmcahfjoliiaaGreatDoor
