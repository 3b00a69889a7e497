/- great numbers: right · great numbers: division: plain laws, and the short ways -/
import Derived.Test.YtfhmcahfjoliiaaGreatDoorPk12
import Derived.Test.YtfhmcahfjoliiaaGreatDoorPk10
import Derived.Test.YtfhmcahfjoliiaaGreatDoorBigLen
import Derived.Deep.RegionWith
set_option maxRecDepth 20000
set_option maxHeartbeats 8000000
set_option linter.unusedSimpArgs false
set_option linter.unusedVariables false
namespace Go.Proofs.YtfhmcahfjoliiaaGreatDoor
section
open Go.RowKit
def RightRel (W:World) (g:Nat) (l:List Nat) (s k:Nat) (wr:World):Prop:=
  (∃ rl:List Nat,rl.length=l.length∧allW rl∧Own wr g (wcells rl)∧∀ i,i < k→rl.getD i 0=rword l s i)∧Below W.heap.size W wr
theorem right_done {l rl:List Nat} {s:Nat} (h1:rl.length=l.length) (h:∀ i,i < l.length→rl.getD i 0=rword l s i):rl=(List.range l.length).map (rword l s):=by
  apply List.ext_getElem
  · simp [h1]
  · intro i h2 h3
    have:=h i (by omega);rw [List.getD_eq_getElem?_getD,List.getElem?_eq_getElem h2] at this;simpa using this
theorem right_any (va : Value) (n x : Nat) (w : World) (hA : Abs w va n) (hn : n < 4294967296 ^ 240) (hx : x < 3000) : Calls Tryz.prog 148 #[va, .int .u64 x] w (GrewAbs (n / 2 ^ x) w) := by
  obtain ⟨la,hA,ca⟩:=hA;have h1:=can_len ca hn;clear hn;obtain ⟨q,s,hs,hqs⟩:∃ q s,s < 32∧x=32*q+s:=⟨x / 32,x%32,Nat.mod_lt _ (by decide),by omega⟩;have hq:q < 100:=by omega
  have e1:(x:Int) / 32=(q:Int):=by omega
  have e2:(x:Int)%32=(s:Int):=by omega
  have hfin:n / 2^x=val (la.drop q) / 2^s:=by
    rw [val_drop la ca.2.1,ca.1,hqs,Nat.pow_add,Nat.pow_mul,Nat.div_div_eq_div_mul]
  rw [hfin];clear hfin hqs;obtain ⟨i0,hi,hz0,hz1,hz2⟩:=info_parts infoWd;obtain ⟨a,cap,rfl,hn1,hl1,h01,hr1⟩:=hA;clear hl1 h01
  by_cases hql:la.length≤q
  · have h0:=Lib.hid (show val (la.drop q) / 2^s=0 by rw [List.drop_of_length_le hql];simp [val])
    have t1:(la.length:Int)≤(q:Int):=by omega
    clear hr1 ca;go_enter Tryz.func148,Tryz.ntmps148;go_wp2;go_ret;exact ⟨_,rfl,by rw [h0.out];exact ⟨[],Sl.nil _ _,rfl,by simp [allW],by simp⟩,Below.refl _ _⟩
  · have t1:¬ (la.length:Int)≤(q:Int):=by omega
    obtain ⟨m,hm⟩:∃ m,la.length=q+m∧0 < m:=⟨la.length-q,by omega,by omega⟩;obtain ⟨hm,hm0⟩:=hm;have hdl:(la.drop q).length=m:=by rw [List.length_drop];omega
    have e3:(la.length:Int)-(q:Int)=(m:Int):=by omega
    obtain ⟨b,off,rfl,hb,hcell⟩:=hr1.resolve_left (by omega);have CA:=Lib.hid ca;have HC:=Lib.hid hcell;have HD:=Lib.hid hdl;have hm1:la.length≤q+m:=by omega
    have hm2:q+m≤la.length:=by omega
    clear ca hr1 hcell hdl hm;go_enter Tryz.func148,Tryz.ntmps148
    go_wp2_with (refine wpList_make_full _ rfl (.tmp 22) (.tmp 22) 124 rfl w.heap.size 109 i0 (.int .u32 0) 1 Tryz.underlying124 hi hz0 hz1 .i64 .i64 _ _ m rfl rfl (by simp) (by simp) (by rw [hz2];omega) (by unfold maxLen;omega) (Nat.le_refl _) ?_;intro w2 hown hgrow;have hbel:=Below.grown (B:=w.heap.size) (Below.refl _ w) hgrow (Nat.le_refl _) (fun k hk=>by cases hk);have hO:=Own.of_owns (made_int hown);clear hown hgrow)
    have hD:Hid (RightRel w w.heap.size (la.drop q) s 0 w2):=⟨⟨List.replicate m 0,by rw [HD.out];simp,allW_replicate _,by unfold wcells;rw [List.map_replicate];exact hO,fun i hi=>by omega⟩,hbel⟩;clear hO hbel
    go_loopw [8,9] (fun i _ wr=>∃ k:Nat,k≤m∧i=I k∧Hid (RightRel w w.heap.size (la.drop q) s k wr)) (fun i _ _=>m-(intOf i).toNat)
    case atStart=>exact ⟨0,Nat.zero_le _,rfl,hD⟩
    case round=>
      obtain ⟨k,hk,rfl,hD⟩:=hrel;obtain ⟨⟨rl,hrl,hrw,hO,hv⟩,hbw⟩:=hD.out;rw [HD.out] at hrl;have hi0:(0:Int)≤(k:Int):=by omega
      by_cases hlt:k < m
      · have hi1:(k:Int) < (m:Int):=by omega
        have ea:=(hbw.cell (p:=⟨b,off+(k+q),none⟩) hb).trans (HC.out (k+q) (by rw [wcells_len];omega));rw [wcells_at (by omega)] at ea;have er:=hO.cell k (by rw [wcells_len];omega);rw [wcells_at (by omega),Nat.zero_add] at er;have fr:=hO.frozen k;have hx:=allW_at CA.out.2.1 (k+q)
        have hrwd:=Lib.hid (show rword (la.drop q) s k=(la.getD (k+q) 0+4294967296*la.getD (k+q+1) 0) / 2^s%4294967296 by
          unfold rword;rw [getD_drop',getD_drop',Nat.add_comm q k,show q+(k+1)=k+q+1 by omega])
        have HO:=Lib.hid hO;have HV:=Lib.hid hv;have s0:(0:Int)≤(k:Int)+(q:Int):=by omega
        have s1:(k:Int)+(q:Int) < (la.length:Int):=by omega
        have s2:((k:Int)+(q:Int)).toNat=k+q:=by omega
        by_cases hnx:k+q+1 < la.length
        · have eb:=(hbw.cell (p:=⟨b,off+(k+q+1),none⟩) hb).trans (HC.out (k+q+1) (by rw [wcells_len];omega))
          rw [wcells_at (by omega)] at eb;have hy:=allW_at CA.out.2.1 (k+q+1);have s3:(0:Int)≤(k:Int)+(q:Int)+1:=by omega
          have s4:(k:Int)+(q:Int)+1 < (la.length:Int):=by omega
          have s5:((k:Int)+(q:Int)+1).toNat=k+q+1:=by omega
          clear hO hv hD;generalize la.getD (k+q) 0=y at *;generalize la.getD (k+q+1) 0=z at *;have HOR:=Lib.hid (or64t y z hx hy);go_wp2;rw [HOR.out,div_up];generalize (y+4294967296*z) / 2^s=R at *;have e4:((R:Nat):Int)%4294967296=((R%4294967296:Nat):Int):=by omega
          rw [e4];refine ⟨⟨k+1,by omega,by go_num,⟨⟨rl.set k (R%4294967296),by rw [List.length_set,HD.out];exact hrl,allW_set hrw _ (by omega),by rw [wcells_set];exact HO.out.set k _,fun j hj=>?_⟩,hbw.setCell (p:=⟨w.heap.size,k,none⟩) (Nat.le_refl _) _⟩⟩,by simp [intOf];omega⟩
          by_cases hjk:k=j
          · subst hjk;rw [getD_set_selfB (by omega)];exact hrwd.out.symm
          · rw [getD_set_ne hjk];exact HV.out j (by omega)
        · have h0:la.getD (k+q+1) 0=0:=by rw [List.getD_eq_getElem?_getD,List.getElem?_eq_none (by omega)];rfl
          rw [h0] at hrwd;have s4:¬ (k:Int)+(q:Int)+1 < (la.length:Int):=by omega
          clear hO hv hD h0;generalize la.getD (k+q) 0=y at *;go_wp2;rw [Nat.mul_zero,Nat.add_zero] at hrwd;rw [div_up];generalize y / 2^s=R at *;have e4:((R:Nat):Int)%4294967296=((R%4294967296:Nat):Int):=by omega
          rw [e4];refine ⟨⟨k+1,by omega,by go_num,⟨⟨rl.set k (R%4294967296),by rw [List.length_set,HD.out];exact hrl,allW_set hrw _ (by omega),by rw [wcells_set];exact HO.out.set k _,fun j hj=>?_⟩,hbw.setCell (p:=⟨w.heap.size,k,none⟩) (Nat.le_refl _) _⟩⟩,by simp [intOf];omega⟩
          by_cases hjk:k=j
          · subst hjk;rw [getD_set_selfB (by omega)];exact hrwd.out.symm
          · rw [getD_set_ne hjk];exact HV.out j (by omega)
      · have hkl:k=m:=by omega
        have hge:(m:Int)≤(k:Int):=by omega
        have hsum:val rl=val (la.drop q) / 2^s:=by
          rw [right_done (l:=la.drop q) (s:=s) (by rw [HD.out];exact hrl) (fun i hi=>hv i (by rw [HD.out] at hi;omega)),right_val s hs _ (allW_drop CA.out.2.1 q)]
        have hfin:Hid (Sl wr (.slice (some ⟨w.heap.size,0,none⟩) m m) 1 rl.length (wcells rl)):=by
          have h2:=hO.sl (n:=m) (cap:=m) (sz:=1) (by omega) (Nat.le_refl _) (by rw [wcells_len];omega);rw [hrl];exact h2
        have T:=Lib.hid (trim_any _ rl _ hfin.out hrw);rw [hsum] at T;clear hfin hsum hO hv hD hrw hkl HC
        go_wp2_with fail
        refine T.out.mono ?_;rintro e w3 ⟨v',rfl,hA,rfl⟩;go_wp2;go_ret;exact ⟨_,rfl,hA,hbw⟩
end
section
open Go.RowKit

theorem val_inj:∀ {l r:List Nat},l.length=r.length→allW l→allW r→val l=val r→l=r
  | [],[],_,_,_,_=>rfl
  | [],_::_,h,_,_,_=>by simp at h
  | _::_,[],h,_,_,_=>by simp at h
  | a::l,b::r,h,hl,hr,hv=>by
    have ha:=hl a (by simp)
    have hb:=hr b (by simp)
    simp only [val] at hv
    have h1:a=b:=by omega
    have h2:val l=val r:=by omega
    rw [h1,val_inj (by simpa using h) (fun x hx=>hl x (by simp [hx])) (fun x hx=>hr x (by simp [hx])) h2]
theorem can_unique {l r:List Nat} {n:Nat} (h:Can l n) (k:Can r n):l=r:=by
  refine val_inj ?_ h.2.1 k.2.1 (h.1.trans k.1.symm);have h1:¬ l.length < r.length:=fun hlt=>Nat.lt_irrefl _ (can_longer h k hlt);have h2:¬ r.length < l.length:=fun hlt=>Nat.lt_irrefl _ (can_longer k h hlt);omega
theorem can_pow31 {l:List Nat} {p:Nat} (h:Can l (2147483648*4294967296^p)):l.length=p+1∧(∀ i,i < p→l.getD i 0=0)∧l.getD p 0=2147483648:=by
  have hc:Can (List.replicate p 0++[2147483648]) (2147483648*4294967296^p):=by
    refine ⟨?_,?_,?_⟩
    · rw [val_append,val_replicate,List.length_replicate];simp [val,Nat.mul_comm]
    · intro d hd
      simp only [List.mem_append,List.mem_replicate,List.mem_singleton] at hd;omega
    · intro k hk
      have:k=p:=by simp at hk;omega
      subst this;rw [List.getD_eq_getElem?_getD,List.getElem?_append_right (by simp)];simp
  obtain rfl:=can_unique h hc;refine ⟨by simp,fun i hi=>?_,?_⟩
  · rw [List.getD_eq_getElem?_getD,List.getElem?_append_left (by simpa using hi)]
    simp [hi]
  · rw [List.getD_eq_getElem?_getD,List.getElem?_append_right (by simp)]
    simp
theorem can_one {l:List Nat} {n:Nat} (h:Can l n) (h0:0 < n) (h1:n < 4294967296):l=[n]:=
  can_unique h ⟨by simp [val],by intro d hd;simp at hd;omega,by intro k hk;simp at hk;subst hk;simp;omega⟩

/-- the quotient and the rest, in new memory -/
def GrewQR (q r:Nat) (w:World) (e:Ending) (w':World):Prop:=∃ v1 v2,e=.returned (T2 v1 v2)∧Abs w' v1 q∧Abs w' v2 r∧Below w.heap.size w w'

theorem div_less (va vb:Value) (n m:Nat) (w:World) (hA:Abs w va n) (hB:Abs w vb m) (hn:n < 4294967296^240) (hm:0 < m) (h:n < m):Calls Tryz.prog 125 #[va,vb] w (GrewQR (n / m) (n%m) w):=by
  have C:=Lib.hid (cmp_any va vb n m w hA hB);rw [cmpI_lt h] at C;have Tw:=Lib.hid (fun W hW=>twin_any va n W hW (Nat.lt_of_lt_of_le hn (Nat.pow_le_pow_right (by decide) (by decide))));rw [Nat.div_eq_of_lt h,Nat.mod_eq_of_lt h];have HA:=hA;obtain ⟨lb,hB,cb⟩:=hB
  have hl0:lb.length≠0:=by
    intro h;have:=cb.1;rw [List.length_eq_zero_iff.1 h] at this;simp [val] at this;omega
  have t1:((lb.length:Int)==0)=false:=by rw [beq_eq_false_iff_ne];omega
  obtain ⟨la,hA,ca⟩:=hA;obtain ⟨a,cap,rfl,-⟩:=hA;obtain ⟨a2,cap2,rfl,-⟩:=hB;have HH:=Lib.hid HA;clear ca cb HA h hm hn;go_enter Tryz.func125,Tryz.ntmps125
  go_wp2_with fail
  refine C.out.mono ?_;rintro e w1 ⟨rfl,k1⟩
  go_wp2_with fail
  refine (Tw.out _ (HH.out.below k1)).mono ?_;rintro e w2 ⟨v,rfl,h2,k2⟩;go_wp2;go_ret2;exact ⟨_,_,rfl,⟨[],Sl.nil _ _,rfl,by simp [allW],by simp⟩,h2,k1.trans (k2.mono k1.size)⟩

theorem div_two (va vb:Value) (n m:Nat) (w:World) (hA:Abs w va n) (hB:Abs w vb m) (hn:n < 18446744073709551616) (hm:0 < m) (h:m≤n):Calls Tryz.prog 125 #[va,vb] w (GrewQR (n / m) (n%m) w):=by
  have C:=Lib.hid (cmp_any va vb n m w hA hB);have P1:=Lib.hid (fun W hW=>plain_any va n W hW hn);have P2:=Lib.hid (fun W hW=>plain_any vb m W hW (by omega));have W1:=Lib.hid (fun W=>words_big (n / m) W (Nat.lt_of_le_of_lt (Nat.div_le_self _ _) hn));have W2:=Lib.hid (fun W=>words_big (n%m) W (Nat.lt_of_le_of_lt (Nat.mod_le _ _) hn));have hc:0≤cmpI n m:=by unfold cmpI;split<;>(try split)<;>omega
  have HA:=Lib.hid hA;have HB:=Lib.hid hB;obtain ⟨lb,hB,cb⟩:=hB
  have hl0:lb.length≠0:=by
    intro h;have:=cb.1;rw [List.length_eq_zero_iff.1 h] at this;simp [val] at this;omega
  have t1:((lb.length:Int)==0)=false:=by rw [beq_eq_false_iff_ne];omega
  obtain ⟨la,hA,ca⟩:=hA;have hl2:=can_len (k:=2) ca (by simpa using hn);have t2:(la.length:Int)≤2:=by omega
  obtain ⟨a,cap,rfl,-⟩:=hA;obtain ⟨a2,cap2,rfl,-⟩:=hB;have e1:(n:Int) / (m:Int)=((n / m:Nat):Int):=rfl;have e2:(n:Int)%(m:Int)=((n%m:Nat):Int):=rfl;have hq:n / m < 18446744073709551616:=Nat.lt_of_le_of_lt (Nat.div_le_self _ _) hn;have hr:n%m < 18446744073709551616:=Nat.lt_of_le_of_lt (Nat.mod_le _ _) hn;have hm0:¬ (m:Int)=0:=by omega
  have hm1:(m:Int) < 18446744073709551616:=by omega
  generalize n / m=Q at *;generalize n%m=R at *;generalize cmpI n m=cc at *;have e3:IntKind.u64.wrap (Q:Int)=(Q:Int):=by show (Q:Int)%18446744073709551616=_;omega
  have e4:IntKind.u64.wrap (R:Int)=(R:Int):=by show (R:Int)%18446744073709551616=_;omega
  have e5:(n:Int).tdiv (m:Int)=(Q:Int):=e1;have e6:(n:Int).tmod (m:Int)=(R:Int):=e2;have X:=Lib.hid (And.intro e1 (And.intro e2 (And.intro e3 (And.intro e4 (And.intro e5 (And.intro e6 hm0))))));clear ca cb h hl0 e1 e2 hq hr hm0 hm1 hn e3 e4 e5 e6;go_enter Tryz.func125,Tryz.ntmps125
  go_wp2_with fail
  refine C.out.mono ?_;rintro e w1 ⟨rfl,k1⟩
  go_wp2_with fail
  refine (P1.out _ (HA.out.below k1)).mono ?_;rintro e w' ⟨rfl,rfl⟩
  go_wp2_with fail
  refine (P2.out _ (HB.out.below k1)).mono ?_;rintro e w' ⟨rfl,rfl⟩;obtain ⟨e1,e2,e3,e4,e5,e6,hm0⟩:=X.out;clear X P1 P2 C HA HB;go_wp2
  go_region_with (first
    | ((with_reducible refine (W1.out _).mono ?_);rintro e wQ ⟨vQ,rfl,hQ,kQ⟩;have kC:Below w.heap.size w wQ:=Below.trans (by first | assumption | (apply Below.drew;assumption)) (kQ.mono (Below.size (by first | assumption | (apply Below.drew;assumption)))))
    | ((with_reducible refine (W2.out _).mono ?_);rintro e wR ⟨vR,rfl,hR,kR⟩;have kC:Below w.heap.size w wR:=Below.trans (by first | assumption | (apply Below.drew;assumption)) (kR.mono (Below.size (by first | assumption | (apply Below.drew;assumption))))))
  all_goals
    go_wp2;go_ret2
    first
      | exact ⟨_,_,rfl,hQ.below kR,hR,kC⟩
      | exact ⟨_,_,rfl,hQ,hR.below kQ,kC⟩

theorem div_one (va vb:Value) (n m:Nat) (w:World) (hA:Abs w va n) (hB:Abs w vb m) (hn:n < 4294967296^240) (hm:0 < m) (hm1:m < 4294967296) (hb:18446744073709551616≤n):Calls Tryz.prog 125 #[va,vb] w (GrewQR (n / m) (n%m) w):=by
  have C:=Lib.hid (cmp_any va vb n m w hA hB);have Sm:=Lib.hid (fun W hW=>small_any va n m W hW (Nat.lt_of_lt_of_le hn (Nat.pow_le_pow_right (by decide) (by decide))) hm hm1);have hc:0≤cmpI n m:=by unfold cmpI;split<;>(try split)<;>omega
  have hr:n%m < 4294967296:=Nat.lt_trans (Nat.mod_lt _ hm) hm1;have Tr:=Lib.hid (fun v W (hW:Sl W v 1 [n%m].length (wcells [n%m]))=>trim_any v [n%m] W hW (by intro d hd;simp at hd;omega));have hv1:val [n%m]=n%m:=by simp [val]
  rw [hv1] at Tr;have HA:=Lib.hid hA;obtain ⟨lb,hB,cb⟩:=hB;obtain rfl:=can_one cb hm hm1;obtain ⟨la,hA,ca⟩:=hA
  have hl2:2 < la.length:=by
    refine Decidable.byContradiction fun h=>?_
    have:=can_lt ca (show la.length≤2 by omega);simp at this;omega
  have t2:¬ (la.length:Int)≤2:=by omega
  obtain ⟨a,cap,rfl,-⟩:=hA;obtain ⟨a2,cap2,rfl,hn2,hll,h02,hr2⟩:=hB;obtain ⟨b2,off2,rfl,hb2,hcell⟩:=hr2.resolve_left (by simp);have eb:=hcell 0 (by simp [wcells]);simp only [wcells,List.map_cons,List.map_nil,List.getD_cons_zero,Nat.add_zero] at eb;generalize cmpI n m=cc at *;clear ca cb hl2 hcell hr2 hll h02 hb hv1 hn;go_enter Tryz.func125,Tryz.ntmps125
  go_wp2_with fail
  refine C.out.mono ?_;rintro e w1 ⟨rfl,k1⟩;have eb1:=(k1.cell (p:=⟨b2,off2,none⟩) hb2).trans eb
  go_wp2_with fail
  refine (Sm.out _ (HA.out.below k1)).mono ?_;rintro e w2 ⟨v,rfl,h2,k2⟩
  have HS:Hid (Sl (w2.alloc (.cells #[U32 ((n%m:Nat):Int)] 109)) (.slice (some ⟨w2.heap.size,0,none⟩) 1 1) 1 [n%m].length (wcells [n%m])):=
    Sl.of_owns (owns_lit w2 (wcells [n%m]) 109 1 1 rfl (by unfold maxLen;omega)) (by simp)
  have k:=k1.trans (k2.mono k1.size);have h3:=h2.below (boxed_below w2 (.cells #[U32 ((n%m:Nat):Int)] 109));obtain ⟨l3,s3,c3⟩:=h3;obtain ⟨a3,cap3,rfl,-⟩:=id s3;have H3:=Lib.hid (⟨l3,s3,c3⟩:Abs (w2.alloc (.cells #[U32 ((n%m:Nat):Int)] 109)) (.slice a3 l3.length cap3) (n / m));generalize n%m=R at *;clear s3 c3 h2 k1 k2 eb1
  go_wp2_with fail
  refine (Tr.out _ _ HS.out).mono ?_;rintro e w3 ⟨v',rfl,hA,rfl⟩;go_wp2;go_ret2;exact ⟨_,_,rfl,H3.out,hA,k.alloc k.size _⟩
end
end Go.Proofs.YtfhmcahfjoliiaaGreatDoor
