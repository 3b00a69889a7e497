/- great numbers: left and right by bits: the plain laws · great numbers: left -/
import Derived.Test.YtfhmcahfjoliiaaGreatDoorBigAdd
set_option maxRecDepth 20000
set_option maxHeartbeats 8000000
set_option linter.unusedSimpArgs false
set_option linter.unusedVariables false
namespace Go.Proofs.YtfhmcahfjoliiaaGreatDoor
section
open Go.RowKit

/-! left: a word moved up by s bits joins what came up from below -/
theorem or_up (t v s:Nat) (ht:t < 2^s):t ||| (v*2^s)=v*2^s+t:=by
  rw [Nat.or_comm,← Nat.shiftLeft_eq,← Nat.shiftLeft_add_eq_or_of_lt ht]
/-- one word: what comes up from below is less than 2^s -/
theorem left_word (x t s:Nat) (hs:s < 32) (hx:x < 4294967296) (ht:t < 2^s):
    (t ||| (x*2^s%4294967296))=x*2^s%4294967296+t∧x*2^s%4294967296+t < 4294967296∧x*2^s / 4294967296 < 2^s∧x*2^s < 18446744073709551616:=by
  have hp:2^s*2^(32-s)=4294967296:=by rw [← Nat.pow_add,show s+(32-s)=32 by omega]
  have hm:x*2^s%4294967296=(x%2^(32-s))*2^s:=by
    rw [← hp,Nat.mul_comm x,Nat.mul_mod_mul_left,Nat.mul_comm]
  have h1:x%2^(32-s)+1≤2^(32-s):=Nat.mod_lt _ (Nat.two_pow_pos _);have h2:=Nat.mul_le_mul_right (2^s) h1;rw [Nat.add_mul,Nat.one_mul,Nat.mul_comm (2^(32-s)),hp] at h2;have h3:x*2^s < 4294967296*2^s:=Nat.mul_lt_mul_of_pos_right hx (Nat.two_pow_pos _);have h4:2^s < 2^32:=Nat.pow_lt_pow_right (by decide) hs;refine ⟨by rw [hm,or_up _ _ _ ht],by rw [hm];omega,?_,?_⟩
  · exact Nat.div_lt_of_lt_mul h3
  · have:4294967296*2^s≤4294967296*2^32:=Nat.mul_le_mul_left _ (by omega)
    omega
theorem left_step {la rl:List Nat} {k w s t:Nat} (hk:k < la.length) (hr:k+w+1 < rl.length) (h:val rl=4294967296^w*(val (la.take k)*2^s)) (ht:rl.getD (k+w) 0=t) (h0:rl.getD (k+w+1) 0=0):
    val ((rl.set (k+w) (la.getD k 0*2^s%4294967296+t)).set (k+w+1) (la.getD k 0*2^s / 4294967296))=4294967296^w*(val (la.take (k+1))*2^s):=by
  have h1:=val_set (l:=rl) (k:=k+w) (la.getD k 0*2^s%4294967296+t) (by omega);have h2:=val_set (l:=rl.set (k+w) (la.getD k 0*2^s%4294967296+t)) (k:=k+w+1) (la.getD k 0*2^s / 4294967296) (by rw [List.length_set];omega);rw [getD_set_ne (by omega),h0,Nat.mul_zero,Nat.add_zero] at h2;rw [ht,Nat.mul_add] at h1;rw [h2,val_take_succ hk,Nat.add_mul,Nat.mul_add,← h,Nat.pow_succ (n:=4294967296) (m:=k+w)];have h3:=carry_step (P:=4294967296^(k+w)) (s:=la.getD k 0*2^s)
  have h4:4294967296^w*(4294967296^k*la.getD k 0*2^s)=4294967296^(k+w)*(la.getD k 0*2^s):=by
    rw [Nat.pow_add,Nat.mul_comm (4294967296^k) (4294967296^w),Nat.mul_assoc (4294967296^k),Nat.mul_assoc]
  rw [h4];omega

theorem or64t (x y:Nat) (hx:x < 4294967296) (hy:y < 4294967296):bits .or .u64 (x:Int) ((y:Int)*4294967296)=((x+4294967296*y:Nat):Int):=by
  have e:(y:Int)*4294967296=((y*2^32:Nat):Int):=by rw [Int.natCast_mul];rfl
  rw [e,u64_or_nat _ _ (by omega) (by omega),Nat.or_comm,← Nat.shiftLeft_eq,← Nat.shiftLeft_add_eq_or_of_lt (show x < 2^32 by omega),Nat.shiftLeft_eq]
  congr 1;omega
theorem wrap_up (y s:Nat) (h:y*2^s < 18446744073709551616):IntKind.u64.wrap ((y:Int)*2^s)=((y*2^s:Nat):Int):=by
  have e:(2:Int)^s=((2^s:Nat):Int):=by rw [Int.natCast_pow];rfl
  rw [e,← Int.natCast_mul];generalize y*2^s=z at *;show (z:Int)%18446744073709551616=_;omega
theorem div_up (y s:Nat):(y:Int) / 2^s=((y / 2^s:Nat):Int):=by
  have e:(2:Int)^s=((2^s:Nat):Int):=by rw [Int.natCast_pow];rfl
  rw [e];rfl
/-! right -/
def rword (l:List Nat) (s i:Nat):Nat:=(l.getD i 0+4294967296*l.getD (i+1) 0) / 2^s%4294967296
theorem getD_head (l:List Nat):l.getD 0 0%4294967296=val l%4294967296:=by
  cases l with
  | nil=>rfl
  | cons d l=>simp only [val,List.getD_cons_zero];omega
theorem right_val (s : Nat) (hs : s < 32) : ∀ l : List Nat, allW l → val ((List.range l.length).map (rword l s)) = val l / 2 ^ s
  | [],_=>by simp [val]
  | d :: l, h => by
    have ih:=right_val s hs l (fun x hx=>h x (by simp [hx]))
    have hd:=h d (by simp)
    rw [List.length_cons,List.range_succ_eq_map,List.map_cons,List.map_map]
    have e:(rword (d::l) s ∘ Nat.succ)=rword l s:=by
      funext i;simp [rword,Function.comp]
    rw [e];simp only [val];rw [ih];have hp:2^s*2^(32-s)=4294967296:=by rw [← Nat.pow_add,show s+(32-s)=32 by omega]
    have hps:0 < 2^s:=Nat.two_pow_pos s
    have e1:rword (d::l) s 0=(d+4294967296*val l) / 2^s%4294967296:=by
      simp only [rword,List.getD_cons_zero,List.getD_cons_succ,Nat.zero_add];have hh:=getD_head l
      -- both are the same below 2^64
      have k1:∀ y,(d+4294967296*y) / 2^s%4294967296=d / 2^s+(y%2^s)*2^(32-s):=by
        intro y;have:d+4294967296*y=d+2^s*(2^(32-s)*y):=by rw [← Nat.mul_assoc,hp]
        rw [this,Nat.add_mul_div_left _ _ hps]
        have hy:2^(32-s)*y=2^(32-s)*(y%2^s)+4294967296*(y / 2^s):=by
          have:=Nat.mod_add_div y (2^s)
          conv=>lhs;rw [← this]
          rw [Nat.mul_add,← Nat.mul_assoc,Nat.mul_comm (2^(32-s)) (2^s),hp]
        rw [hy,← Nat.add_assoc,Nat.add_mul_mod_self_left,Nat.mul_comm (2^(32-s))];apply Nat.mod_eq_of_lt
        have h1:d / 2^s < 2^(32-s):=by
          apply Nat.div_lt_of_lt_mul;rw [hp];exact hd
        have h2:(y%2^s+1)*2^(32-s)≤2^s*2^(32-s):=Nat.mul_le_mul_right _ (Nat.mod_lt _ hps);rw [hp,Nat.add_mul,Nat.one_mul] at h2;omega
      rw [k1,k1]
      congr 2
      have hb:(4294967296:Nat)=2^s*2^(32-s):=hp.symm;have hm:∀ z,z%2^s=z%4294967296%2^s:=fun z=>by rw [hb,Nat.mod_mul_right_mod]
      rw [hm,hh,← hm]
    rw [e1]
    have e2:(d+4294967296*val l) / 2^s / 4294967296=val l / 2^s:=by
      rw [Nat.div_div_eq_div_mul,Nat.mul_comm (2^s) 4294967296,← Nat.div_div_eq_div_mul]
      congr 1
      omega
    rw [← e2];exact Nat.mod_add_div _ _
theorem val_drop (l:List Nat) (h:allW l) (k:Nat):val (l.drop k)=val l / 4294967296^k:=by
  by_cases hk:k≤l.length
  · rw [val_split l k hk,Nat.add_mul_div_left _ _ (Nat.pow_pos (by decide)),Nat.div_eq_of_lt]
    · simp
    · have:=val_lt (allW_take h k)
      rwa [List.length_take,Nat.min_eq_left hk] at this
  · rw [List.drop_of_length_le (by omega)]
    rw [Nat.div_eq_of_lt];rfl;exact Nat.lt_of_lt_of_le (val_lt h) (Nat.pow_le_pow_right (by decide) (by omega))
theorem allW_drop {l:List Nat} (h:allW l) (k:Nat):allW (l.drop k):=fun d hd=>h d (List.mem_of_mem_drop hd)
end
section
open Go.RowKit
def LeftRel (W:World) (g:Nat) (la:List Nat) (q s k:Nat) (wr:World):Prop:=
  (∃ rl:List Nat,rl.length=la.length+q+1∧allW rl∧Own wr g (wcells rl)∧val rl=4294967296^q*(val (la.take k)*2^s)∧rl.getD (k+q) 0 < 2^s∧∀ i,k+q < i→rl.getD i 0=0)∧Below W.heap.size W wr
theorem left_pos (va : Value) (n x : Nat) (w : World) (hA : Abs w va n) (hn : n < 4294967296 ^ 240) (hx : x < 3000) (hpos : 0 < n) : Calls Tryz.prog 147 #[va, .int .u64 x] w (GrewAbs (n * 2 ^ x) w) := by
  obtain ⟨la,hA,ca⟩:=hA;have h1:=can_len ca hn;clear hn
  have hl0:la.length≠0:=by
    intro h;have:=ca.1;rw [List.length_eq_zero_iff.1 h] at this;simp [val] at this;omega
  obtain ⟨q,s,hs,hqs⟩:∃ q s,s < 32∧x=32*q+s:=⟨x / 32,x%32,Nat.mod_lt _ (by decide),by omega⟩;have hq:q < 100:=by omega
  have e1:(x:Int) / 32=(q:Int):=by omega
  have e2:(x:Int)%32=(s:Int):=by omega
  have hfin:n*2^x=4294967296^q*(n*2^s):=by
    rw [hqs,Nat.pow_add,Nat.pow_mul,Nat.mul_left_comm]
  rw [hfin];clear hfin hqs hpos;obtain ⟨i0,hi,hz0,hz1,hz2⟩:=info_parts infoWd;obtain ⟨a,cap,rfl,hn1,hl1,h01,hr1⟩:=hA;clear hl1 h01;obtain ⟨b,off,rfl,hb,hcell⟩:=hr1.resolve_left hl0;have t1:((la.length:Int)==0)=false:=by rw [beq_eq_false_iff_ne];omega
  have CA:=Lib.hid ca;have HC:=Lib.hid hcell;clear ca hr1 hcell;go_enter Tryz.func147,Tryz.ntmps147
  go_wp2_with (refine wpList_make_full _ rfl (.tmp 22) (.tmp 22) 124 rfl w.heap.size 109 i0 (.int .u32 0) 1 Tryz.underlying124 hi hz0 hz1 .i64 .i64 _ _ (la.length+q+1) rfl rfl (by simp) (by simp) (by rw [hz2];omega) (by unfold maxLen;omega) (Nat.le_refl _) ?_;intro w2 hown hgrow;have hbel:=Below.grown (B:=w.heap.size) (Below.refl _ w) hgrow (Nat.le_refl _) (fun k hk=>by cases hk);have hO:=Own.of_owns (made_int hown);clear hown hgrow)
  have hD:Hid (LeftRel w w.heap.size la q s 0 w2):=⟨⟨List.replicate (la.length+q+1) 0,by simp,allW_replicate _,by unfold wcells;rw [List.map_replicate];exact hO,by rw [val_replicate];simp [val],by rw [getD_replicate'];exact Nat.two_pow_pos s,fun i _=>getD_replicate' _ i⟩,hbel⟩;clear hO hbel
  go_loopw [8,9] (fun i _ wr=>∃ k:Nat,k≤la.length∧i=I k∧Hid (LeftRel w w.heap.size la q s k wr)) (fun i _ _=>la.length-(intOf i).toNat)
  case atStart=>exact ⟨0,Nat.zero_le _,rfl,hD⟩
  case round=>
    obtain ⟨k,hk,rfl,hD⟩:=hrel;obtain ⟨⟨rl,hrl,hrw,hO,hv,ht,hz⟩,hbw⟩:=hD.out;have hi0:(0:Int)≤(k:Int):=by omega
    by_cases hlt:k < la.length
    · have hi1:(k:Int) < (la.length:Int):=by omega
      have ea:=(hbw.cell (p:=⟨b,off+k,none⟩) hb).trans (HC.out k (by rw [wcells_len];omega));rw [wcells_at hlt] at ea;have er:=hO.cell (k+q) (by rw [wcells_len];omega);rw [wcells_at (by omega),Nat.zero_add] at er;have er2:=hO.cell (k+q+1) (by rw [wcells_len];omega);rw [wcells_at (by omega),Nat.zero_add,hz _ (by omega)] at er2;have fr:=hO.frozen (k+q);have fr2:=hO.frozen (k+q+1);have hx:=allW_at CA.out.2.1 k;obtain ⟨m1,m2,m3,m4⟩:=left_word _ _ s hs hx ht;have hst:=Lib.hid (left_step (s:=s) hlt (show k+q+1 < rl.length by omega) hv rfl (hz _ (by omega)));have HO:=Lib.hid hO;have HZ:=Lib.hid hz;clear hO hv hz hD;generalize la.getD k 0=y at *;generalize rl.getD (k+q) 0=t at *;have M1:=Lib.hid m1;have s0:(0:Int)≤(k:Int)+(q:Int):=by omega
      have s1:(k:Int)+(q:Int) < (la.length:Int)+(q:Int)+1:=by omega
      have s2:((k:Int)+(q:Int)).toNat=k+q:=by omega
      have s3:(0:Int)≤(k:Int)+(q:Int)+1:=by omega
      have s4:(k:Int)+(q:Int)+1 < (la.length:Int)+(q:Int)+1:=by omega
      have s5:((k:Int)+(q:Int)+1).toNat=k+q+1:=by omega
      have s6:2^s < 4294967296:=Nat.pow_lt_pow_right (show 1 < 2 by decide) hs;have r1:=set_same;have r2:=set_off;clear m1;go_wp2;rw [wrap_up y s m4];generalize y*2^s=z at *;have e4:((z:Nat):Int)%4294967296=((z%4294967296:Nat):Int):=by omega
      have e5:((z:Nat):Int) / 4294967296%4294967296=((z / 4294967296:Nat):Int):=by omega
      have o1:=u32_or_nat t (z%4294967296) (by omega) (by omega)
      have o2:bits .or .u32 0 ((z / 4294967296:Nat):Int)=((z / 4294967296:Nat):Int):=by
        have:=u32_or_nat 0 (z / 4294967296) (by omega) (by omega);rw [Nat.zero_or] at this;exact this
      rw [e4,e5,o1,o2,M1.out];refine ⟨⟨k+1,by omega,by go_num,⟨⟨(rl.set (k+q) (z%4294967296+t)).set (k+q+1) (z / 4294967296),by rw [List.length_set,List.length_set];exact hrl,allW_set (allW_set hrw _ (by omega)) _ (by omega),by rw [wcells_set,wcells_set];exact (HO.out.set (k+q) _).set (k+q+1) _,hst.out,?_,?_⟩,(hbw.setCell (p:=⟨w.heap.size,k+q,none⟩) (Nat.le_refl _) _).setCell (p:=⟨w.heap.size,k+q+1,none⟩) (Nat.le_refl _) _⟩⟩,by simp [intOf];omega⟩
      · rw [show k+1+q=k+q+1 by omega,getD_set_selfB (by rw [List.length_set];omega)]
        exact m3
      · intro j hj
        rw [getD_set_ne (by omega),getD_set_ne (by omega)];exact HZ.out j (by omega)
    · have hkl:k=la.length:=by omega
      have hge:(la.length:Int)≤(k:Int):=by omega
      have hsum:val rl=4294967296^q*(n*2^s):=by
        rw [hv,hkl,List.take_of_length_le (Nat.le_refl _),CA.out.1]
      have hfin:Hid (Sl wr (.slice (some ⟨w.heap.size,0,none⟩) (la.length+q+1) (la.length+q+1)) 1 rl.length (wcells rl)):=by
        have h2:=hO.sl (n:=la.length+q+1) (cap:=la.length+q+1) (sz:=1) (by omega) (Nat.le_refl _) (by rw [wcells_len];omega);rw [hrl];exact h2
      have T:=Lib.hid (trim_any _ rl _ hfin.out hrw);rw [hsum] at T;clear hfin hsum hO hv hz hD hrw hkl HC ht
      go_wp2_with fail
      refine T.out.mono ?_;rintro e w3 ⟨v',rfl,hA,rfl⟩;go_wp2;go_ret;exact ⟨_,rfl,hA,hbw⟩
theorem left_any (va:Value) (n x:Nat) (w:World) (hA:Abs w va n) (hn:n < 4294967296^240) (hx:x < 3000):Calls Tryz.prog 147 #[va,.int .u64 x] w (GrewAbs (n*2^x) w):=by
  by_cases hpos:0 < n
  · exact left_pos va n x w hA hn hx hpos
  · have:n=0:=by omega
    subst this;obtain ⟨la,hA,ca⟩:=hA;obtain rfl:=can_zero ca;obtain ⟨a,cap,rfl,-⟩:=hA;rw [Nat.zero_mul];clear hpos ca hn;go_enter Tryz.func147,Tryz.ntmps147;go_wp2;go_ret;exact ⟨_,rfl,⟨[],Sl.nil _ _,rfl,by simp [allW],by simp⟩,Below.refl _ _⟩
end
end Go.Proofs.YtfhmcahfjoliiaaGreatDoor
