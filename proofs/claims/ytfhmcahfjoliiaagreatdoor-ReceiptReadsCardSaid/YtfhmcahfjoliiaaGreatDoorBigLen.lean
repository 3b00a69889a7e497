/- great numbers: length in bits, the lowest 64 bits -/
import Derived.Test.YtfhmcahfjoliiaaGreatDoorPk10
set_option maxRecDepth 20000
set_option maxHeartbeats 8000000
set_option linter.unusedSimpArgs false
set_option linter.unusedVariables false
namespace Go.Proofs.YtfhmcahfjoliiaaGreatDoor
open Go.RowKit

def blen:Nat→Nat
  | 0=>0
  | n+1=>Nat.log2 (n+1)+1
theorem blen_half (t:Nat) (h:t≠0):blen t=blen (t / 2)+1:=by
  obtain ⟨n,rfl⟩:∃ n,t=n+1:=⟨t-1,by omega⟩;simp only [blen]
  by_cases h2:n+1≥2
  · rw [Nat.log2_def,if_pos h2]
    obtain ⟨m,hm⟩:∃ m,(n+1) / 2=m+1:=⟨(n+1) / 2-1,by omega⟩;rw [hm]
  · have:n=0:=by omega
    subst this
    rfl
theorem blen_lt (k:Nat):∀ t,t < 2^k→blen t≤k:=by
  induction k with
  | zero => intro t ht; have : t = 0 := by simp at ht; omega
            subst this;simp [blen]
  | succ k ih=>
    intro t ht
    by_cases h:t=0
    · subst h;simp [blen]
    · rw [blen_half t h]
      have:=ih (t / 2) (by rw [Nat.pow_succ] at ht;omega);omega
theorem blen_ge (k:Nat):∀ t,2^k≤t→k+1≤blen t:=by
  induction k with
  | zero=>intro t ht;simp at ht;rw [blen_half t (by omega)];omega
  | succ k ih=>
    intro t ht;have hp:=Nat.two_pow_pos (k+1);rw [blen_half t (by omega)];have:=ih (t / 2) (by rw [Nat.pow_succ] at ht;omega);omega
theorem blen_eq {n k:Nat} (h1:2^k≤n) (h2:n < 2^(k+1)):blen n=k+1:=by
  have:=blen_ge k n h1;have:=blen_lt (k+1) n h2;omega
/-- the length of a list of words -/
theorem blen_can {l:List Nat} {n k:Nat} (h:Can l n) (hk:l.length=k+1):blen n=k*32+blen (l.getD k 0):=by
  obtain ⟨h1,h2,h3⟩:=h;have hne:=h3 k hk;obtain ⟨j,hj⟩:∃ j,blen (l.getD k 0)=j+1:=⟨blen (l.getD k 0)-1,by rw [blen_half _ hne];omega⟩
  have hlo:2^j≤l.getD k 0:=by
    refine Decidable.byContradiction fun h=>?_
    have:=blen_lt j _ (Nat.lt_of_not_le h);omega
  have hhi:l.getD k 0 < 2^(j+1):=by
    refine Decidable.byContradiction fun h=>?_
    have:=blen_ge (j+1) _ (Nat.le_of_not_lt h);omega
  have hv:n=val (l.take k)+4294967296^k*l.getD k 0:=by
    rw [← h1,← val_take_succ (by omega),List.take_of_length_le (by omega)]
  have hlt:val (l.take k) < 4294967296^k:=by
    have:=val_lt (allW_take h2 k)
    rwa [List.length_take,Nat.min_eq_left (by omega)] at this
  have hpw:4294967296^k=2^(k*32):=by rw [Nat.mul_comm,Nat.pow_mul]
  rw [hj,← Nat.add_assoc];apply blen_eq
  · rw [hv,Nat.pow_add,← hpw]
    exact Nat.le_trans (Nat.mul_le_mul_left _ hlo) (Nat.le_add_left _ _)
  · rw [hv,Nat.add_assoc,Nat.pow_add,← hpw]
    have h4:4294967296^k*(l.getD k 0+1)≤4294967296^k*2^(j+1):=Nat.mul_le_mul_left _ hhi;rw [Nat.mul_add,Nat.mul_one] at h4;omega

theorem length_any (va : Value) (n : Nat) (w : World) (hA : Abs w va n) (hn : n < 4294967296 ^ 250) : Calls Tryz.prog 124 #[va] w (Pure (I (blen n)) w) := by
  obtain ⟨la,hA,ca⟩:=hA;have h1:=can_len ca hn;clear hn;obtain ⟨a,cap,rfl,hn1,hl1,h01,hr1⟩:=hA;clear hl1 h01
  by_cases h0:la.length=0
  · have he:blen n=0:=by
      have:=ca.1;rw [List.length_eq_zero_iff.1 h0] at this;rw [← this];rfl
    have HE:=Lib.hid he;have t1:((la.length:Int)==0)=true:=by rw [beq_iff_eq];omega
    clear hr1 ca he;go_enter Tryz.func124,Tryz.ntmps124;go_wp2;go_ret;exact Pure.intro (eI (by rw [HE.out];rfl))
  · obtain ⟨k,hk⟩:∃ k,la.length=k+1:=⟨la.length-1,by omega⟩
    obtain ⟨b,off,rfl,hb,hcell⟩:=hr1.resolve_left h0;have ea:=hcell k (by rw [wcells_len];omega);rw [wcells_at (by omega)] at ea;have HE:=Lib.hid (blen_can ca hk);have hx:=allW_at ca.2.1 k;have t1:((la.length:Int)==0)=false:=by rw [beq_eq_false_iff_ne];omega
    have s0:(la.length:Int)-1=(k:Int):=by omega
    have s1:(0:Int)≤(k:Int):=by omega
    have s2:(k:Int) < (la.length:Int):=by omega
    clear hr1 ca hcell h0;generalize la.getD k 0=x at *;go_enter Tryz.func124,Tryz.ntmps124;go_wp2
    go_loop [3,4] (fun c t=>∃ p j:Nat,c=I j∧j≤32∧t=U32 (p:Int)∧p < 4294967296∧Hid (j+blen p=blen x)) (fun _ t=>(intOf t).toNat)
    case atStart=>exact ⟨x,0,rfl,by omega,rfl,hx,show 0+blen x=blen x from Nat.zero_add _⟩
    case round=>
      obtain ⟨p,j,rfl,hj,rfl,hp,hJ⟩:=hrel
      by_cases h:p=0
      · subst h
        have HF:=Lib.hid (show (k:Int)*32+(j:Int)=((blen n:Nat):Int) by
          have h:=hJ.out;rw [show blen 0=0 from rfl] at h;rw [HE.out];omega)
        clear hJ HE;have q1:(((0:Nat):Int) != 0)=false:=rfl;go_wp2;go_ret;exact Pure.intro (eI HF.out)
      · have q1:((p:Int) != 0)=true:=by rw [bne_iff_ne];omega
        have hJ':Hid (j+1+blen (p / 2)=blen x):=by
          have:=hJ.out;rw [blen_half p h] at this;unfold Hid;omega
        have hj':j+1≤32:=by
          have h1:=hJ'.out;have h2:blen x≤32:=blen_lt 32 x (by omega);omega
        clear hJ;go_wp2;have e:((p:Nat):Int) / 2=((p / 2:Nat):Int):=by omega
        rw [e];exact ⟨⟨p / 2,j+1,by go_num,hj',rfl,by omega,hJ'⟩,by simp [intOf];omega⟩
/-- the lowest 64 bits -/
theorem plain_any (va:Value) (n:Nat) (w:World) (hA:Abs w va n) (hn:n < 18446744073709551616):Calls Tryz.prog 145 #[va] w (Pure (.int .u64 n) w):=by
  obtain ⟨la,hA,ca⟩:=hA;have h1:=can_len (k:=2) ca (by simpa using hn);obtain ⟨a,cap,rfl,hn1,hl1,h01,hr1⟩:=hA;clear hl1 h01;obtain ⟨hv,hw,hc⟩:=ca
  match la,h1 with
  | [],_=>
    have hv0:n=0:=by simpa [val] using hv.symm
    subst hv0;clear hr1 hw hc hv;go_enter Tryz.func145,Tryz.ntmps145;go_wp2;go_ret;exact Pure.intro rfl
  | [x],_=>
    obtain ⟨b,off,rfl,hb,hcell⟩:=hr1.resolve_left (by simp);have ea:=hcell 0 (by simp [wcells]);have hx:n=x:=by simpa [val] using hv.symm
    subst hx;simp only [wcells,List.map_cons,List.map_nil,List.getD_cons_zero,Nat.add_zero] at ea;clear hr1 hcell hw hc hv;go_enter Tryz.func145,Tryz.ntmps145;go_wp2;go_ret;exact Pure.intro rfl
  | [x,y],_=>
    obtain ⟨b,off,rfl,hb,hcell⟩:=hr1.resolve_left (by simp);have ea:=hcell 0 (by simp [wcells]);have eb:=hcell 1 (by simp [wcells]);have hx:x < 4294967296:=hw x (by simp);have hy:y < 4294967296:=hw y (by simp);have hn2:n=4294967296*y+x:=by simp only [val] at hv;omega
    subst hn2;simp only [wcells,List.map_cons,List.map_nil,List.getD_cons_zero,List.getD_cons_succ,Nat.add_zero] at ea eb
    have hor:bits .or .u64 (x:Int) ((y:Int)*4294967296)=((4294967296*y+x:Nat):Int):=by
      have e:(y:Int)*4294967296=((y*2^32:Nat):Int):=by rw [Int.natCast_mul];rfl
      rw [e,u64_or_nat _ _ (by omega) (by omega),Nat.or_comm,← Nat.shiftLeft_eq,← Nat.shiftLeft_add_eq_or_of_lt (show x < 2^32 by omega),Nat.shiftLeft_eq]
      congr 1;omega
    have HOR:=Lib.hid hor;clear hr1 hcell hw hc hv hor hn;go_enter Tryz.func145,Tryz.ntmps145;go_wp2;go_ret;refine Pure.intro ?_;rw [← HOR.out]
    rfl
  | _::_::_::_,h=>simp at h
end Go.Proofs.YtfhmcahfjoliiaaGreatDoor
