/- great numbers: add · great numbers: mul · great numbers: sub · great numbers: cmp · great numbers: by one word · great numbers: length in bits, the lowest 64 bits · great numbers: left and right by bits: the plain laws · great numbers: left · great numbers: right · great numbers: division: plain laws, and the short ways · great numbers: division by a power of two, word by word -/
import Derived.Test.YtdjgcenjonegjaaGreatPk39
import Derived.Laws.BitsAllLaws
import Derived.Deep.RegionWith
import Derived.Laws.CopyOwn
set_option maxRecDepth 20000
set_option maxHeartbeats 8000000
set_option linter.unusedSimpArgs false
set_option linter.unusedVariables false
namespace Go.Proofs.YtdjgcenjonegjaaGreat
section
open Go.RowKit

def SumRel (W:World) (g:Nat) (la lb:List Nat) (k c:Nat) (wr:World):Prop:=
  (∃ rl:List Nat,rl.length=la.length+1∧allW rl∧Own wr g (wcells rl)∧val (rl.take k)+4294967296^k*c=val (la.take k)+val (lb.take k))∧Below W.heap.size W wr

theorem add_ge (va vb : Value) (la lb : List Nat) (w : World) (hA : Sl w va 1 la.length (wcells la)) (hB : Sl w vb 1 lb.length (wcells lb)) (wa : allW la) (wb : allW lb) (hle : lb.length ≤ la.length) (hn : la.length ≤ 250) :
    Calls Tryz.prog 162 #[va,vb] w (GrewAbs (val la+val lb) w):=by
  obtain ⟨i0,hi,hz0,hz1,hz2⟩:=info_parts infoWd;obtain ⟨a,cap,rfl,hn1,hl1,h01,hr1⟩:=hA;obtain ⟨a2,cap2,rfl,hn2,hl2,h02,hr2⟩:=hB;clear hl1 h01 hl2 h02;have hle':¬ (la.length:Int) < (lb.length:Int):=by omega
  have WA:=Lib.hid wa;have WB:=Lib.hid wb;clear wa wb;go_enter Tryz.func162,Tryz.ntmps162
  go_wp2_with (refine wpList_make_full _ rfl (.tmp 17) (.tmp 17) 25 rfl w.heap.size 80 i0 (.int .u32 0) 1 Tryz.underlying25 hi hz0 hz1 .i64 .i64 _ _ (la.length+1) rfl rfl (by simp) (by simp) (by rw [hz2];omega) (by unfold maxLen;omega) (Nat.le_refl _) ?_;intro w2 hown hgrow;have hbel:=Below.grown (B:=w.heap.size) (Below.refl _ w) hgrow (Nat.le_refl _) (fun k hk=>by cases hk);have hO:=Own.of_owns (made_int hown);clear hown hgrow)
  have hD:Hid (SumRel w w.heap.size la lb 0 0 w2):=⟨⟨List.replicate (la.length+1) 0,by simp,by intro d hd;rw [List.mem_replicate] at hd;omega,by unfold wcells;rw [List.map_replicate];exact hO,by simp [val]⟩,hbel⟩;clear hO hbel
  go_loopw [6,7] (fun cv i wr=>∃ k c:Nat,k≤la.length∧c≤1∧i=I k∧cv=.int .u64 c∧Hid (SumRel w w.heap.size la lb k c wr)) (fun _ i _=>la.length-(intOf i).toNat)
  case atStart=>exact ⟨0,0,Nat.zero_le _,by omega,rfl,rfl,hD⟩
  case round=>
    obtain ⟨k,c,hk,hc,rfl,rfl,hD⟩:=hrel;obtain ⟨⟨rl,hrl,hrw,hO,hv⟩,hbw⟩:=hD.out;have hi0:(0:Int)≤(k:Int):=by omega
    by_cases hlt:k < la.length
    · have hi1:(k:Int) < (la.length:Int):=by omega
      have hi2:(k:Int) < (la.length:Int)+1:=by omega
      obtain ⟨b,off,rfl,hb,hcell⟩:=hr1.resolve_left (by omega);have ea:=(hbw.cell (p:=⟨b,off+k,none⟩) hb).trans (hcell k (by rw [wcells_len];omega));rw [wcells_at hlt] at ea;have er:=hO.cell k (by rw [wcells_len];omega);rw [wcells_at (by omega),Nat.zero_add] at er;have fr:=hO.frozen k;have hx:=allW_at WA.out k;have hst:=Lib.hid (fun s hs=>add_step (s:=s) hlt (show k < rl.length by omega) hv hs);have hset:=Lib.hid (fun d=>hO.set k (U32 ((d:Nat):Int)));have hbs:=fun v=>hbw.setCell (p:=⟨w.heap.size,k,none⟩) (Nat.le_refl _) v;clear hcell hr1 hO hv;generalize la.getD k 0=x at *;generalize rl.getD k 0=z at *
      by_cases hkb:k < lb.length
      · have hi3:(k:Int) < (lb.length:Int):=by omega
        obtain ⟨b2,off2,rfl,hb2,hcell2⟩:=hr2.resolve_left (by omega);have eb:=(hbw.cell (p:=⟨b2,off2+k,none⟩) hb2).trans (hcell2 k (by rw [wcells_len];omega));rw [wcells_at hkb] at eb;have hy:=allW_at WB.out k;simp only [if_pos hkb] at hst;clear hcell2 hr2;generalize lb.getD k 0=y at *
        have hD':Hid (SumRel w w.heap.size la lb (k+1) ((c+x+y) / 4294967296) (wr.setCell ⟨w.heap.size,k,none⟩ (.int .u32 (((c:Int)+x+y)%4294967296)))):=by
          rw [show ((c:Int)+x+y)%4294967296=(((c+x+y)%4294967296:Nat):Int) by omega];exact ⟨⟨rl.set k ((c+x+y)%4294967296),by rw [List.length_set];exact hrl,allW_set hrw k (by omega),by rw [wcells_set];exact hset.out _,hst.out _ rfl⟩,hbs _⟩
        clear hst hset hbs hD hrw;go_wp2;exact ⟨⟨k+1,(c+x+y) / 4294967296,by omega,by omega,by go_num,by congr 1<;>omega,hD'⟩,by simp [intOf];omega⟩
      · have hi3:¬ (k:Int) < (lb.length:Int):=by omega
        simp only [if_neg hkb,Nat.add_zero] at hst
        have hD':Hid (SumRel w w.heap.size la lb (k+1) ((c+x) / 4294967296) (wr.setCell ⟨w.heap.size,k,none⟩ (.int .u32 (((c:Int)+x)%4294967296)))):=by
          rw [show ((c:Int)+x)%4294967296=(((c+x)%4294967296:Nat):Int) by omega];exact ⟨⟨rl.set k ((c+x)%4294967296),by rw [List.length_set];exact hrl,allW_set hrw k (by omega),by rw [wcells_set];exact hset.out _,hst.out _ rfl⟩,hbs _⟩
        clear hst hset hbs hD hrw hr2;go_wp2;exact ⟨⟨k+1,(c+x) / 4294967296,by omega,by omega,by go_num,by congr 1<;>omega,hD'⟩,by simp [intOf];omega⟩
    · have hkl:k=la.length:=by omega
      have hge:(la.length:Int)≤(k:Int):=by omega
      have er:=hO.cell la.length (by rw [wcells_len];omega);rw [wcells_at (by omega),Nat.zero_add] at er;have fr:=hO.frozen la.length
      have hsum:val (rl.set la.length c)=val la+val lb:=by
        have h1:val (rl.set la.length c)=val ((rl.set la.length c).take (la.length+1)):=by rw [List.take_of_length_le (by rw [List.length_set];omega)]
        rw [h1,val_set_succ (by omega),← hkl,hv,hkl,List.take_of_length_le (Nat.le_refl _),List.take_of_length_le hle]
      have hfin:Hid (Sl (wr.setCell ⟨w.heap.size,la.length,none⟩ (U32 (c:Int))) (.slice (some ⟨w.heap.size,0,none⟩) (la.length+1) (la.length+1)) 1 (rl.set la.length c).length (wcells (rl.set la.length c))):=by
        have h2:=(hO.set la.length (U32 (c:Int))).sl (n:=la.length+1) (cap:=la.length+1) (sz:=1) (by omega) (Nat.le_refl _) (by rw [List.length_set,wcells_len];omega);rw [List.length_set,hrl,wcells_set];exact h2
      have T:=Lib.hid (trim_any _ (rl.set la.length c) _ hfin.out (allW_set hrw _ (by omega)));rw [hsum] at T;have hk':=hbw.setCell (p:=⟨w.heap.size,la.length,none⟩) (Nat.le_refl _) (U32 (c:Int));have hi2:(la.length:Int) < (la.length:Int)+1:=by omega
      clear hfin hsum hO hv hD hrw hkl hr1 hr2;generalize rl.getD la.length 0=z at *
      go_wp2_with fail
      refine T.out.mono ?_;rintro e w3 ⟨v',rfl,hA,rfl⟩;go_wp2;go_ret;exact ⟨_,rfl,hA,hk'⟩
theorem add_lt (va vb : Value) (la lb : List Nat) (w : World) (hA : Sl w va 1 la.length (wcells la)) (hB : Sl w vb 1 lb.length (wcells lb)) (wa : allW la) (wb : allW lb) (hlt : lb.length < la.length) (hn : la.length ≤ 250) :
    Calls Tryz.prog 162 #[vb,va] w (GrewAbs (val la+val lb) w):=by
  have hle:lb.length≤la.length:=by omega
  obtain ⟨i0,hi,hz0,hz1,hz2⟩:=info_parts infoWd;obtain ⟨a,cap,rfl,hn1,hl1,h01,hr1⟩:=hA;obtain ⟨a2,cap2,rfl,hn2,hl2,h02,hr2⟩:=hB;clear hl1 h01 hl2 h02;have hle':(lb.length:Int) < (la.length:Int):=by omega
  have WA:=Lib.hid wa;have WB:=Lib.hid wb;clear wa wb;go_enter Tryz.func162,Tryz.ntmps162
  go_wp2_with (refine wpList_make_full _ rfl (.tmp 17) (.tmp 17) 25 rfl w.heap.size 80 i0 (.int .u32 0) 1 Tryz.underlying25 hi hz0 hz1 .i64 .i64 _ _ (la.length+1) rfl rfl (by simp) (by simp) (by rw [hz2];omega) (by unfold maxLen;omega) (Nat.le_refl _) ?_;intro w2 hown hgrow;have hbel:=Below.grown (B:=w.heap.size) (Below.refl _ w) hgrow (Nat.le_refl _) (fun k hk=>by cases hk);have hO:=Own.of_owns (made_int hown);clear hown hgrow)
  have hD:Hid (SumRel w w.heap.size la lb 0 0 w2):=⟨⟨List.replicate (la.length+1) 0,by simp,by intro d hd;rw [List.mem_replicate] at hd;omega,by unfold wcells;rw [List.map_replicate];exact hO,by simp [val]⟩,hbel⟩;clear hO hbel
  go_loopw [6,7] (fun cv i wr=>∃ k c:Nat,k≤la.length∧c≤1∧i=I k∧cv=.int .u64 c∧Hid (SumRel w w.heap.size la lb k c wr)) (fun _ i _=>la.length-(intOf i).toNat)
  case atStart=>exact ⟨0,0,Nat.zero_le _,by omega,rfl,rfl,hD⟩
  case round=>
    obtain ⟨k,c,hk,hc,rfl,rfl,hD⟩:=hrel;obtain ⟨⟨rl,hrl,hrw,hO,hv⟩,hbw⟩:=hD.out;have hi0:(0:Int)≤(k:Int):=by omega
    by_cases hlt:k < la.length
    · have hi1:(k:Int) < (la.length:Int):=by omega
      have hi2:(k:Int) < (la.length:Int)+1:=by omega
      obtain ⟨b,off,rfl,hb,hcell⟩:=hr1.resolve_left (by omega);have ea:=(hbw.cell (p:=⟨b,off+k,none⟩) hb).trans (hcell k (by rw [wcells_len];omega));rw [wcells_at hlt] at ea;have er:=hO.cell k (by rw [wcells_len];omega);rw [wcells_at (by omega),Nat.zero_add] at er;have fr:=hO.frozen k;have hx:=allW_at WA.out k;have hst:=Lib.hid (fun s hs=>add_step (s:=s) hlt (show k < rl.length by omega) hv hs);have hset:=Lib.hid (fun d=>hO.set k (U32 ((d:Nat):Int)));have hbs:=fun v=>hbw.setCell (p:=⟨w.heap.size,k,none⟩) (Nat.le_refl _) v;clear hcell hr1 hO hv;generalize la.getD k 0=x at *;generalize rl.getD k 0=z at *
      by_cases hkb:k < lb.length
      · have hi3:(k:Int) < (lb.length:Int):=by omega
        obtain ⟨b2,off2,rfl,hb2,hcell2⟩:=hr2.resolve_left (by omega);have eb:=(hbw.cell (p:=⟨b2,off2+k,none⟩) hb2).trans (hcell2 k (by rw [wcells_len];omega));rw [wcells_at hkb] at eb;have hy:=allW_at WB.out k;simp only [if_pos hkb] at hst;clear hcell2 hr2;generalize lb.getD k 0=y at *
        have hD':Hid (SumRel w w.heap.size la lb (k+1) ((c+x+y) / 4294967296) (wr.setCell ⟨w.heap.size,k,none⟩ (.int .u32 (((c:Int)+x+y)%4294967296)))):=by
          rw [show ((c:Int)+x+y)%4294967296=(((c+x+y)%4294967296:Nat):Int) by omega];exact ⟨⟨rl.set k ((c+x+y)%4294967296),by rw [List.length_set];exact hrl,allW_set hrw k (by omega),by rw [wcells_set];exact hset.out _,hst.out _ rfl⟩,hbs _⟩
        clear hst hset hbs hD hrw;go_wp2;exact ⟨⟨k+1,(c+x+y) / 4294967296,by omega,by omega,by go_num,by congr 1<;>omega,hD'⟩,by simp [intOf];omega⟩
      · have hi3:¬ (k:Int) < (lb.length:Int):=by omega
        simp only [if_neg hkb,Nat.add_zero] at hst
        have hD':Hid (SumRel w w.heap.size la lb (k+1) ((c+x) / 4294967296) (wr.setCell ⟨w.heap.size,k,none⟩ (.int .u32 (((c:Int)+x)%4294967296)))):=by
          rw [show ((c:Int)+x)%4294967296=(((c+x)%4294967296:Nat):Int) by omega];exact ⟨⟨rl.set k ((c+x)%4294967296),by rw [List.length_set];exact hrl,allW_set hrw k (by omega),by rw [wcells_set];exact hset.out _,hst.out _ rfl⟩,hbs _⟩
        clear hst hset hbs hD hrw hr2;go_wp2;exact ⟨⟨k+1,(c+x) / 4294967296,by omega,by omega,by go_num,by congr 1<;>omega,hD'⟩,by simp [intOf];omega⟩
    · have hkl:k=la.length:=by omega
      have hge:(la.length:Int)≤(k:Int):=by omega
      have er:=hO.cell la.length (by rw [wcells_len];omega);rw [wcells_at (by omega),Nat.zero_add] at er;have fr:=hO.frozen la.length
      have hsum:val (rl.set la.length c)=val la+val lb:=by
        have h1:val (rl.set la.length c)=val ((rl.set la.length c).take (la.length+1)):=by rw [List.take_of_length_le (by rw [List.length_set];omega)]
        rw [h1,val_set_succ (by omega),← hkl,hv,hkl,List.take_of_length_le (Nat.le_refl _),List.take_of_length_le hle]
      have hfin:Hid (Sl (wr.setCell ⟨w.heap.size,la.length,none⟩ (U32 (c:Int))) (.slice (some ⟨w.heap.size,0,none⟩) (la.length+1) (la.length+1)) 1 (rl.set la.length c).length (wcells (rl.set la.length c))):=by
        have h2:=(hO.set la.length (U32 (c:Int))).sl (n:=la.length+1) (cap:=la.length+1) (sz:=1) (by omega) (Nat.le_refl _) (by rw [List.length_set,wcells_len];omega);rw [List.length_set,hrl,wcells_set];exact h2
      have T:=Lib.hid (trim_any _ (rl.set la.length c) _ hfin.out (allW_set hrw _ (by omega)));rw [hsum] at T;have hk':=hbw.setCell (p:=⟨w.heap.size,la.length,none⟩) (Nat.le_refl _) (U32 (c:Int));have hi2:(la.length:Int) < (la.length:Int)+1:=by omega
      clear hfin hsum hO hv hD hrw hkl hr1 hr2;generalize rl.getD la.length 0=z at *
      go_wp2_with fail
      refine T.out.mono ?_;rintro e w3 ⟨v',rfl,hA,rfl⟩;go_wp2;go_ret;exact ⟨_,rfl,hA,hk'⟩
/-- the words of a sum -/
theorem add_any (va vb:Value) (n m:Nat) (w:World) (hA:Abs w va n) (hB:Abs w vb m) (hn:n < 4294967296^250) (hm:m < 4294967296^250):Calls Tryz.prog 162 #[va,vb] w (GrewAbs (n+m) w):=by
  obtain ⟨la,sa,ca⟩:=hA;obtain ⟨lb,sb,cb⟩:=hB;have h1:=can_len ca hn;have h2:=can_len cb hm
  by_cases h:lb.length≤la.length
  · have:=add_ge va vb la lb w sa sb ca.2.1 cb.2.1 h h1
    rwa [ca.1,cb.1] at this
  · have:=add_lt vb va lb la w sb sa cb.2.1 ca.2.1 (by omega) h2
    rwa [ca.1,cb.1,Nat.add_comm] at this
end
section
open Go.RowKit

def MulRel (W:World) (g n:Nat) (hi:Nat) (V:Nat) (wr:World):Prop:=
  (∃ rl:List Nat,rl.length=n∧allW rl∧Own wr g (wcells rl)∧val rl=V∧∀ i,hi≤i→rl.getD i 0=0)∧Below W.heap.size W wr

def MulRow (W:World) (g n:Nat) (hi:Nat) (V P:Nat) (c:Nat) (S:Nat) (wr:World):Prop:=
  (∃ rl:List Nat,rl.length=n∧allW rl∧Own wr g (wcells rl)∧val rl+P*c=V+S∧∀ i,hi≤i→rl.getD i 0=0)∧Below W.heap.size W wr

theorem mul_any (va vb : Value) (n m : Nat) (w : World) (hA : Abs w va n) (hB : Abs w vb m) (hn : n < 4294967296 ^ 250) (hm : m < 4294967296 ^ 250) : Calls Tryz.prog 142 #[va, vb] w (GrewAbs (n * m) w) := by
  obtain ⟨la,hA,ca⟩:=hA;obtain ⟨lb,hB,cb⟩:=hB;have h1:=can_len ca hn;have h2:=can_len cb hm;clear hn hm;obtain ⟨i0,hi,hz0,hz1,hz2⟩:=info_parts infoWd;obtain ⟨a,cap,rfl,hn1,hl1,h01,hr1⟩:=hA;obtain ⟨a2,cap2,rfl,hn2,hl2,h02,hr2⟩:=hB;clear hl1 h01 hl2 h02
  by_cases ha0:la.length=0
  · have:n=0:=by have:=ca.1;rw [List.length_eq_zero_iff.1 ha0] at this;simpa [val] using this.symm
    subst this;have hA:=Lib.hid (⟨[],Sl.nil _ _,by simp [val],by simp [allW],by simp⟩:Abs w (.slice none 0 0) (0*m));have t1:((la.length:Int)==0)=true:=by rw [beq_iff_eq];omega
    clear hr1 hr2 ca cb;go_enter Tryz.func142,Tryz.ntmps142;go_wp2
    all_goals
      go_ret;exact ⟨_,rfl,hA.out,Below.refl _ _⟩
  by_cases hb0:lb.length=0
  · have:m=0:=by have:=cb.1;rw [List.length_eq_zero_iff.1 hb0] at this;simpa [val] using this.symm
    subst this;have hA:=Lib.hid (⟨[],Sl.nil _ _,by simp [val],by simp [allW],by simp⟩:Abs w (.slice none 0 0) (n*0));have t1:((la.length:Int)==0)=false:=by rw [beq_eq_false_iff_ne];omega
    have t2:((lb.length:Int)==0)=true:=by rw [beq_iff_eq];omega
    clear hr1 hr2 ca cb;go_enter Tryz.func142,Tryz.ntmps142;go_wp2
    all_goals
      go_ret;exact ⟨_,rfl,hA.out,Below.refl _ _⟩
  have t1:((la.length:Int)==0)=false:=by rw [beq_eq_false_iff_ne];omega
  have t2:((lb.length:Int)==0)=false:=by rw [beq_eq_false_iff_ne];omega
  obtain ⟨b,off,rfl,hb,hcell⟩:=hr1.resolve_left (by omega);obtain ⟨b2,off2,rfl,hb2,hcell2⟩:=hr2.resolve_left (by omega);have CA:=Lib.hid ca;have CB:=Lib.hid cb;have HC:=Lib.hid hcell;have HC2:=Lib.hid hcell2;clear ca cb hr1 hr2 hcell hcell2;have hle:la.length≤la.length+lb.length:=by omega
  go_enter Tryz.func142,Tryz.ntmps142
  go_wp2_with (refine wpList_make_full _ rfl (.tmp 21) (.tmp 21) 25 rfl w.heap.size 80 i0 (.int .u32 0) 1 Tryz.underlying25 hi hz0 hz1 .i64 .i64 _ _ (la.length+lb.length) rfl rfl (by simp) (by simp) (by rw [hz2];omega) (by unfold maxLen;omega) (Nat.le_refl _) ?_;intro w2 hown hgrow;have hbel:=Below.grown (B:=w.heap.size) (Below.refl _ w) hgrow (Nat.le_refl _) (fun k hk=>by cases hk);have hO:=Own.of_owns (made_int hown);clear hown hgrow)
  have hD:Hid (MulRel w w.heap.size (la.length+lb.length) lb.length 0 w2):=⟨⟨List.replicate (la.length+lb.length) 0,by simp,allW_replicate _,by unfold wcells;rw [List.map_replicate];exact hO,val_replicate _,fun i _=>getD_replicate' _ i⟩,hbel⟩;clear hO hbel
  go_loopw [6,7,8] (fun i _ _ wr=>∃ k:Nat,k≤la.length∧i=I k∧Hid (MulRel w w.heap.size (la.length+lb.length) (k+lb.length) (val (la.take k)*val lb) wr)) (fun i _ _ _=>la.length-(intOf i).toNat)
  case atStart=>exact ⟨0,Nat.zero_le _,rfl,by simpa [val] using hD⟩
  case round=>
    obtain ⟨k,hk,rfl,hD⟩:=hrel;obtain ⟨⟨rl,hrl,hrw,hO,hv,hz⟩,hbw⟩:=hD.out;have hi0:(0:Int)≤(k:Int):=by omega
    by_cases hlt:k < la.length
    · have hi1:(k:Int) < (la.length:Int):=by omega
      have hx:=allW_at CA.out.2.1 k;have hV:=Lib.hid (show val (la.take (k+1))*val lb=val (la.take k)*val lb+4294967296^k*(la.getD k 0*val lb) by rw [val_take_succ hlt,Nat.add_mul,Nat.mul_assoc]);have ea0:=HC.out k (by rw [wcells_len];omega);rw [wcells_at hlt] at ea0;have hD0:Hid (MulRow w w.heap.size (la.length+lb.length) (k+lb.length) (val (la.take k)*val lb) (4294967296^(k+0)) 0 (4294967296^k*(la.getD k 0*val (lb.take 0))) wr):=⟨⟨rl,hrl,hrw,hO,by simp [hv,val],hz⟩,hbw⟩;clear hD hO hv hz hrw hrl;generalize la.getD k 0=x at *;generalize val (la.take k)*val lb=V at *;obtain ⟨wo,rfl⟩:∃ wo:World,wo=wr:=⟨_,rfl⟩;have hbo:=hbw;clear hbw;go_wp2
      go_loopw [7,8] (fun cv j wr=>∃ i c:Nat,i≤lb.length∧c < 4294967296∧j=I i∧cv=.int .u64 c∧Hid (MulRow w w.heap.size (la.length+lb.length) (k+lb.length) V (4294967296^(k+i)) c (4294967296^k*(x*val (lb.take i))) wr)) (fun _ j _=>lb.length-(intOf j).toNat)
      case atStart=>exact ⟨0,0,Nat.zero_le _,by omega,rfl,rfl,hD0⟩
      case round=>
        obtain ⟨i,c,hi,hc,rfl,rfl,hD⟩:=hrel;obtain ⟨⟨rl,hrl,hrw,hO,hv,hz⟩,hbw⟩:=hD.out;have hj0:(0:Int)≤(i:Int):=by omega
        by_cases hlt2:i < lb.length
        · have hj1:(i:Int) < (lb.length:Int):=by omega
          have hki:k+i < rl.length:=by omega
          have ea:=(hbw.cell (p:=⟨b,off+k,none⟩) hb).trans ea0;have eb:=(hbw.cell (p:=⟨b2,off2+i,none⟩) hb2).trans (HC2.out i (by rw [wcells_len];omega));rw [wcells_at hlt2] at eb;have er:=hO.cell (k+i) (by rw [wcells_len];omega);rw [wcells_at hki,Nat.zero_add] at er;have fr:=hO.frozen (k+i);have hy:=allW_at CB.out.2.1 i;have hzz:=allW_at hrw (k+i);obtain ⟨mb1,mb2⟩:=mul_bound hc hx hy hzz;have hst:=Lib.hid (fun s hs=>mul_step (s:=s) hki hlt2 hv hs);have HO:=Lib.hid hO;have hzs:=Lib.hid hz;clear hO hv hz;generalize lb.getD i 0=y at *;generalize rl.getD (k+i) 0=z at *;have s0:(0:Int)≤(k:Int)+(i:Int):=by omega
          have s1:(k:Int)+(i:Int) < (la.length:Int)+(lb.length:Int):=by omega
          have s2:((k:Int)+(i:Int)).toNat=k+i:=by omega
          go_wp2
          go_quiet (fail)
          go_wp2;have e0:(c:Int)+((x:Int)*(y:Int)+(z:Int))=((c+x*y+z:Nat):Int):=by rw [Int.natCast_add,Int.natCast_add,Int.natCast_mul];omega
          rw [e0];generalize hs:c+x*y+z=s at *;have e1:((s:Nat):Int)%4294967296=((s%4294967296:Nat):Int):=by omega
          have e2:((s:Nat):Int) / 4294967296=((s / 4294967296:Nat):Int):=by omega
          rw [e1,e2];refine ⟨⟨i+1,s / 4294967296,by omega,mb2,by go_num,rfl,⟨⟨rl.set (k+i) (s%4294967296),by rw [List.length_set];exact hrl,allW_set hrw _ (by omega),by rw [wcells_set];exact (HO.out.drewN nq).set (k+i) _,hst.out s rfl,fun j hj=>by rw [getD_set_ne (by omega)];exact hzs.out j hj⟩,(drewN_below hbw nq).setCell (p:=⟨w.heap.size,k+i,none⟩) (Nat.le_refl _) _⟩⟩,by simp [intOf];omega⟩
        · have hil:i=lb.length:=by omega
          have hge:(lb.length:Int)≤(i:Int):=by omega
          subst hil;have hki:k+lb.length < rl.length:=by omega
          have er:=hO.cell (k+lb.length) (by rw [wcells_len];omega);rw [wcells_at hki,Nat.zero_add,hz _ (Nat.le_refl _)] at er;have fr:=hO.frozen (k+lb.length);rw [List.take_of_length_le (Nat.le_refl _)] at hv;have hfin:=Lib.hid (mul_row hki (hz _ (Nat.le_refl _)) hv);have HO:=Lib.hid hO;have hzs:=Lib.hid hz;clear hO hv hz;have s0:(0:Int)≤(k:Int)+(lb.length:Int):=by omega
          have s1:(k:Int)+(lb.length:Int) < (la.length:Int)+(lb.length:Int):=by omega
          have s2:((k:Int)+(lb.length:Int)).toNat=k+lb.length:=by omega
          go_wp2;exact ⟨⟨k+1,by omega,by go_num,⟨⟨rl.set (k+lb.length) c,by rw [List.length_set];exact hrl,allW_set hrw _ hc,by rw [wcells_set];exact HO.out.set (k+lb.length) _,by rw [hV.out];exact hfin.out,fun j hj=>by rw [getD_set_ne (by omega)];exact hzs.out j (by omega)⟩,hbw.setCell (p:=⟨w.heap.size,k+lb.length,none⟩) (Nat.le_refl _) _⟩⟩,by simp [intOf];omega⟩
    · have hkl:k=la.length:=by omega
      have hge:(la.length:Int)≤(k:Int):=by omega
      have hsum:val rl=n*m:=by
        rw [hv,hkl,List.take_of_length_le (Nat.le_refl _),CA.out.1,CB.out.1]
      have hfin:Hid (Sl wr (.slice (some ⟨w.heap.size,0,none⟩) (la.length+lb.length) (la.length+lb.length)) 1 rl.length (wcells rl)):=by
        have h2:=hO.sl (n:=la.length+lb.length) (cap:=la.length+lb.length) (sz:=1) (by omega) (Nat.le_refl _) (by rw [wcells_len];omega);rw [hrl];exact h2
      have T:=Lib.hid (trim_any _ rl _ hfin.out hrw);rw [hsum] at T;clear hfin hsum hO hv hz hD hrw hkl HC HC2
      go_wp2_with fail
      refine T.out.mono ?_;rintro e w3 ⟨v',rfl,hA,rfl⟩;go_wp2;go_ret;exact ⟨_,rfl,hA,hbw⟩
end
section
open Go.RowKit

def SubRel (W:World) (g:Nat) (la lb:List Nat) (k c:Nat) (wr:World):Prop:=
  (∃ rl:List Nat,rl.length=la.length∧allW rl∧Own wr g (wcells rl)∧val (rl.take k)+val (lb.take k)=val (la.take k)+4294967296^k*c)∧Below W.heap.size W wr
end
section
open Go.RowKit

def cmpI (n m:Nat):Int:=if n < m then -1 else if n=m then 0 else 1
end
section
open Go.RowKit

theorem or64s (x y:Nat) (hx:x < 4294967296) (hy:y < 4294967296):bits .or .u64 ((x:Int)*4294967296) (y:Int)=((4294967296*x+y:Nat):Int):=by
  have e:(x:Int)*4294967296=((x*2^32:Nat):Int):=by rw [Int.natCast_mul];rfl
  rw [e,u64_or_nat _ _ (by omega) (by omega),← Nat.shiftLeft_eq,← Nat.shiftLeft_add_eq_or_of_lt (show y < 2^32 by omega),Nat.shiftLeft_eq]
  congr 1;omega
def SmallRel (W:World) (g:Nat) (la:List Nat) (d k r:Nat) (wr:World):Prop:=
  (∃ ql:List Nat,ql.length=la.length∧allW ql∧Own wr g (wcells ql)∧val ql*d+4294967296^k*r+val (la.take k)=val la∧∀ i,i < k→ql.getD i 0=0)∧Below W.heap.size W wr
def GrewAbs2 (n r:Nat) (w:World) (e:Ending) (w':World):Prop:=∃ v,e=.returned (T2 v (U32 r))∧Abs w' v n∧Below w.heap.size w w'

end
section
open Go.RowKit

def blen:Nat→Nat
  | 0=>0
  | n+1=>Nat.log2 (n+1)+1
end
section
open Go.RowKit

/-! left: a word moved up by s bits joins what came up from below -/
def rword (l:List Nat) (s i:Nat):Nat:=(l.getD i 0+4294967296*l.getD (i+1) 0) / 2^s%4294967296
end
section
open Go.RowKit
def LeftRel (W:World) (g:Nat) (la:List Nat) (q s k:Nat) (wr:World):Prop:=
  (∃ rl:List Nat,rl.length=la.length+q+1∧allW rl∧Own wr g (wcells rl)∧val rl=4294967296^q*(val (la.take k)*2^s)∧rl.getD (k+q) 0 < 2^s∧∀ i,k+q < i→rl.getD i 0=0)∧Below W.heap.size W wr
end
section
open Go.RowKit
def RightRel (W:World) (g:Nat) (l:List Nat) (s k:Nat) (wr:World):Prop:=
  (∃ rl:List Nat,rl.length=l.length∧allW rl∧Own wr g (wcells rl)∧∀ i,i < k→rl.getD i 0=rword l s i)∧Below W.heap.size W wr
end
section
open Go.RowKit

/-- the quotient and the rest, in new memory -/
def GrewQR (q r:Nat) (w:World) (e:Ending) (w':World):Prop:=∃ v1 v2,e=.returned (T2 v1 v2)∧Abs w' v1 q∧Abs w' v2 r∧Below w.heap.size w w'

end
section
open Go.RowKit

/-- all rounds from k down: what is left of the number lies in u, the quotient's words in q -/
def DivRel (W : World) (gu gq U0 p L M k : Nat) (wr : World) : Prop :=
  (∃ ul ql:List Nat,ul.length=L+2∧ql.length=M+1∧allW ul∧allW ql∧Own wr gu (wcells ul)∧Own wr gq (wcells ql)∧val ul+2147483648*4294967296^p*val ql=U0 ∧
    ul.getD (k+p) 0 < 2147483648∧(∀ i,k+p < i→ul.getD i 0=0)∧∀ i,i < k→ql.getD i 0=0)∧Below W.heap.size W wr
/-- within a round: the word below is turned, or not yet -/
def InRel (W:World) (gu gq:Nat) (ul ql:List Nat) (k p r x1 i:Nat) (c:Nat) (wr:World):Prop:=
  ((i≤p∧c=0∧Own wr gu (wcells ul))∨(i=p+1∧c=x1∧Own wr gu (wcells (ul.set (k+p) r))))∧Own wr gq (wcells ql)∧Below W.heap.size W wr

end
end Go.Proofs.YtdjgcenjonegjaaGreat
