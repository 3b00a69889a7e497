/- great numbers: add -/
import Derived.Test.YtfhmcahfjoliiaaGreatDoorPk06
import Derived.Test.YtfhmcahfjoliiaaGreatDoorBigPlain
import Derived.Laws.BitsAllLaws
set_option maxRecDepth 20000
set_option maxHeartbeats 8000000
set_option linter.unusedSimpArgs false
set_option linter.unusedVariables false
namespace Go.Proofs.YtfhmcahfjoliiaaGreatDoor
open Go.RowKit

def SumRel (W:World) (g:Nat) (la lb:List Nat) (k c:Nat) (wr:World):Prop:=
  (∃ rl:List Nat,rl.length=la.length+1∧allW rl∧Own wr g (wcells rl)∧val (rl.take k)+4294967296^k*c=val (la.take k)+val (lb.take k))∧Below W.heap.size W wr

theorem add_ge (va vb : Value) (la lb : List Nat) (w : World) (hA : Sl w va 1 la.length (wcells la)) (hB : Sl w vb 1 lb.length (wcells lb)) (wa : allW la) (wb : allW lb) (hle : lb.length ≤ la.length) (hn : la.length ≤ 250) :
    Calls Tryz.prog 141 #[va,vb] w (GrewAbs (val la+val lb) w):=by
  obtain ⟨i0,hi,hz0,hz1,hz2⟩:=info_parts infoWd;obtain ⟨a,cap,rfl,hn1,hl1,h01,hr1⟩:=hA;obtain ⟨a2,cap2,rfl,hn2,hl2,h02,hr2⟩:=hB;clear hl1 h01 hl2 h02;have hle':¬ (la.length:Int) < (lb.length:Int):=by omega
  have WA:=Lib.hid wa;have WB:=Lib.hid wb;clear wa wb;go_enter Tryz.func141,Tryz.ntmps141
  go_wp2_with (refine wpList_make_full _ rfl (.tmp 17) (.tmp 17) 124 rfl w.heap.size 109 i0 (.int .u32 0) 1 Tryz.underlying124 hi hz0 hz1 .i64 .i64 _ _ (la.length+1) rfl rfl (by simp) (by simp) (by rw [hz2];omega) (by unfold maxLen;omega) (Nat.le_refl _) ?_;intro w2 hown hgrow;have hbel:=Below.grown (B:=w.heap.size) (Below.refl _ w) hgrow (Nat.le_refl _) (fun k hk=>by cases hk);have hO:=Own.of_owns (made_int hown);clear hown hgrow)
  have hD:Hid (SumRel w w.heap.size la lb 0 0 w2):=⟨⟨List.replicate (la.length+1) 0,by simp,by intro d hd;rw [List.mem_replicate] at hd;omega,by unfold wcells;rw [List.map_replicate];exact hO,by simp [val]⟩,hbel⟩;clear hO hbel
  go_loopw [6,7] (fun cv i wr=>∃ k c:Nat,k≤la.length∧c≤1∧i=I k∧cv=.int .u64 c∧Hid (SumRel w w.heap.size la lb k c wr)) (fun _ i _=>la.length-(intOf i).toNat)
  case atStart=>exact ⟨0,0,Nat.zero_le _,by omega,rfl,rfl,hD⟩
  case round=>
    obtain ⟨k,c,hk,hc,rfl,rfl,hD⟩:=hrel;obtain ⟨⟨rl,hrl,hrw,hO,hv⟩,hbw⟩:=hD.out;have hi0:(0:Int)≤(k:Int):=by omega
    by_cases hlt:k < la.length
    · have hi1:(k:Int) < (la.length:Int):=by omega
      have hi2:(k:Int) < (la.length:Int)+1:=by omega
      obtain ⟨b,off,rfl,hb,hcell⟩:=hr1.resolve_left (by omega);have ea:=(hbw.cell (p:=⟨b,off+k,none⟩) hb).trans (hcell k (by rw [wcells_len];omega));rw [wcells_at hlt] at ea;have er:=hO.cell k (by rw [wcells_len];omega);rw [wcells_at (by omega),Nat.zero_add] at er;have fr:=hO.frozen k;have hx:=allW_at WA.out k;have hst:=Lib.hid (fun s hs=>add_step (s:=s) hlt (show k < rl.length by omega) hv hs);have hset:=Lib.hid (fun d=>hO.set k (U32 ((d:Nat):Int)));have hbs:=fun v=>hbw.setCell (p:=⟨w.heap.size,k,none⟩) (Nat.le_refl _) v;clear hcell hr1 hO hv;generalize la.getD k 0=x at *;generalize rl.getD k 0=z at *
      by_cases hkb:k < lb.length
      · have hi3:(k:Int) < (lb.length:Int):=by omega
        obtain ⟨b2,off2,rfl,hb2,hcell2⟩:=hr2.resolve_left (by omega);have eb:=(hbw.cell (p:=⟨b2,off2+k,none⟩) hb2).trans (hcell2 k (by rw [wcells_len];omega));rw [wcells_at hkb] at eb;have hy:=allW_at WB.out k;simp only [if_pos hkb] at hst;clear hcell2 hr2;generalize lb.getD k 0=y at *
        have hD':Hid (SumRel w w.heap.size la lb (k+1) ((c+x+y) / 4294967296) (wr.setCell ⟨w.heap.size,k,none⟩ (.int .u32 (((c:Int)+x+y)%4294967296)))):=by
          rw [show ((c:Int)+x+y)%4294967296=(((c+x+y)%4294967296:Nat):Int) by omega];exact ⟨⟨rl.set k ((c+x+y)%4294967296),by rw [List.length_set];exact hrl,allW_set hrw k (by omega),by rw [wcells_set];exact hset.out _,hst.out _ rfl⟩,hbs _⟩
        clear hst hset hbs hD hrw;go_wp2;exact ⟨⟨k+1,(c+x+y) / 4294967296,by omega,by omega,by go_num,by congr 1<;>omega,hD'⟩,by simp [intOf];omega⟩
      · have hi3:¬ (k:Int) < (lb.length:Int):=by omega
        simp only [if_neg hkb,Nat.add_zero] at hst
        have hD':Hid (SumRel w w.heap.size la lb (k+1) ((c+x) / 4294967296) (wr.setCell ⟨w.heap.size,k,none⟩ (.int .u32 (((c:Int)+x)%4294967296)))):=by
          rw [show ((c:Int)+x)%4294967296=(((c+x)%4294967296:Nat):Int) by omega];exact ⟨⟨rl.set k ((c+x)%4294967296),by rw [List.length_set];exact hrl,allW_set hrw k (by omega),by rw [wcells_set];exact hset.out _,hst.out _ rfl⟩,hbs _⟩
        clear hst hset hbs hD hrw hr2;go_wp2;exact ⟨⟨k+1,(c+x) / 4294967296,by omega,by omega,by go_num,by congr 1<;>omega,hD'⟩,by simp [intOf];omega⟩
    · have hkl:k=la.length:=by omega
      have hge:(la.length:Int)≤(k:Int):=by omega
      have er:=hO.cell la.length (by rw [wcells_len];omega);rw [wcells_at (by omega),Nat.zero_add] at er;have fr:=hO.frozen la.length
      have hsum:val (rl.set la.length c)=val la+val lb:=by
        have h1:val (rl.set la.length c)=val ((rl.set la.length c).take (la.length+1)):=by rw [List.take_of_length_le (by rw [List.length_set];omega)]
        rw [h1,val_set_succ (by omega),← hkl,hv,hkl,List.take_of_length_le (Nat.le_refl _),List.take_of_length_le hle]
      have hfin:Hid (Sl (wr.setCell ⟨w.heap.size,la.length,none⟩ (U32 (c:Int))) (.slice (some ⟨w.heap.size,0,none⟩) (la.length+1) (la.length+1)) 1 (rl.set la.length c).length (wcells (rl.set la.length c))):=by
        have h2:=(hO.set la.length (U32 (c:Int))).sl (n:=la.length+1) (cap:=la.length+1) (sz:=1) (by omega) (Nat.le_refl _) (by rw [List.length_set,wcells_len];omega);rw [List.length_set,hrl,wcells_set];exact h2
      have T:=Lib.hid (trim_any _ (rl.set la.length c) _ hfin.out (allW_set hrw _ (by omega)));rw [hsum] at T;have hk':=hbw.setCell (p:=⟨w.heap.size,la.length,none⟩) (Nat.le_refl _) (U32 (c:Int));have hi2:(la.length:Int) < (la.length:Int)+1:=by omega
      clear hfin hsum hO hv hD hrw hkl hr1 hr2;generalize rl.getD la.length 0=z at *
      go_wp2_with fail
      refine T.out.mono ?_;rintro e w3 ⟨v',rfl,hA,rfl⟩;go_wp2;go_ret;exact ⟨_,rfl,hA,hk'⟩
theorem add_lt (va vb : Value) (la lb : List Nat) (w : World) (hA : Sl w va 1 la.length (wcells la)) (hB : Sl w vb 1 lb.length (wcells lb)) (wa : allW la) (wb : allW lb) (hlt : lb.length < la.length) (hn : la.length ≤ 250) :
    Calls Tryz.prog 141 #[vb,va] w (GrewAbs (val la+val lb) w):=by
  have hle:lb.length≤la.length:=by omega
  obtain ⟨i0,hi,hz0,hz1,hz2⟩:=info_parts infoWd;obtain ⟨a,cap,rfl,hn1,hl1,h01,hr1⟩:=hA;obtain ⟨a2,cap2,rfl,hn2,hl2,h02,hr2⟩:=hB;clear hl1 h01 hl2 h02;have hle':(lb.length:Int) < (la.length:Int):=by omega
  have WA:=Lib.hid wa;have WB:=Lib.hid wb;clear wa wb;go_enter Tryz.func141,Tryz.ntmps141
  go_wp2_with (refine wpList_make_full _ rfl (.tmp 17) (.tmp 17) 124 rfl w.heap.size 109 i0 (.int .u32 0) 1 Tryz.underlying124 hi hz0 hz1 .i64 .i64 _ _ (la.length+1) rfl rfl (by simp) (by simp) (by rw [hz2];omega) (by unfold maxLen;omega) (Nat.le_refl _) ?_;intro w2 hown hgrow;have hbel:=Below.grown (B:=w.heap.size) (Below.refl _ w) hgrow (Nat.le_refl _) (fun k hk=>by cases hk);have hO:=Own.of_owns (made_int hown);clear hown hgrow)
  have hD:Hid (SumRel w w.heap.size la lb 0 0 w2):=⟨⟨List.replicate (la.length+1) 0,by simp,by intro d hd;rw [List.mem_replicate] at hd;omega,by unfold wcells;rw [List.map_replicate];exact hO,by simp [val]⟩,hbel⟩;clear hO hbel
  go_loopw [6,7] (fun cv i wr=>∃ k c:Nat,k≤la.length∧c≤1∧i=I k∧cv=.int .u64 c∧Hid (SumRel w w.heap.size la lb k c wr)) (fun _ i _=>la.length-(intOf i).toNat)
  case atStart=>exact ⟨0,0,Nat.zero_le _,by omega,rfl,rfl,hD⟩
  case round=>
    obtain ⟨k,c,hk,hc,rfl,rfl,hD⟩:=hrel;obtain ⟨⟨rl,hrl,hrw,hO,hv⟩,hbw⟩:=hD.out;have hi0:(0:Int)≤(k:Int):=by omega
    by_cases hlt:k < la.length
    · have hi1:(k:Int) < (la.length:Int):=by omega
      have hi2:(k:Int) < (la.length:Int)+1:=by omega
      obtain ⟨b,off,rfl,hb,hcell⟩:=hr1.resolve_left (by omega);have ea:=(hbw.cell (p:=⟨b,off+k,none⟩) hb).trans (hcell k (by rw [wcells_len];omega));rw [wcells_at hlt] at ea;have er:=hO.cell k (by rw [wcells_len];omega);rw [wcells_at (by omega),Nat.zero_add] at er;have fr:=hO.frozen k;have hx:=allW_at WA.out k;have hst:=Lib.hid (fun s hs=>add_step (s:=s) hlt (show k < rl.length by omega) hv hs);have hset:=Lib.hid (fun d=>hO.set k (U32 ((d:Nat):Int)));have hbs:=fun v=>hbw.setCell (p:=⟨w.heap.size,k,none⟩) (Nat.le_refl _) v;clear hcell hr1 hO hv;generalize la.getD k 0=x at *;generalize rl.getD k 0=z at *
      by_cases hkb:k < lb.length
      · have hi3:(k:Int) < (lb.length:Int):=by omega
        obtain ⟨b2,off2,rfl,hb2,hcell2⟩:=hr2.resolve_left (by omega);have eb:=(hbw.cell (p:=⟨b2,off2+k,none⟩) hb2).trans (hcell2 k (by rw [wcells_len];omega));rw [wcells_at hkb] at eb;have hy:=allW_at WB.out k;simp only [if_pos hkb] at hst;clear hcell2 hr2;generalize lb.getD k 0=y at *
        have hD':Hid (SumRel w w.heap.size la lb (k+1) ((c+x+y) / 4294967296) (wr.setCell ⟨w.heap.size,k,none⟩ (.int .u32 (((c:Int)+x+y)%4294967296)))):=by
          rw [show ((c:Int)+x+y)%4294967296=(((c+x+y)%4294967296:Nat):Int) by omega];exact ⟨⟨rl.set k ((c+x+y)%4294967296),by rw [List.length_set];exact hrl,allW_set hrw k (by omega),by rw [wcells_set];exact hset.out _,hst.out _ rfl⟩,hbs _⟩
        clear hst hset hbs hD hrw;go_wp2;exact ⟨⟨k+1,(c+x+y) / 4294967296,by omega,by omega,by go_num,by congr 1<;>omega,hD'⟩,by simp [intOf];omega⟩
      · have hi3:¬ (k:Int) < (lb.length:Int):=by omega
        simp only [if_neg hkb,Nat.add_zero] at hst
        have hD':Hid (SumRel w w.heap.size la lb (k+1) ((c+x) / 4294967296) (wr.setCell ⟨w.heap.size,k,none⟩ (.int .u32 (((c:Int)+x)%4294967296)))):=by
          rw [show ((c:Int)+x)%4294967296=(((c+x)%4294967296:Nat):Int) by omega];exact ⟨⟨rl.set k ((c+x)%4294967296),by rw [List.length_set];exact hrl,allW_set hrw k (by omega),by rw [wcells_set];exact hset.out _,hst.out _ rfl⟩,hbs _⟩
        clear hst hset hbs hD hrw hr2;go_wp2;exact ⟨⟨k+1,(c+x) / 4294967296,by omega,by omega,by go_num,by congr 1<;>omega,hD'⟩,by simp [intOf];omega⟩
    · have hkl:k=la.length:=by omega
      have hge:(la.length:Int)≤(k:Int):=by omega
      have er:=hO.cell la.length (by rw [wcells_len];omega);rw [wcells_at (by omega),Nat.zero_add] at er;have fr:=hO.frozen la.length
      have hsum:val (rl.set la.length c)=val la+val lb:=by
        have h1:val (rl.set la.length c)=val ((rl.set la.length c).take (la.length+1)):=by rw [List.take_of_length_le (by rw [List.length_set];omega)]
        rw [h1,val_set_succ (by omega),← hkl,hv,hkl,List.take_of_length_le (Nat.le_refl _),List.take_of_length_le hle]
      have hfin:Hid (Sl (wr.setCell ⟨w.heap.size,la.length,none⟩ (U32 (c:Int))) (.slice (some ⟨w.heap.size,0,none⟩) (la.length+1) (la.length+1)) 1 (rl.set la.length c).length (wcells (rl.set la.length c))):=by
        have h2:=(hO.set la.length (U32 (c:Int))).sl (n:=la.length+1) (cap:=la.length+1) (sz:=1) (by omega) (Nat.le_refl _) (by rw [List.length_set,wcells_len];omega);rw [List.length_set,hrl,wcells_set];exact h2
      have T:=Lib.hid (trim_any _ (rl.set la.length c) _ hfin.out (allW_set hrw _ (by omega)));rw [hsum] at T;have hk':=hbw.setCell (p:=⟨w.heap.size,la.length,none⟩) (Nat.le_refl _) (U32 (c:Int));have hi2:(la.length:Int) < (la.length:Int)+1:=by omega
      clear hfin hsum hO hv hD hrw hkl hr1 hr2;generalize rl.getD la.length 0=z at *
      go_wp2_with fail
      refine T.out.mono ?_;rintro e w3 ⟨v',rfl,hA,rfl⟩;go_wp2;go_ret;exact ⟨_,rfl,hA,hk'⟩
/-- the words of a sum -/
theorem add_any (va vb:Value) (n m:Nat) (w:World) (hA:Abs w va n) (hB:Abs w vb m) (hn:n < 4294967296^250) (hm:m < 4294967296^250):Calls Tryz.prog 141 #[va,vb] w (GrewAbs (n+m) w):=by
  obtain ⟨la,sa,ca⟩:=hA;obtain ⟨lb,sb,cb⟩:=hB;have h1:=can_len ca hn;have h2:=can_len cb hm
  by_cases h:lb.length≤la.length
  · have:=add_ge va vb la lb w sa sb ca.2.1 cb.2.1 h h1
    rwa [ca.1,cb.1] at this
  · have:=add_lt vb va lb la w sb sa cb.2.1 ca.2.1 (by omega) h2
    rwa [ca.1,cb.1,Nat.add_comm] at this
end Go.Proofs.YtfhmcahfjoliiaaGreatDoor
