/- great numbers: division by a power of two, word by word -/
import Derived.Test.YtfhmcahfjoliiaaGreatDoorPk13
import Derived.Laws.CopyOwn
set_option maxRecDepth 20000
set_option maxHeartbeats 8000000
set_option linter.unusedSimpArgs false
set_option linter.unusedVariables false
namespace Go.Proofs.YtfhmcahfjoliiaaGreatDoor
open Go.RowKit

theorem owns_full {w:World} {base e n g:Nat} {cs:List Value} (h:w.ownsRow base e 1 (.slice (some ⟨g,0,none⟩) n n) n cs):w.heap[g]?=some (.cells cs.toArray e (0,0)):=by
  obtain ⟨hl,h⟩:=h;rcases h with ⟨h,_⟩ | ⟨g',cap',cur,hv,hb,hg,hc,hm,hs,ht⟩
  · cases h
  · cases hv
    rw [hg,← ht,Nat.mul_one,List.take_of_length_le (by rw [Array.length_toList];omega)]
theorem owns_lt1 {w:World} {g:Nat} {o:Obj} (h:w.heap[g]?=some o):g < w.heap.size:=(Array.getElem?_eq_some_iff.1 h).1
theorem own_of_row {w:World} {g:Nat} {cs:List Value} {t:TypeId} (h:w.heap[g]?=some (.cells cs.toArray t (0,0))):Own w g cs:=
  ⟨cs.toArray,t,h,fun j hj=>by rw [List.getD_eq_getElem?_getD,List.getElem?_eq_getElem hj];simp [hj]⟩

/-- all rounds from k down: what is left of the number lies in u, the quotient's words in q -/
def DivRel (W : World) (gu gq U0 p L M k : Nat) (wr : World) : Prop :=
  (∃ ul ql:List Nat,ul.length=L+2∧ql.length=M+1∧allW ul∧allW ql∧Own wr gu (wcells ul)∧Own wr gq (wcells ql)∧val ul+2147483648*4294967296^p*val ql=U0 ∧
    ul.getD (k+p) 0 < 2147483648∧(∀ i,k+p < i→ul.getD i 0=0)∧∀ i,i < k→ql.getD i 0=0)∧Below W.heap.size W wr
theorem DivRel.drewN {W:World} {gu gq U0 p L M k:Nat} {wr:World} (h:DivRel W gu gq U0 p L M k wr) (q:Nat):DivRel W gu gq U0 p L M k (wr.drewN q):=by
  obtain ⟨⟨ul,ql,h1,h2,h3,h4,h5,h6,h7⟩,hb⟩:=h;exact ⟨⟨ul,ql,h1,h2,h3,h4,h5.drewN q,h6.drewN q,h7⟩,drewN_below hb q⟩
/-- within a round: the word below is turned, or not yet -/
def InRel (W:World) (gu gq:Nat) (ul ql:List Nat) (k p r x1 i:Nat) (c:Nat) (wr:World):Prop:=
  ((i≤p∧c=0∧Own wr gu (wcells ul))∨(i=p+1∧c=x1∧Own wr gu (wcells (ul.set (k+p) r))))∧Own wr gq (wcells ql)∧Below W.heap.size W wr

theorem kn_arith {x1 x0:Nat} (h1:x1 < 2147483648) (h0:x0 < 4294967296):∃ g b r:Nat,b≤1∧r < 2147483648∧g=2*x1+b∧x0=2147483648*b+r∧g < 4294967296∧4294967296*x1+x0=2147483648*g+r:=
  ⟨2*x1+x0 / 2147483648,x0 / 2147483648,x0%2147483648,by omega,by omega,rfl,by omega,by omega,by omega⟩

theorem kn_walk {x1 x0 g b r:Nat} (hb:b≤1) (hr:r < 2147483648) (_hx:x1 < 2147483648) (hg:g=2*x1+b) (h0:x0=2147483648*b+r):
    IntKind.u64.wrap (IntKind.u64.wrap ((x0:Int)-(g:Int)*2147483648%4294967296))=(r:Int)∧(g:Int)*2147483648 / 4294967296=(x1:Int)∧(r:Int)%4294967296=(r:Int)∧(r:Int) / 9223372036854775808=0:=by
  have e1:(g:Int)*2147483648=4294967296*(x1:Int)+2147483648*(b:Int):=by omega
  have e2:(0:Int)≤2147483648*(b:Int)∧2147483648*(b:Int) < 4294967296:=by omega
  have e3:(g:Int)*2147483648%4294967296=2147483648*(b:Int):=by
    rw [e1,Int.add_comm,Int.add_mul_emod_self_left,Int.emod_eq_of_lt e2.1 e2.2]
  have e4:(g:Int)*2147483648 / 4294967296=(x1:Int):=by
    rw [e1,Int.add_comm,Int.add_mul_ediv_left _ _ (by decide),Int.ediv_eq_zero_of_lt e2.1 e2.2,Int.zero_add]
  have e5:(x0:Int)-2147483648*(b:Int)=(r:Int):=by omega
  have r0:(0:Int)≤(r:Int):=by omega
  have r1:(r:Int) < 2147483648:=by omega
  have e6:IntKind.u64.wrap (r:Int)=(r:Int):=Int.emod_eq_of_lt r0 (Int.lt_trans r1 (by decide));refine ⟨?_,e4,Int.emod_eq_of_lt r0 (Int.lt_trans r1 (by decide)),Int.ediv_eq_zero_of_lt r0 (Int.lt_trans r1 (by decide))⟩;rw [e3,e5,e6,e6]
theorem kn_keep {x:Nat} (h:x < 4294967296):(x:Int)%4294967296=(x:Int)∧(x:Int) / 9223372036854775808=0:=⟨by omega,by omega⟩
theorem kn_rel {W:World} {gq U0 p L M k g r:Nat} {ul ql:List Nat} {wr:World} (hul:ul.length=L+2) (hql:ql.length=M+1) (huw:allW ul) (hqw:allW ql) (hk:k+p+1 < ul.length) (_hkq:k < ql.length)
    (hr:r < 2147483648) (hg:g < 4294967296) (hO:Own wr W.heap.size (wcells ((ul.set (k+p) r).set (k+p+1) 0))) (hQ:Own wr gq (wcells ql)) (hne:W.heap.size≠gq) (hle:W.heap.size≤gq) (hb:Below W.heap.size W wr)
    (hv:val ((ul.set (k+p) r).set (k+p+1) 0)+2147483648*4294967296^p*val (ql.set k g)=U0) (hz:∀ i,k+1+p < i→ul.getD i 0=0) (hq:∀ i,i < k+1→ql.getD i 0=0):
    Hid (DivRel W W.heap.size gq U0 p L M k (wr.setCell ⟨gq,k,none⟩ (U32 (g:Int)))):=by
  refine ⟨⟨(ul.set (k+p) r).set (k+p+1) 0,ql.set k g,by rw [List.length_set,List.length_set];exact hul,by rw [List.length_set];exact hql,allW_set (allW_set huw _ (by omega)) _ (by decide),allW_set hqw _ hg,hO.other (a:=⟨gq,k,none⟩) (fun h=>hne h.symm) _,by rw [wcells_set];exact hQ.set k _,hv,?_,?_,?_⟩,hb.setCell (p:=⟨gq,k,none⟩) hle _⟩
  · rw [getD_set_ne (by omega),getD_set_selfB (by omega)];exact hr
  · intro i hi
    by_cases h:k+p+1=i
    · subst h;rw [getD_set_selfB (by rw [List.length_set];exact hk)]
    · rw [getD_set_ne h,getD_set_ne (by omega)];exact hz i (by omega)
  · intro i hi
    rw [getD_set_ne (by omega)];exact hq i (by omega)
theorem div_pow (va vb : Value) (n e0 : Nat) (w : World) (hA : Abs w va n) (hB : Abs w vb (2 ^ e0)) (hn : n < 4294967296 ^ 200) (he : 32 ≤ e0) (he1 : e0 < 2900) (hb : 18446744073709551616 ≤ n) (hmn : 2 ^ e0 ≤ n) : Calls Tryz.prog 125 #[va, vb] w (GrewQR (n / 2 ^ e0) (n % 2 ^ e0) w) := by
  obtain ⟨i0,hi,hz0,hz1,hz2⟩:=info_parts infoWd;have C:=Lib.hid (cmp_any va vb n (2^e0) w hA hB);have hc:0≤cmpI n (2^e0):=by unfold cmpI;split<;>(try split)<;>omega
  -- e0 = 32 p + 31 - s
  obtain ⟨p,s,hs,hps,hp1,hp2⟩:∃ p s,s≤31∧e0+s=32*p+31∧1≤p∧p≤90:=⟨e0 / 32,31-e0%32,by omega,by omega,by omega,by omega⟩
  have hP:2^e0*2^s=2147483648*4294967296^p:=by
    rw [← Nat.pow_add,hps,Nat.pow_add,Nat.pow_mul,Nat.mul_comm]
  have hbl:blen (2^e0)=e0+1:=blen_eq (Nat.le_refl _) (by rw [Nat.pow_succ];have:=Nat.two_pow_pos e0;omega);have hle:2^e0 < 4294967296^240:=Nat.lt_of_le_of_lt hmn (Nat.lt_of_lt_of_le hn (Nat.pow_le_pow_right (by decide) (by decide)));have Ln:=Lib.hid (fun W hW=>length_any vb (2^e0) W hW (Nat.lt_of_lt_of_le hle (Nat.pow_le_pow_right (by decide) (by decide))));rw [hbl] at Ln;have Lb:=Lib.hid (fun W hW=>left_any vb (2^e0) s W hW hle (by omega));have La:=Lib.hid (fun W hW=>left_any va n s W hW (Nat.lt_of_lt_of_le hn (Nat.pow_le_pow_right (by decide) (by decide))) (by omega));rw [hP] at Lb;have HA:=Lib.hid hA;have HB:=Lib.hid hB;obtain ⟨la,hA,ca⟩:=hA;obtain ⟨lb,hB,cb⟩:=hB
  have hLb:lb.length=p+1:=by
    have h1:lb.length≤p+1:=can_len cb (by
      have:(4294967296:Nat)^(p+1)=2^(32*(p+1)):=by rw [Nat.pow_mul]
      rw [this];exact Nat.pow_lt_pow_right (by decide) (by omega))
    have h2:p < lb.length:=by
      refine Decidable.byContradiction fun h=>?_
      have:=can_lt cb (show lb.length≤p by omega);have h3:(4294967296:Nat)^p=2^(32*p):=by rw [Nat.pow_mul]
      rw [h3] at this;have:=(Nat.pow_lt_pow_iff_right (show 1 < 2 by decide)).1 this;omega
    omega
  have hLa:lb.length≤la.length:=by
    refine Decidable.byContradiction fun h=>?_
    have:=can_longer ca cb (by omega);omega
  have hl2:2 < la.length:=by
    refine Decidable.byContradiction fun h=>?_
    have:=can_lt ca (show la.length≤2 by omega);simp at this;omega
  have hl800:=can_len ca hn;have t1:((lb.length:Int)==0)=false:=by rw [beq_eq_false_iff_ne];omega
  have t2:¬ (la.length:Int)≤2:=by omega
  have t3:((lb.length:Int)==1)=false:=by rw [beq_eq_false_iff_ne];omega
  have t4:(e0:Int)%32=31-(s:Int):=by omega
  have hUlt:n*2^s < 4294967296^(la.length+1):=by
    have h1:=can_lt ca (Nat.le_refl la.length);have h2:2^s≤2^31:=Nat.pow_le_pow_right (by decide) hs;have h3:n*2^s < 4294967296^la.length*2^32:=Nat.mul_lt_mul_of_lt_of_le h1 (Nat.le_trans h2 (by decide)) (by decide);rw [Nat.pow_succ];exact h3
  have hq:=Lib.hid (show (n*2^s) / (2147483648*4294967296^p)=n / 2^e0 by rw [← hP,Nat.mul_div_mul_right _ _ (Nat.two_pow_pos s)]);have hr:=Lib.hid (show (n*2^s)%(2147483648*4294967296^p) / 2^s=n%2^e0 by rw [← hP,Nat.mul_mod_mul_right,Nat.mul_div_cancel _ (Nat.two_pow_pos s)]);have Rt:=Lib.hid (fun v W hW=>right_any v ((n*2^s)%(2147483648*4294967296^p)) s W hW (Nat.lt_of_le_of_lt (Nat.mod_le _ _) (Nat.lt_of_lt_of_le hUlt (Nat.pow_le_pow_right (by decide) (by omega)))) (by omega));rw [hr.out] at Rt;have hU0:0 < n*2^s:=Nat.mul_pos (by omega) (Nat.two_pow_pos s);generalize n / 2^e0=Q at *;generalize n%2^e0=R at *;generalize n*2^s=U0 at *;generalize cmpI n (2^e0)=cc at *;obtain ⟨a,cap,rfl,-⟩:=hA;obtain ⟨a2,cap2,rfl,-⟩:=hB;have HU:=Lib.hid hUlt;clear ca cb hn hb hmn hle hbl hP hUlt hps hr;have hLb1:lb.length≤p+1:=by omega
  have hLb2:p+1≤lb.length:=by omega
  clear hLb;go_enter Tryz.func125,Tryz.ntmps125
  go_wp2_with fail
  refine C.out.mono ?_;rintro e w1 ⟨rfl,k1⟩
  go_wp2_with fail
  refine (Ln.out _ (HB.out.below k1)).mono ?_;rintro e w' ⟨rfl,rfl⟩;have t5:((e0+1:Nat):Int)-1=(e0:Int):=by omega
  have t6:(32:Int)-(31-(s:Int))-1=(s:Int):=by omega
  go_wp2_with fail
  refine (Lb.out _ (HB.out.below k1)).mono ?_;rintro e w2 ⟨vv,rfl,hV,k2⟩;obtain ⟨vl,sV,cV⟩:=hV;obtain ⟨hvl,hvz,hvt⟩:=can_pow31 cV;obtain ⟨av,pv,rfl,hnv,hlv,h0v,hrv⟩:=sV;obtain ⟨bv,ov,rfl,hbv,hcv⟩:=hrv.resolve_left (by omega);have hv1:vl.length≤p+1:=by omega
  have hv2:p+1≤vl.length:=by omega
  have HCV:=Lib.hid hcv;have HVZ:=Lib.hid hvz;have HVT:=Lib.hid hvt;have kk2:=k1.trans (k2.mono k1.size);clear cV hvl hvz hvt hlv h0v hrv hcv C Ln Lb HB
  go_wp2_with (refine wpList_make_full _ rfl (.tmp 79) (.tmp 79) 124 rfl w2.heap.size 109 i0 (.int .u32 0) 1 Tryz.underlying124 hi hz0 hz1 .i64 .i64 _ _ (la.length+2) rfl rfl (by simp) (by simp) (by rw [hz2];omega) (by unfold maxLen;omega) (Nat.le_refl _) ?_;intro w3 hown hgrow;have hbel:=Below.grown (B:=w2.heap.size) (Below.refl _ w2) hgrow (Nat.le_refl _) (fun k hk=>by cases hk);have hrow:=Lib.hid (owns_full (made_int hown));clear hown hgrow)
  have hrl:=owns_lt1 hrow.out;refine (La.out _ (HA.out.below (kk2.trans (hbel.mono kk2.size)))).mono ?_;rintro e w4 ⟨vu,rfl,hU,k4⟩;obtain ⟨ll,sU,cU⟩:=hU;have hll:ll.length≤la.length+1:=can_len cU HU.out
  have hl0:ll.length≠0:=by
    intro h;have:=cU.1;rw [List.length_eq_zero_iff.1 h] at this;simp [val] at this;omega
  obtain ⟨au,pu,hvu,-,-,-,hru⟩:=id sU;obtain ⟨bu,ou,rfl,hbu,hcu⟩:=hru.resolve_left hl0;subst hvu;clear hru hl0 hU0;have hrow4:Hid (w4.heap[w2.heap.size]?=some (.cells (List.replicate (la.length+2) (.int .u32 0)).toArray 109 (0,0))):=(k4.block _ hrl).trans hrow.out;have hne4:=Lib.hid sU.news;have hzu:((List.replicate (la.length+2) (Value.int .u32 0)).length)=la.length+2:=by simp
  have CU:=Lib.hid cU;clear cU sU hcu;obtain ⟨M,hM⟩:∃ M:Nat,la.length=M+p:=⟨la.length-p,by omega⟩;have r14:(la.length:Int)+2-(vl.length:Int)-1=(M:Int):=by omega
  have hM1:la.length≤M+p:=by omega
  have hM2:M+p≤la.length:=by omega
  clear hM
  go_wp2_with (first
    | (refine wpList_make_full _ rfl (.tmp 94) (.tmp 94) 124 rfl w5.heap.size 109 i0 (.int .u32 0) 1 Tryz.underlying124 hi hz0 hz1 .i64 .i64 _ _ (M+1) rfl rfl (by simp) (by simp) (by rw [hz2];omega) (by unfold maxLen;omega) (Nat.le_refl _) ?_;intro w6 hown hgrow;have hb6:=Below.grown (B:=w5.heap.size) (Below.refl _ w5) hgrow (Nat.le_refl _) (fun k hk=>by cases hk);have hOq:=Own.of_owns (made_int hown);clear hown hgrow)
    | (refine wpList_copy_splice rfl (.tmp 81) (.tmp 84) 124 124 rfl 109 Tryz.underlying124 (by rw [hi];simp [hz1]) (some ⟨w2.heap.size,0,none⟩) (some ⟨bu,ou,none⟩) (la.length+2) (la.length+2) ll.length pu rfl rfl w2.heap.size 0 (List.replicate (la.length+2) (.int .u32 0)) 109 hrow4.out (wcells ll) (by rw [wcells_len];exact (Nat.min_eq_left (by omega)).symm) (fun _=>⟨rfl,_,rfl,hne4.out⟩) (by rw [wcells_len,hzu];omega) (oneCells_map (fun _=>rfl) _) w2.heap.size w2 (hbel.trans (k4.mono hbel.size)) (Nat.le_refl _) ?_;intro w5 hr5 hb5))
  have HR5:=Lib.hid (own_of_row hr5.out)
  have hls5:(splice (List.replicate (la.length+2) (Value.int .u32 0)) 0 (wcells ll))=wcells (ll++List.replicate (la.length+2-ll.length) 0):=by
    unfold splice wcells;rw [List.take_zero,List.nil_append,List.map_append,List.map_replicate,List.drop_replicate,List.length_map,Nat.zero_add]
    rfl
  rw [hls5] at HR5;clear hls5 hr5 hrow4 hrow hne4 hzu;have kk5:=kk2.trans (hb5.mono kk2.size);have HR6:=Lib.hid (HR5.out.below hb6);have hg1:w2.heap.size < w5.heap.size:=HR5.out.lt;have hg12:w2.heap.size≠w5.heap.size:=by omega
  obtain ⟨pp,hpp1,hpp2⟩:∃ pp:Nat,pp+1≤p∧p≤pp+1:=⟨p-1,by omega,by omega⟩;have hk26:Below w2.heap.size w2 w6:=hb5.trans (hb6.mono hb5.size)
  have hD:Hid (DivRel w2 w2.heap.size w5.heap.size U0 p la.length M (M+1) w6):=by
    refine ⟨⟨ll++List.replicate (la.length+2-ll.length) 0,List.replicate (M+1) 0,by simp;omega,by simp,?_,allW_replicate _,HR6.out,by unfold wcells;rw [List.map_replicate];exact hOq,?_,?_,?_,fun i _=>getD_replicate' _ i⟩,hk26⟩
    · intro d hd
      rcases List.mem_append.1 hd with h | h
      · exact CU.out.2.1 d h
      · rw [List.mem_replicate] at h;omega
    · rw [val_append,val_replicate,val_replicate,CU.out.1];simp
    · rw [List.getD_eq_getElem?_getD,List.getElem?_append_right (by omega),← List.getD_eq_getElem?_getD,getD_replicate'];decide
    · intro i hi
      rw [List.getD_eq_getElem?_getD,List.getElem?_append_right (by omega),← List.getD_eq_getElem?_getD,getD_replicate']
  have HV2:=Lib.hid (fun (W:World) (hW:Below w2.heap.size w2 W) j (hj:j < (wcells vl).length)=>(hW.cell (p:=⟨bv,ov+j,none⟩) hbv).trans (HCV.out j hj));have c1:=HV2.out w6 hk26 p (by rw [wcells_len];omega);have c2:=HV2.out w6 hk26 pp (by rw [wcells_len];omega);rw [wcells_at (by omega)] at c1 c2;rw [HVT.out] at c1;rw [HVZ.out pp (by omega)] at c2;have s1:(vl.length:Int)-1=(p:Int):=by omega
  have s2:(vl.length:Int)-2=(pp:Int):=by omega
  have s3:(0:Int)≤(p:Int):=by omega
  have s4:(p:Int) < (vl.length:Int):=by omega
  have s5:(0:Int)≤(pp:Int):=by omega
  have s6:(pp:Int) < (vl.length:Int):=by omega
  clear HR5 HR6 hOq hb6 hb5 kk5 hk26 La HA k4 hbel
  go_quiet (fail)
  go_wp2
  go_loopw [18,19,20,21,22,23,24,25,26,27] (fun j _ _ _ _ _ _ _ _ _ wr=>∃ k:Nat,k≤M+1∧j=I ((k:Int)-1)∧Hid (DivRel w2 w2.heap.size w5.heap.size U0 p la.length M k wr)) (fun j _ _ _ _ _ _ _ _ _ _=>(intOf j+1).toNat)
  case atStart=>exact ⟨M+1,Nat.le_refl _,by congr 1<;>omega,hD.out.drewN _⟩
  case round=>
    clear c1 c2;obtain ⟨k,hk,rfl,hD⟩:=hrel;obtain ⟨⟨ul,ql,hul,hql,huw,hqw,hOu,hOq,hval,htop,hzu,hzq⟩,hbw⟩:=hD.out;cases k with
    | zero=>
      have hlt:val ul < 2147483648*4294967296^p:=by
        have h1:=val_high (l:=ul) (k:=p+1) (fun i hi=>hzu i (by omega));rw [h1,val_take_succ (by omega)]
        have h2:val (ul.take p) < 4294967296^p:=by
          have:=val_lt (allW_take huw p)
          rwa [List.length_take,Nat.min_eq_left (by omega)] at this
        rw [Nat.zero_add] at htop;have h3:4294967296^p*(ul.getD p 0+1)≤4294967296^p*2147483648:=Nat.mul_le_mul_left _ htop;rw [Nat.mul_add,Nat.mul_one] at h3;rw [Nat.mul_comm 2147483648];omega
      obtain ⟨d1,d2⟩:=div_of (q:=val ql) (d:=2147483648*4294967296^p) (r:=val ul) (n:=U0) (by rw [← hval,Nat.mul_comm,Nat.add_comm]) hlt;rw [hq.out] at d1;have TQ:=Lib.hid (fun W hW=>trim_any (.slice (some ⟨w5.heap.size,0,none⟩) (M+1) (M+1)) ql W hW hqw);have TU:=Lib.hid (fun W hW=>trim_any (.slice (some ⟨w2.heap.size,0,none⟩) (la.length+2) (la.length+2)) ul W hW huw);rw [← d1] at TQ;rw [← d2] at TU
      have HSQ:Hid (Sl wr (.slice (some ⟨w5.heap.size,0,none⟩) (M+1) (M+1)) 1 ql.length (wcells ql)):=by
        have h2:=hOq.sl (n:=M+1) (cap:=M+1) (sz:=1) (by omega) (Nat.le_refl _) (by rw [wcells_len];omega);rw [hql];exact h2
      have HSU:Hid (Sl wr (.slice (some ⟨w2.heap.size,0,none⟩) (la.length+2) (la.length+2)) 1 ul.length (wcells ul)):=by
        have h2:=hOu.sl (n:=la.length+2) (cap:=la.length+2) (sz:=1) (by omega) (Nat.le_refl _) (by rw [wcells_len];omega);rw [hul];exact h2
      have kw:=kk2.trans (hbw.mono kk2.size);clear d1 d2 hlt hOu hOq hval htop hzu hzq hD huw hqw
      go_wp2_with fail
      refine (TQ.out _ HSQ.out).mono ?_;rintro e wQ ⟨vq,rfl,hAq,rfl⟩
      go_wp2_with fail
      refine (TU.out _ HSU.out).mono ?_;rintro e wU ⟨vu,rfl,hAu,rfl⟩
      go_wp2_with fail
      refine (Rt.out _ _ hAu).mono ?_;rintro e wR ⟨vr,rfl,hAr,kr⟩;go_wp2;go_ret2;exact ⟨_,_,rfl,hAq.below kr,hAr,kw.trans (kr.mono kw.size)⟩
    | succ k=>
      rw [show (((k+1:Nat):Int)-1)=(k:Int) by omega];have hi0:(0:Int)≤(k:Int):=by omega
      have n1:k+p+1 < ul.length:=by omega
      have x1c:=hOu.cell (k+p+1) (by rw [wcells_len];omega);have x0c:=hOu.cell (k+p) (by rw [wcells_len];omega);have x2c:=hOu.cell (k+pp) (by rw [wcells_len];omega);have qc:=hOq.cell k (by rw [wcells_len];omega);rw [wcells_at (by omega),Nat.zero_add] at x1c x0c x2c qc;rw [hzq k (by omega)] at qc;have fu1:=hOu.frozen (k+p+1);have fu0:=hOu.frozen (k+p);have fq:=hOq.frozen k;have hx0:=allW_at huw (k+p);have hx2:=allW_at huw (k+pp);have hst:=Lib.hid (fun g r hg=>kn_step (u:=ul) (q:=ql) (n:=p+1) (j:=k) (g:=g) (r:=r) (U:=U0) (by omega) (by omega) (by omega) (hzq k (by omega)) hval hg);rw [show k+1+p=k+p+1 by omega] at htop;have HOu:=Lib.hid hOu;have HOq:=Lib.hid hOq;have HZu:=Lib.hid hzu;have HZq:=Lib.hid hzq;rw [show k+(p+1)=k+p+1 by omega,show k+p+1-1=k+p by omega,Nat.add_sub_cancel] at hst;clear hOu hOq hval hzu hzq hD;generalize hX1:ul.getD (k+p+1) 0=x1 at *;generalize hX0:ul.getD (k+p) 0=x0 at *;generalize ul.getD (k+pp) 0=x2 at *;have HX0:=Lib.hid hX0;have HX1:=Lib.hid hX1;clear hX1 hX0;obtain ⟨g,b,r,hb1,hr1,hg,h0,hg1,hgr⟩:=kn_arith htop hx0;have hst2:=Lib.hid (hst.out g r hgr.symm);have H0:=Lib.hid (And.intro hg h0);have y1:=or64s x1 x0 (by omega) hx0;have y2:=or64s r x2 (by omega) hx2;rw [hgr] at y1;have y3:((2147483648*g+r:Nat):Int) / 2147483648=(g:Int):=by omega
      have y4:((2147483648*g+r:Nat):Int)%2147483648=(r:Int):=by omega
      generalize 2147483648*g+r=hh at *;generalize 4294967296*r+x2=yy at *;have z1:(k:Int)+(vl.length:Int)=((k+p+1:Nat):Int):=by omega
      have z2:((k+p+1:Nat):Int)-1=((k+p:Nat):Int):=by omega
      have z3:((k+p+1:Nat):Int)-2=((k+pp:Nat):Int):=by omega
      have z4:((k+p+1:Nat):Int) < (la.length:Int)+2:=by omega
      have z5:((k+p:Nat):Int) < (la.length:Int)+2:=by omega
      have z6:((k+pp:Nat):Int) < (la.length:Int)+2:=by omega
      clear h0 hg hgr hst;go_wp2
      go_quiet (fail)
      go_wp2
      go_quiet (fail)
      go_wp2;rw [World.drewN_drewN]
      go_loopw [20,21] (fun gv rv wr'=>gv=.int .u64 g∧rv=.int .u64 r∧∃ q,wr'=wr.drewN q) (fun _ _ _=>0)
      case atStart=>exact ⟨rfl,by first | rfl | rw [y4],_,rfl⟩
      case round=>
        obtain ⟨rfl,rfl,q1,rfl⟩:=hrel;have z7:¬ (4294967295:Int) < (g:Int):=by omega
        have z8:(0:Int)≤(yy:Int):=by omega
        have z9:(k:Int)+(p:Int)+1-2=(k:Int)+(pp:Int):=by omega
        have z10:(k:Int)+(p:Int)-1=(k:Int)+(pp:Int):=by omega
        have z11:((k:Int)+(pp:Int)).toNat=k+pp:=by omega
        have z12:(0:Int)≤(k:Int)+(pp:Int):=by omega
        have z13:(k:Int)+(pp:Int) < (la.length:Int)+2:=by omega
        go_wp2;clear x1c x0c x2c qc fu1 fu0 fq y1 y2 y3 y4 z1 z2 z3 z4 z5 z6 z9 z10 z11 z12 z13 z8
        go_loopw [22,23,24,25] (fun c d i _ wi=>∃ i':Nat,i'≤p+1∧i=I i'∧d=.int .u64 0∧((i'≤p∧c=.int .u64 0∧Hid (Own wi w2.heap.size (wcells ul)))∨(p+1≤i'∧c=.int .u64 x1∧Hid (Own wi w2.heap.size (wcells (ul.set (k+p) r)))))∧Hid (Own wi w5.heap.size (wcells ql))∧Below w2.heap.size w2 wi) (fun _ _ i _ _=>p+1-(intOf i).toNat)
        case atStart=>exact ⟨0,by omega,rfl,rfl,.inl ⟨by omega,rfl,HOu.out.drewN _⟩,HOq.out.drewN _,drewN_below hbw _⟩
        case round=>
          obtain ⟨i,hi',rfl,rfl,hcase,HOq',hbi⟩:=hrel;have m0:(0:Int)≤(i:Int):=by omega
          have m1:(i:Int)+(k:Int) < (la.length:Int)+2:=by omega
          have m2:(0:Int)≤(i:Int)+(k:Int):=by omega
          have m3:((i:Int)+(k:Int)).toNat=i+k:=by omega
          rcases hcase with ⟨hip,rfl,HOu'⟩ | ⟨hip,rfl,HOu'⟩
          · have hlt:(i:Int) < (vl.length:Int):=by omega
            have hcv:=HV2.out wr hbi i (by rw [wcells_len];omega);rw [wcells_at (by omega)] at hcv;have uc:=HOu'.out.cell (i+k) (by rw [wcells_len];omega);rw [wcells_at (by omega),Nat.zero_add] at uc;have fu:=HOu'.out.frozen (i+k)
            by_cases hlp:i < p
            · rw [HVZ.out i hlp] at hcv
              have hxx:=allW_at huw (i+k);have hnew:=Lib.hid (HOu'.out.set (i+k) (U32 ((ul.getD (i+k) 0:Nat):Int)));rw [← wcells_set,set_same_id (show i+k < ul.length by omega)] at hnew;generalize ul.getD (i+k) 0=xx at *;go_wp2;obtain ⟨eX,eY⟩:=kn_keep hxx;exact ⟨⟨i+1,by omega,by go_num,by first | rfl | rw [eY],.inl ⟨by omega,rfl,by first | exact hnew | (rw [eX];exact hnew)⟩,HOq'.out.other (a:=⟨w2.heap.size,i+k,none⟩) hg12 _,hbi.setCell (p:=⟨w2.heap.size,i+k,none⟩) (Nat.le_refl _) _⟩,by simp [intOf];omega⟩
            · have hip2:i=p:=by omega
              subst hip2;rw [HVT.out] at hcv;rw [Nat.add_comm i k,HX0.out] at uc;have hnew:=Lib.hid (HOu'.out.set (k+i) (U32 (r:Int)));rw [← wcells_set] at hnew;rw [Nat.add_comm i k] at fu m3;go_wp2;obtain ⟨eA,eB,eC,eD⟩:=kn_walk hb1 hr1 htop H0.out.1 H0.out.2;rw [eA,eB,eC,eD];exact ⟨⟨i+1,by omega,by go_num,rfl,.inr ⟨by omega,rfl,hnew⟩,HOq'.out.other (a:=⟨w2.heap.size,k+i,none⟩) hg12 _,hbi.setCell (p:=⟨w2.heap.size,k+i,none⟩) (Nat.le_refl _) _⟩,by simp [intOf];try omega⟩
          · have hge:(vl.length:Int)≤(i:Int):=by omega
            have n2:k+p+1 < (ul.set (k+p) r).length:=by rw [List.length_set];omega
            have uc:=HOu'.out.cell (k+p+1) (by rw [wcells_len];omega);rw [wcells_at n2,Nat.zero_add,getD_set_ne (by omega),HX1.out] at uc;have fu:=HOu'.out.frozen (k+p+1);have qc:=HOq'.out.cell k (by rw [wcells_len];omega);rw [wcells_at (by omega),Nat.zero_add] at qc;have fq:=HOq'.out.frozen k;have hnewU:=Lib.hid (HOu'.out.set (k+p+1) (U32 ((0:Nat):Int)));rw [← wcells_set] at hnewU;have HREL:=Lib.hid (kn_rel (g:=g) hul hql huw hqw n1 (by omega) hr1 hg1 hnewU.out (HOq'.out.other (a:=⟨w2.heap.size,k+p+1,none⟩) hg12 _) hg12 (by omega) (hbi.setCell (p:=⟨w2.heap.size,k+p+1,none⟩) (Nat.le_refl _) _) hst2.out HZu.out HZq.out);have l1:(k:Int)+(vl.length:Int)=((k+p+1:Nat):Int):=by omega
            have l2:((k+p+1:Nat):Int) < (la.length:Int)+2:=by omega
            have l3:(k:Int) < (M:Int)+1:=by omega
            generalize ql.getD k 0=qq at *;go_wp2;exact ⟨⟨k,by omega,rfl,HREL.out⟩,by simp [intOf];try omega⟩
end Go.Proofs.YtfhmcahfjoliiaaGreatDoor
