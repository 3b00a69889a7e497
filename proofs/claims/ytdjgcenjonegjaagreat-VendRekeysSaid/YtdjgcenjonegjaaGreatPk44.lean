/- great numbers: a quotient by one word lies in new memory · (*Int).Text in base 10, (*Int).String, ref.WideShown · token.Format, ref.Formatted · ref.Formatted, where the token may be · token.Format, ref.Formatted: one contract for both · the map of the oracle: what was tagged, by meter, revision and body -/
import Derived.Test.YtdjgcenjonegjaaGreatPk40
import Derived.Test.YtdjgcenjonegjaaGreatPk43
import Derived.Deep.LoopGhost
import Derived.Test.YtdjgcenjonegjaaGreatPk01
import Derived.Test.YtdjgcenjonegjaaGreatPk00
import Derived.Maps.Own
import Derived.Maps.OwnOps
set_option maxRecDepth 20000
set_option maxHeartbeats 8000000
set_option linter.unusedSimpArgs false
set_option linter.unusedVariables false
namespace Go.Proofs.YtdjgcenjonegjaaGreat
section
open Go.RowKit

/-- trim keeps the array -/
theorem trim_new (a : Option Addr) (n cap : Nat) (l : List Nat) (w : World) (h : Sl w (.slice a n cap) 1 l.length (wcells l)) (hw : allW l) :
    Calls Tryz.prog 161 #[.slice a n cap] w (fun e w'=>∃ q,e=.returned (.slice a q cap)∧Abs w (.slice a q cap) (val l)∧w=w'):=by
  have hS:=h;obtain ⟨a,cap,he,hn,hl,h0,hr⟩:=h;simp only [Value.slice.injEq] at he;obtain ⟨rfl,rfl,rfl⟩:=he;clear hl h0;go_enter Tryz.func161,Tryz.ntmps161;go_wp2
  go_loop [3] (fun i=>∃ q:Nat,q≤l.length∧i=I q∧Hid (val (l.take q)=val l)) (fun i=>(intOf i).toNat)
  case atStart=>exact ⟨l.length,Nat.le_refl _,rfl,by unfold Hid;rw [List.take_of_length_le (Nat.le_refl _)]⟩
  case round=>
    obtain ⟨q,hq,rfl,hv⟩:=hrel;cases q with
    | zero=>
      have hA:Hid (Abs w (.slice a 0 cap) (val l)):=⟨_,by have:=hS.cut (Nat.zero_le _) rfl;simpa using this,can_take hw (Nat.zero_le _) hv.out (fun k hk=>by omega)⟩;clear hS hr hv;go_wp2;go_ret;exact ⟨_,rfl,hA,rfl⟩
    | succ q=>
      obtain ⟨b,off,rfl,hb,hcell⟩:=hr.resolve_left (by omega);have e0:=hcell q (by rw [wcells_len];omega);rw [wcells_at (by omega)] at e0;have hi0:(0:Int)≤(q:Int):=by omega
      have hi1:(q:Int) < (l.length:Int):=by omega
      have hnx:=Lib.hid (show l.getD q 0=0→val (l.take q)=val l from fun h0=>by rw [← val_take (by omega) h0];exact hv.out)
      have hst:=Lib.hid (show l.getD q 0≠0→Abs w (.slice (some ⟨b,off,none⟩) (q+1) cap) (val l) from fun h0=>
        ⟨_,by have:=hS.cut hq rfl;rw [show (l.take (q+1)).length=q+1 by rw [List.length_take];omega];exact this,can_take hw hq hv.out (fun k hk=>by rw [show k=q by omega];exact h0)⟩)
      clear hr hcell hv hS;generalize l.getD q 0=x at *
      by_cases hx:x=0
      · have H:=Lib.hid (hnx.out hx)
        have hx2:(((x:Nat):Int)==0)=true:=by simp [hx]
        clear hnx hst hx;go_wp2
        go_round
        case rel=>first | exact ⟨q,by omega,by go_num,H⟩ | (refine ⟨rfl,?_⟩;(repeat apply Exists.intro);refine ⟨?_,rfl⟩;exact ⟨q,by omega,by go_num,H⟩) | (refine ⟨trivial,?_⟩;(repeat apply Exists.intro);refine ⟨?_,rfl⟩;exact ⟨q,by omega,by go_num,H⟩) | ((repeat apply Exists.intro);refine ⟨?_,rfl⟩;exact ⟨q,by omega,by go_num,H⟩)
        case measure=>(simp [intOf];try omega)
      · have H:=Lib.hid (hst.out hx)
        have hx2:(((x:Nat):Int)==0)=false:=by simp;omega
        have hc1:q+1≤cap:=by omega
        clear hnx hst hx;go_wp2;go_ret;exact ⟨_,rfl,H.out,rfl⟩

/-- .. the quotient in memory that was not there, and the rest -/
def GrewNew (n r:Nat) (w:World) (e:Ending) (w':World):Prop:=∃ q c,e=.returned (T2 (.slice (some ⟨w.heap.size,0,none⟩) q c) (U32 r))∧Abs w' (.slice (some ⟨w.heap.size,0,none⟩) q c) n∧Below w.heap.size w w'
theorem small_new (va : Value) (n d : Nat) (w : World) (hA : Abs w va n) (hn : n < 4294967296 ^ 250) (hd0 : 0 < d) (hd1 : d < 4294967296) : Calls Tryz.prog 145 #[va, U32 d] w (GrewNew (n / d) (n % d) w) := by
  obtain ⟨la,hA,ca⟩:=hA;have h1:=can_len ca hn;clear hn;obtain ⟨i0,hi,hz0,hz1,hz2⟩:=info_parts infoWd;obtain ⟨a,cap,rfl,hn1,hl1,h01,hr1⟩:=hA;clear hl1 h01;have CA:=Lib.hid ca;clear ca;go_enter Tryz.func145,Tryz.ntmps145
  go_wp2_with (refine wpList_make_full _ rfl (.tmp 10) (.tmp 10) 25 rfl w.heap.size 80 i0 (.int .u32 0) 1 Tryz.underlying25 hi hz0 hz1 .i64 .i64 _ _ la.length rfl rfl (by simp) (by simp) (by rw [hz2];omega) (by unfold maxLen;omega) (Nat.le_refl _) ?_;intro w2 hown hgrow;have hbel:=Below.grown (B:=w.heap.size) (Below.refl _ w) hgrow (Nat.le_refl _) (fun k hk=>by cases hk);have hO:=Own.of_owns (made_int hown);clear hown hgrow)
  have hD:Hid (SmallRel w w.heap.size la d la.length 0 w2):=⟨⟨List.replicate la.length 0,by simp,allW_replicate _,by unfold wcells;rw [List.map_replicate];exact hO,by rw [val_replicate,List.take_of_length_le (Nat.le_refl _)];simp,fun i _=>getD_replicate' _ i⟩,hbel⟩;clear hO hbel
  go_loopw [7,8] (fun rv i wr=>∃ k r:Nat,k≤la.length∧r < d∧i=I ((k:Int)-1)∧rv=.int .u64 r∧Hid (SmallRel w w.heap.size la d k r wr)) (fun _ i _=>(intOf i+1).toNat)
  case atStart=>exact ⟨la.length,0,Nat.le_refl _,hd0,rfl,rfl,hD⟩
  case round=>
    obtain ⟨k,r,hk,hr,rfl,rfl,hD⟩:=hrel;obtain ⟨⟨ql,hql,hqw,hO,hv,hz⟩,hbw⟩:=hD.out;cases k with
    | zero=>
      obtain ⟨q1,q2⟩:=div_of (q:=val ql) (d:=d) (r:=r) (n:=n) (by rw [← CA.out.1,← hv];simp [val]) hr
      have hfin:Hid (Sl wr (.slice (some ⟨w.heap.size,0,none⟩) la.length la.length) 1 ql.length (wcells ql)):=by
        have h2:=hO.sl (n:=la.length) (cap:=la.length) (sz:=1) (by omega) (Nat.le_refl _) (by rw [wcells_len];omega);rw [hql];exact h2
      have T:=Lib.hid (trim_new _ _ _ ql _ hfin.out hqw);rw [← q1] at T;have Q2:=Lib.hid q2;have hr32:(r:Int)%4294967296=(r:Int):=by omega
      have HR:=Lib.hid hr32;clear hfin q1 q2 hO hv hD hqw hz hr1 hr32
      go_wp2_with fail
      refine T.out.mono ?_;rintro e w3 ⟨q',rfl,hA,rfl⟩;go_wp2;go_ret2;exact ⟨_,_,by rw [Q2.out];rfl,hA,hbw⟩
    | succ k=>
      rw [show (((k+1:Nat):Int)-1)=(k:Int) by omega];have hi0:(0:Int)≤(k:Int):=by omega
      have hi1:(k:Int) < (la.length:Int):=by omega
      obtain ⟨b,off,rfl,hb,hcell⟩:=hr1.resolve_left (by omega);have ea:=(hbw.cell (p:=⟨b,off+k,none⟩) hb).trans (hcell k (by rw [wcells_len];omega));rw [wcells_at (by omega)] at ea;have er:=hO.cell k (by rw [wcells_len];omega);rw [wcells_at (by omega),Nat.zero_add] at er;have fr:=hO.frozen k;have hx:=allW_at CA.out.2.1 k;have hst:=Lib.hid (small_step (show k < la.length by omega) (show k < ql.length by omega) (hz k (by omega)) hv);have HO:=Lib.hid hO;have HZ:=Lib.hid hz;clear hcell hr1 hO hv hz hD;generalize la.getD k 0=x at *;generalize ql.getD k 0=z at *;have hor:=Lib.hid (or64s r x (by omega) hx);go_wp2;rw [hor.out]
      have hdl:(4294967296*r+x) / d < 4294967296:=by
        refine Nat.div_lt_of_lt_mul ?_;omega
      have hml:(4294967296*r+x)%d < d:=Nat.mod_lt _ hd0;have e1:(((4294967296*r+x:Nat):Int)).tmod (d:Int)=(((4294967296*r+x)%d:Nat):Int):=rfl;have e2:(((4294967296*r+x:Nat):Int)).tdiv (d:Int)=(((4294967296*r+x) / d:Nat):Int):=rfl;rw [e1,e2]
      have e3:∀ Q:Nat,Q < 4294967296→IntKind.u64.wrap (Q:Int)%4294967296=(Q:Int):=fun Q hQ=>by
        show (Q:Int)%18446744073709551616%4294967296=_;omega
      rw [e3 _ hdl];exact ⟨⟨k,(4294967296*r+x)%d,by omega,hml,rfl,rfl,⟨⟨ql.set k ((4294967296*r+x) / d),by rw [List.length_set];exact hql,allW_set hqw _ hdl,by rw [wcells_set];exact HO.out.set k _,hst.out,fun j hj=>by rw [getD_set_ne (by omega)];exact HZ.out j (by omega)⟩,hbw.setCell (p:=⟨w.heap.size,k,none⟩) (Nat.le_refl _) _⟩⟩,by simp [intOf];try omega⟩
end
section
open Go.RowKit

theorem infoU8:(Tryz.prog.info? 5).map (fun i=>(i.zero,i.size,i.bytes))=some (some (.int .u8 0),1,1):=by kernel_rfl
theorem Abs.grown {w w':World} {b n c N:Nat} {row:Option Nat} (h:Abs w (.slice (some ⟨b,0,none⟩) n c) N) (hg:w.grownBy w' row) (hne:some b≠row):Abs w' (.slice (some ⟨b,0,none⟩) n c) N:=by
  obtain ⟨l,⟨a,cap,he,h1,h2,h3,h4⟩,hC⟩:=h;refine ⟨l,⟨a,cap,he,h1,h2,h3,?_⟩,hC⟩;rcases h4 with h4 | ⟨b',off,ha,hb,hc⟩
  · exact .inl h4
  · simp only [Value.slice.injEq] at he
    obtain ⟨he,_,_⟩:=he;rw [ha] at he;simp only [Option.some.injEq,Addr.mk.injEq] at he;obtain ⟨rfl,rfl,_⟩:=he;exact .inr ⟨b,0,ha,Nat.lt_of_lt_of_le hb hg.size,fun j hj=>hg.cell (hc j hj) hne⟩
def TextRel (W:World) (N k:Nat) (sv av:Value) (wr:World):Prop:=
  wr.ownsRow W.heap.size 5 1 sv k (bytesD N k)∧Abs wr av (N / 10^k)∧Below W.heap.size W wr
theorem Text_any (x N : Nat) (w : World) (hx : BN w x N) (hN : N < 10 ^ 40) : Calls Tryz.prog 103 #[.pointer (some ⟨x, 0, none⟩), I 10] w (GrewShow N w) := by
  obtain ⟨vx,x1,x2⟩:=hx;obtain ⟨cx0,cx1,-,-⟩:=x1.cells;have hxl:=x1.lt;have big:N < 4294967296^250:=Nat.lt_trans hN (Nat.lt_of_lt_of_le (by decide:10^40 < 4294967296^5) (Nat.pow_le_pow_right (by decide) (by decide)))
  by_cases h0:N=0
  · subst h0
    obtain ⟨la,hA,ca⟩:=x2
    have hl:la=[]:=
      can_zero ca
    subst hl;obtain ⟨a,cap,rfl,hn1,hl1,h01,hr1⟩:=hA;clear hr1 hl1 h01 ca;go_enter Tryz.func103,Tryz.ntmps103;go_wp2;go_ret;exact ⟨1,⟨by decide,rfl,.inl rfl⟩,rfl,Below.refl _ _⟩
  · obtain ⟨i0, hi, hz0, hz1, hz2⟩ := info_parts infoU8
    have Tw:=Lib.hid (twin_any vx N w x2 big);have X2:=x2;obtain ⟨la,hA,ca⟩:=x2
    have hla:0 < la.length:=by
      cases hla:la.length with
      | zero=>
        rw [List.length_eq_zero_iff.1 hla] at ca;exact absurd ca.1.symm h0
      | succ k=>omega
    obtain ⟨a,cap,rfl,hn1,hl1,h01,hr1⟩:=hA;have hla':¬ (la.length:Int)=0:=by omega
    clear hr1 hl1 h01 ca X2 x1;go_enter Tryz.func103,Tryz.ntmps103
    go_wp2_with fail
    refine Tw.out.mono ?_;rintro e w1 ⟨av,rfl,hAv,k1⟩;have hD:Hid (TextRel w N 0 (.slice none 0 0) av w1):=⟨World.ownsRow_nil _ _ _ _,by rw [Nat.pow_zero,Nat.div_one];exact hAv,k1⟩;go_wp2
    go_loopg [5,6,7] N (fun gk sv av _ wr=>∃ k,k≤40∧gk=N / 10^k∧Hid (k=0∨N / 10^(k-1)≠0)∧Hid (TextRel w N k sv av wr))
    case atStart=>exact ⟨0,by decide,by rw [Nat.pow_zero,Nat.div_one],.inl rfl,hD⟩
    case round=>
      clear hD;obtain ⟨k,hk,rfl,hk0,hD⟩:=hrel;obtain ⟨hown,hA,hbw⟩:=hD.out
      by_cases hz:N / 10^k=0
      · have hk1:1≤k:=by
          cases k with
          | zero=>rw [Nat.pow_zero,Nat.div_one] at hz;exact absurd hz h0
          | succ k=>omega
        have hL:IsLen N k:=⟨hk1,hz,.inr (hk0.out.resolve_left (by omega))⟩;rw [hz] at hA;obtain ⟨la2,hA2,ca2⟩:=hA;have hl2:=can_zero ca2;subst hl2;obtain ⟨a2,cap2,rfl,hn2,hl2,h02,hr2⟩:=hA2;clear hr2 hl2 h02 ca2 hn2;obtain ⟨g,cap3,rfl,hgb,hcap,hO⟩:=(owns_cases hown).resolve_left (by omega);rw [← revMix_zero] at hO;have hx0:=(hbw.cell (p:=⟨x,0,none⟩) hxl).trans cx0;have hRV:Hid (Own wr g (revMix N k 0)∧Below w.heap.size w wr):=⟨hO,hbw⟩;clear hown hD hO hbw;go_wp2
        go_loopw [8,9,10] (fun i j _ wr2=>∃ q p:Nat,q+p+1=k∧q≤p+1∧i=I q∧j=I p∧Hid (Own wr2 g (revMix N k q)∧Below w.heap.size w wr2)) (fun i _ _ _=>(k-intOf i).toNat)
        case atStart=>exact ⟨0,k-1,by omega,by omega,rfl,eI (by omega),hRV⟩
        case round=>
          clear hRV;obtain ⟨q,p,hqp,hqp1,rfl,rfl,hRV⟩:=hrel;obtain ⟨hO,hb2⟩:=hRV.out
          by_cases hlt:q < p
          · have hq0:(0:Int)≤(q:Int):=by omega
            have hq1:(q:Int) < (k:Int):=by omega
            have hp0:(0:Int)≤(p:Int):=by omega
            have hp1:(p:Int) < (k:Int):=by omega
            have hltI:(q:Int) < (p:Int):=by omega
            have hqne:¬ q=p:=by omega
            have hpne:¬ p=q:=by omega
            have eq1:=hO.cell q (by rw [revMix_len];omega);rw [Nat.zero_add,revMix_at (by omega),if_neg (by omega)] at eq1;have ep1:=hO.cell p (by rw [revMix_len];omega);rw [Nat.zero_add,revMix_at (by omega),if_neg (by omega)] at ep1;have fq:=hO.frozen q;have fp:=hO.frozen p;have hsucc:=revMix_succ (N:=N) (L:=k) (i:=q) (by omega);rw [show k-1-q=p by omega] at hsucc;have hO2:=(hO.set q (.int .u8 ((dig N p:Nat):Int))).set p (.int .u8 ((dig N q:Nat):Int));rw [hsucc] at hO2
            have hnew:Hid (Own ((wr.setCell ⟨g,q,none⟩ (.int .u8 ((dig N p:Nat):Int))).setCell ⟨g,p,none⟩ (.int .u8 ((dig N q:Nat):Int))) g (revMix N k (q+1))∧Below w.heap.size w ((wr.setCell ⟨g,q,none⟩ (.int .u8 ((dig N p:Nat):Int))).setCell ⟨g,p,none⟩ (.int .u8 ((dig N q:Nat):Int)))):=
              ⟨hO2,(hb2.setCell (p:=⟨g,q,none⟩) hgb _).setCell (p:=⟨g,p,none⟩) hgb _⟩
            clear hO2 hsucc hO hb2 hRV;generalize dig N p=dp at *;generalize dig N q=dq at *;have r1:=set_same;have r2:=set_off;go_wp2;exact ⟨⟨q+1,p-1,by omega,by omega,by go_num,eI (by omega),hnew⟩,by simp [intOf];try omega⟩
          · have hltI:¬ (q:Int) < (p:Int):=by omega
            have hcv:=fun T=>Go.Lib.run_convert_whole (P:=Tryz.prog) T 182 5 9 (by kernel_rfl) (by kernel_rfl) (by kernel_rfl) g 0 (showB N k);have hcv2:=hcv wr (show_bytes (i:=q) (by omega) hO) cap3;rw [showB_size] at hcv2;clear hcv hO hRV;go_wp2;go_ret;exact ⟨k,hL,rfl,hb2⟩
      · have hk40:k < 40:=Decidable.byContradiction fun hc=>hz (div_more (Nat.div_eq_of_lt hN) (by omega))
        have Sm:=Lib.hid (small_new _ _ 10 wr hA (Nat.lt_of_le_of_lt (Nat.div_le_self _ _) big) (by decide) (by decide));rw [Nat.div_div_eq_div_mul,← Nat.pow_succ] at Sm;have hr10:N / 10^k%10 < 10:=Nat.mod_lt _ (by decide);have hdg:=Lib.hid (show dig N k=48+N / 10^k%10 from rfl)
        have hless:N / 10^(k+1) < N / 10^k:=by
          rw [Nat.pow_succ,← Nat.div_div_eq_div_mul];exact Nat.div_lt_self (Nat.pos_of_ne_zero hz) (by decide)
        obtain ⟨la2,hA2,ca2⟩:=hA
        have hl2:0 < la2.length:=by
          cases hla2:la2.length with
          | zero=>
            rw [List.length_eq_zero_iff.1 hla2] at ca2;exact absurd ca2.1.symm hz
          | succ j=>omega
        obtain ⟨a2,cap2,rfl,hn2,hl22,h02,hr2⟩:=hA2;have hl2':(0:Int) < (la2.length:Int):=by omega
        have hzz:=Lib.hid hz;have hsz:=hbw.size;clear hr2 hl22 h02 ca2 hn2 hz hD;generalize N / 10^k%10=r at *;have hr10':(r:Int) < 10:=by omega
        have hrw:(48+(r:Int))%256=48+(r:Int):=by omega
        have hown2:=Lib.hid hown;clear hown
        go_wp2_with fail
        refine Sm.out.mono ?_;rintro e w2 ⟨q',c',rfl,hA',k2⟩;have hown3:=owns_kept hown2.out k2;have hbw2:=hbw.trans (k2.mono hbw.size);have hsz2:=hbw2.size
        go_wp2_with ((at_builtin;refine wpList_append_own _ rfl _ _ 182 rfl w.heap.size 5 i0 (.int .u8 0) 1 1 Tryz.underlying182 hi hz0 hz1 hz2 rfl (by decide) _ _ _ rfl (hown3.alloc _) ⟨w2.heap.size,0,none⟩ 1 1 [.int .u8 (48+(r:Int))] rfl rfl (news_lit _ [.int .u8 (48+(r:Int))] _) (oneCells_lit rfl) (by unfold maxLen;omega) (by omega) (by simp;omega) ?_;intro v' w1 hown' hgrow _))
        have hbel:=grown_below (hbw2.alloc hsz2 _) (hown3.alloc _) (Nat.le_refl _) hgrow;have hA'':=(hA'.below (boxed_below w2 (.cells #[.int .u8 (48+(r:Int))] 5))).grown hgrow (fun he=>by have:=(hown2.out.lt _ he.symm).2;omega);rw [show bytesD N k++[.int .u8 (48+(r:Int))]=bytesD N (k+1) by rw [bytesD_succ,hdg.out];rfl] at hown';have hnew:Hid (TextRel w N (k+1) v' (.slice (some ⟨wr.heap.size,0,none⟩) q' c') w1):=⟨hown',hA'',hbel⟩;have HNE:=Lib.hid (show k+1=0∨N / 10^(k+1-1)≠0 from .inr hzz.out);clear hown' hA'' hbel hown3 hgrow hA';go_wp2
        go_roundg (N / 10^(k+1))
        case measure=>exact hless
        case rel=>exact ⟨k+1,by omega,rfl,HNE,hnew⟩
theorem String_any (x N:Nat) (w:World) (hx:BN w x N) (hN:N < 10^40):Calls Tryz.prog 49 #[.pointer (some ⟨x,0,none⟩)] w (GrewShow N w):=by
  have T:=Lib.hid (Text_any x N w hx hN);clear hx;go_enter Tryz.func49,Tryz.ntmps49
  go_wp2_with fail
  refine T.out.mono ?_;rintro e w1 ⟨L,hL,rfl,k1⟩;go_wp2;go_ret;exact ⟨L,hL,rfl,k1⟩
end
section
open Go.RowKit

/-- k noughts ahead of a text -/
def zs (k:Nat) (B:ByteArray):ByteArray:=⟨(Go.Lib.repeatL [48] k++B.data.toList).toArray⟩
theorem zs_zero (B:ByteArray):zs 0 B=B:=by
  unfold zs;simp [Go.Lib.repeatL]
theorem zs_succ (k:Nat) (B:ByteArray):(⟨#[48]⟩:ByteArray)++zs k B=zs (k+1) B:=by
  apply ByteArray.ext;apply Array.toList_inj.1;simp [zs,Go.Lib.repeatL,ByteArray.data_append]
theorem zs_size (k:Nat) (B:ByteArray):(zs k B).size=k+B.size:=by
  show (zs k B).data.size=_;unfold zs;have h:=Go.Lib.repeatL_length [48] k;simp only [List.length_cons,List.length_nil,Nat.mul_one,Nat.zero_add] at h;simp [h]
theorem zs_cat (k:Nat) (B:ByteArray):(⟨(Go.Lib.repeatL [48] k).toArray⟩:ByteArray)++B=zs k B:=by
  apply ByteArray.ext;apply Array.toList_inj.1;simp [zs,ByteArray.data_append]
def strLen:Value→Nat | .string s=>s.size | _=>0
def GrewFmt (N:Nat) (w:World) (e:Ending) (w':World):Prop:=∃ L,IsLen N L∧e=.returned (T2 (.string (zs (20-L) (showB N L))) (I 0))∧Below w.heap.size w w'
theorem Format_bad (x:AToken) (w:World) (h:tokFault x≠0):Calls Tryz.prog 21 #[.agg x.cells.toArray] w (Grew (T2 (.string ⟨#[]⟩) (I (tokFault x))) w):=by
  have B:=Lib.hid (fun W=>Words_bad x W h);generalize tokFault x=r at *;obtain ⟨c,i,m,t⟩:=x;show Calls Tryz.prog 21 #[.agg #[I c,I i,I m,I t]] w _;have k0:=boxed_below w (.cells #[I c,I i,I m,I t] 72);go_enter Tryz.func21,Tryz.ntmps21
  go_wp2_with fail
  refine (B.out _).mono ?_;rintro e w1 ⟨rfl,k1⟩;have kk:=k0.trans (k1.mono k0.size);clear k0 k1;go_wp2;go_ret2;exact ⟨rfl,below_auto⟩
theorem Formatted_bad (x:AToken) (w:World) (h:tokFault x≠0):Calls Tryz.prog 25 #[.agg x.cells.toArray] w (Grew (T2 (.string ⟨#[]⟩) (I (tokFault x))) w):=by
  have B:=Lib.hid (fun W=>TokenFault_any x W);generalize tokFault x=r at *;obtain ⟨c,i,m,t⟩:=x;show Calls Tryz.prog 25 #[.agg #[I c,I i,I m,I t]] w _;have k0:=boxed_below w (.cells #[I c,I i,I m,I t] 72);go_enter Tryz.func25,Tryz.ntmps25
  go_wp2_with fail
  refine (B.out _).mono ?_;rintro e w1 ⟨rfl,k1⟩;have kk:=k0.trans (k1.mono k0.size);clear k0 k1;go_wp2;go_ret2;exact ⟨rfl,below_auto⟩
theorem Format_good (c i m t:Nat) (w:World) (h:tokFault ⟨c,i,m,t⟩=0):Calls Tryz.prog 21 #[.agg #[I c,I i,I m,I t]] w (GrewFmt (tokN c i m t) w):=by
  have hlt:=tokN_lt h;have W:=Lib.hid (fun W=>Words_good c i m t W h);have hv:=val_digits (P:=tokN c i m t) (by omega);have S:=Lib.hid (fun W=>Show_any (tokN c i m t%4294967296) (tokN c i m t / 4294967296%4294967296) (tokN c i m t / 18446744073709551616%4294967296) W (mod_lt32 _) (mod_lt32 _) (mod_lt32 _));rw [hv] at S;clear hv h;generalize tokN c i m t=N at *;generalize N%4294967296=n0 at *;generalize N / 4294967296%4294967296=n1 at *;generalize N / 18446744073709551616%4294967296=n2 at *;have k0:=boxed_below w (.cells #[I c,I i,I m,I t] 72);go_enter Tryz.func21,Tryz.ntmps21
  go_wp2_with fail
  refine (W.out _).mono ?_;rintro e w1 ⟨rfl,k1⟩;have kk:=k0.trans (k1.mono k0.size);have kA:=boxed_below w1 (.cells #[U32 n0,U32 n1,U32 n2] 113);have kk2:=kk.trans (kA.mono kk.size);clear k0 k1 kk kA
  go_wp2_with fail
  refine (S.out _).mono ?_;rintro e w2 ⟨L,hL,rfl,k2⟩;have hL20:L≤20:=hL.le (m:=20) (by omega) (by decide);have kk3:=kk2.trans (k2.mono kk2.size);have hsz:=showB_size N L;have R:=Lib.hid (fun T=>Tryz.strings_Repeat ⟨#[48]⟩ (20-L) T (by omega) (by show 1*(20-L)≤_;omega));have hc:=Lib.hid (show (⟨(Go.Lib.repeatL (⟨#[48]⟩:ByteArray).data.toList (20-L)).toArray⟩:ByteArray)++showB N L=zs (20-L) (showB N L) from zs_cat _ _);have h20:(20:Int)-(L:Int)=((20-L:Nat):Int):=by omega
  rw [← h20] at R
  have hzl:(⟨(Go.Lib.repeatL (⟨#[48]⟩:ByteArray).data.toList (20-L)).toArray⟩:ByteArray).size=20-L:=by
    have h1:=Go.Lib.repeatL_length [48] (20-L);simp only [List.length_cons,List.length_nil,Nat.mul_one,Nat.zero_add] at h1;show (Go.Lib.repeatL [48] (20-L)).toArray.size=_;simp [h1]
  generalize (⟨(Go.Lib.repeatL (⟨#[48]⟩:ByteArray).data.toList (20-L)).toArray⟩:ByteArray)=z at *;have hzl2:¬ 9223372036854775807 < z.size+L:=by omega
  generalize hBB:showB N L=B at *;generalize hFF:zs (20-L) B=F at hc;have hF:Hid (zs (20-L) (showB N L)=F):=by unfold Hid;rw [hBB];exact hFF
  clear hFF hBB;clear kk2 k2 h20
  go_wp2_with fail
  refine (R.out _).mono ?_;rintro e w3 ⟨rfl,k3⟩;have kk4:=kk3.trans (k3.mono kk3.size);clear kk3 k3 R;have HC:=Lib.hid (And.intro hc.out (And.intro hzl hsz));clear hzl;go_wp2;go_ret2;refine ⟨L,hL,?_,kk4⟩;rw [hF.out,← hc.out]
  rfl
end
section
open Go.RowKit

theorem Formatted_good (c i m t:Nat) (w:World) (h:tokFault ⟨c,i,m,t⟩=0):Calls Tryz.prog 25 #[.agg #[I c,I i,I m,I t]] w (GrewFmt (tokN c i m t) w):=by
  have hlt:=tokN_lt h;have Ft:=Lib.hid (fun W=>TokenFault_any ⟨c,i,m,t⟩ W);have Nm:=Lib.hid (fun W=>numberOf_any c i m t W h);have S:=Lib.hid (fun W z hz=>String_any z (tokN c i m t) W hz (by omega));rw [h] at Ft;clear h;generalize tokN c i m t=N at *;have k0:=boxed_below w (.cells #[I c,I i,I m,I t] 72);have o1:=Own.new (w:=w) rfl [I c,I i,I m,I t] 72;go_enter Tryz.func25,Tryz.ntmps25
  go_wp2_with fail
  refine (Ft.out _).mono ?_;rintro e w1 ⟨rfl,k1⟩;have kk:=k0.trans (k1.mono k0.size);have dO:=o1.below k1;have dA:=dO.s4;clear dO;clear k0 k1 o1
  go_wp2_with fail
  refine (Nm.out _).mono ?_;rintro e w2 ⟨z,rfl,hz,hzl,k2⟩;have kk2:=kk.trans (k2.mono kk.size);clear k2 kk
  go_wp2_with fail
  refine (S.out _ _ hz).mono ?_;rintro e w3 ⟨L,hL,rfl,k3⟩;have hL20:L≤20:=hL.le (m:=20) (by omega) (by decide);have kk3:=kk2.trans (k3.mono kk2.size);have hsz:=showB_size N L;clear k3 kk2 dA hz;go_wp2
  go_loop [5] (fun v=>∃ k:Nat,k+L≤20∧v=.string (zs k (showB N L))) (fun v=>20-strLen v)
  case atStart=>exact ⟨0,by omega,by rw [zs_zero]⟩
  case round=>
    obtain ⟨k,hk,rfl⟩:=hrel;have hzs:=zs_size k (showB N L);rw [hsz] at hzs;have hsu:=Lib.hid (zs_succ k (showB N L));have hzs2:=zs_size (k+1) (showB N L);rw [hsz] at hzs2;generalize hz1:zs k (showB N L)=s1 at *;generalize hz2:zs (k+1) (showB N L)=s2 at *;have hov:¬ 9223372036854775807 < 1+s1.size:=by omega
    have hov2:¬ 9223372036854775807 < (⟨#[48]⟩:ByteArray).size+s1.size:=by show ¬ 9223372036854775807 < 1+s1.size;omega
    by_cases hlt2:k+L < 20
    · have hI:(s1.size:Int) < 20:=by omega
      clear hz1;go_wp2;have e1:strLen (.string ((⟨#[48]⟩:ByteArray)++s1))=k+1+L:=by rw [hsu.out];exact hzs2
      have e2:strLen (.string s1)=k+L:=hzs;exact ⟨⟨k+1,by omega,congrArg Value.string (hsu.out.trans hz2.symm)⟩,by rw [e1,e2];omega⟩
    · have hI:¬ (s1.size:Int) < 20:=by omega
      have hF:Hid (zs (20-L) (showB N L)=s1):=by unfold Hid;rw [← hz1,show 20-L=k by omega]
      have HKK:=Lib.hid hk;clear hsu hz2 hzs2 hz1 hzs hsz hlt2 hk hov hov2;go_wp2;go_ret2;refine ⟨L,hL,?_,kk3⟩;rw [hF.out]
      rfl
end
section
open Go.RowKit
/-- how many digits are shown -/
def lenD (N:Nat):Nat:=((List.range 41).find? fun L=>decide (1≤L∧N / 10^L=0)).getD 0
theorem lenD_eq {N L:Nat} (h:IsLen N L) (hL:L≤40):lenD N=L:=by
  have e:(List.range 41).find? (fun L=>decide (1≤L∧N / 10^L=0))=some L:=by
    rw [List.find?_range_eq_some];refine ⟨by simp only [decide_eq_true_eq];exact ⟨h.1,h.2.1⟩,by rw [List.mem_range];omega,fun j hj=>?_⟩
    simp only [Bool.not_eq_true',decide_eq_false_iff_not];rintro ⟨h1,h2⟩;rcases h.2.2 with h3 | h3
    · omega
    · exact h3 (div_more h2 (by omega))
  unfold lenD;rw [e];rfl
def fmtN (N:Nat):ByteArray:=zs (20-lenD N) (showB N (lenD N))
def fmtT (x:AToken):ByteArray:=if tokFault x=0 then fmtN (tokN x.class_.toNat x.id.toNat x.amount.toNat x.tag.toNat) else ⟨#[]⟩
def FmtP (x:AToken) (w:World) (e:Ending) (w':World):Prop:=Grew (T2 (.string (fmtT x)) (I (tokFault x))) w e w'
theorem FmtP.good {c i m t:Nat} {w w':World} {e:Ending} (h0:tokFault ⟨c,i,m,t⟩=0) (h:GrewFmt (tokN c i m t) w e w'):FmtP ⟨c,i,m,t⟩ w e w':=by
  obtain ⟨L,hL,rfl,hk⟩:=h;have hlt:=tokN_lt h0;have hL20:L≤20:=hL.le (m:=20) (by omega) (by decide);unfold FmtP fmtT fmtN;rw [if_pos h0];simp only [Int.toNat_natCast];rw [lenD_eq hL (by omega),h0];exact ⟨rfl,hk⟩
theorem FmtP.bad {x:AToken} {w w':World} {e:Ending} (h0:tokFault x≠0) (h:Grew (T2 (.string ⟨#[]⟩) (I (tokFault x))) w e w'):FmtP x w e w':=by
  unfold FmtP fmtT;rw [if_neg h0];exact h
theorem fmt_any {F:Nat} (hb:∀ x W,tokFault x≠0→Calls Tryz.prog F #[.agg x.cells.toArray] W (Grew (T2 (.string ⟨#[]⟩) (I (tokFault x))) W))
    (hg:∀ (c i m t:Nat) W,tokFault ⟨c,i,m,t⟩=0→Calls Tryz.prog F #[.agg #[I c,I i,I m,I t]] W (GrewFmt (tokN c i m t) W)) (c i m t:Int) (w:World):
    Calls Tryz.prog F #[.agg #[I c,I i,I m,I t]] w (FmtP ⟨c,i,m,t⟩ w):=by
  by_cases h:tokFault ⟨c,i,m,t⟩=0
  · obtain ⟨⟨c0,c1⟩,⟨i0,i1⟩,⟨t0,t1⟩,m0,m1⟩:=tokFault_zero h
    simp only at c0 c1 i0 i1 t0 t1 m0 m1;obtain ⟨c,rfl⟩:=Int.eq_ofNat_of_zero_le c0;obtain ⟨i,rfl⟩:=Int.eq_ofNat_of_zero_le (show 0≤i by omega);obtain ⟨m,rfl⟩:=Int.eq_ofNat_of_zero_le m0;obtain ⟨t,rfl⟩:=Int.eq_ofNat_of_zero_le t0;exact (hg c i m t w h).mono fun e w' hh=>FmtP.good h hh
  · exact (hb ⟨c,i,m,t⟩ w h).mono fun e w' hh=>FmtP.bad h hh
theorem Format_any (c i m t:Int) (w:World):Calls Tryz.prog 21 #[.agg #[I c,I i,I m,I t]] w (FmtP ⟨c,i,m,t⟩ w):=fmt_any Format_bad Format_good c i m t w
theorem Formatted_any (c i m t:Int) (w:World):Calls Tryz.prog 25 #[.agg #[I c,I i,I m,I t]] w (FmtP ⟨c,i,m,t⟩ w):=fmt_any Formatted_bad Formatted_good c i m t w
end
section
open Go Go.RowKit
open Go.Maps (Keyed)

abbrev whatV (a b c:Int):Value:=.agg #[I a,I b,I c]
theorem rowWhat:(202:TypeId) < Tryz.prog.types.size:=of_decide_eq_true (by kernel_rfl)
theorem wideWhat:(match Tryz.prog.underlying 202 with | some (.array _ _) | some (.struct _)=>true | _=>false)=true:=by rw [Tryz.underlying202]
theorem whatK:Keyed Tryz.prog 202:=Keyed.of_law (deep_law_laid laidOut (m:=2) (by omega) rowWhat (by kernel_rfl) wideWhat)
theorem keyType_what:Tryz.prog.keyType 202=true:=by kernel_rfl
theorem cells_what:Tryz.prog.cellsOf 202=3:=by kernel_rfl
theorem cells_int:Tryz.prog.cellsOf 3=1:=by kernel_rfl
theorem zero_int (w:World):(zeroValue 3).run Tryz.prog w=.ok (I 0) w:=by kernel_rfl
theorem wf64 {a:Int} (h:I64 a):(Lit.int .i64 a).wf=true:=by
  obtain ⟨h0,h1⟩:=h;show (decide (IntKind.i64.min≤a)&&decide (a≤IntKind.i64.max))=true;have e0:IntKind.i64.min=-9223372036854775808:=rfl;have e1:IntKind.i64.max=9223372036854775807:=rfl;rw [e0,e1,Bool.and_eq_true,decide_eq_true_eq,decide_eq_true_eq];exact ⟨h0,h1⟩
theorem keyOf_what {a b c:Int} (ha:I64 a) (hb:I64 b) (hc:I64 c):∃ l,keyOf Tryz.prog 202 (whatV a b c)=some l:=by
  have hf:(whatV a b c).formed Tryz.prog 202=true:=by simp [Value.formed,Tryz.underlying202,cells_what]
  obtain ⟨d,hd⟩:∃ d,Tryz.prog.types.size=d+1:=⟨Tryz.prog.types.size-1,by have:0 < Tryz.prog.types.size:=of_decide_eq_true (by kernel_rfl);omega⟩;refine ⟨.string (keyBytes [.int .i64 a,.int .i64 b,.int .i64 c]),?_⟩
  · unfold keyOf
    rw [Tryz.underlying202,keyType_what,hf,hd];simp only [Bool.and_self,if_true];simp [Program.keyLits,Tryz.underlying202,Tryz.underlying3,cells_what,cells_int,wf64 ha,wf64 hb,wf64 hc,Value.cells]

def keyIs (x y z:Int) (p:APair):Bool:=decide (p.meter=x)&&(decide (p.rev=y)&&decide (p.body=z))
theorem keyIs_true {x y z:Int} {p:APair}:keyIs x y z p=true↔p.meter=x∧p.rev=y∧p.body=z:=by simp [keyIs]
def hasKey (ps:List APair) (x y z:Int):Bool:=ps.any (keyIs x y z)
def tagOf (ps:List APair) (x y z:Int):Int:=match ps.find? (keyIs x y z) with | some p=>p.tag | none=>0
/-- block b is a map of just these pairs, no two under one key -/
def OwnMap (w:World) (b:Nat) (ps:List APair):Prop:=(∃ es clock,w.heap[b]?=some (.map es clock)∧es.toList.map (fun e=>(e.key,e.val))=ps.map fun p=>(whatV p.meter p.rev p.body,I p.tag))∧(∀ p∈ps,p.wf)∧ps.Pairwise fun p q=>keyIs p.meter p.rev p.body q=false
theorem OwnMap.lt {w:World} {b:Nat} {ps:List APair} (h:OwnMap w b ps):b < w.heap.size:=by
  obtain ⟨⟨es,clock,h,_⟩,_⟩:=h;exact (Array.getElem?_eq_some_iff.1 h).1
theorem OwnMap.below {w w':World} {b:Nat} {ps:List APair} (h:OwnMap w b ps) (k:Below w.heap.size w w'):OwnMap w' b ps:=by
  have hl:=h.lt;obtain ⟨⟨es,clock,h,e⟩,r⟩:=h;exact ⟨⟨es,clock,(k.block b hl).trans h,e⟩,r⟩
theorem OwnMap.new (w:World):OwnMap (w.alloc (.map #[] 0)) w.heap.size []:=⟨⟨#[],0,(MapKept.heap_alloc w _).1,rfl⟩,(fun p hp=>by simp at hp),List.Pairwise.nil⟩
theorem whatV_inj {a b c a' b' c':Int} (h:whatV a b c=whatV a' b' c'):a=a'∧b=b'∧c=c':=by simpa using h
theorem run_look {w : World} {b : Nat} {ps : List APair} (h : OwnMap w b ps) {x y z : Int} (hx : I64 x) (hy : I64 y) (hz : I64 z) :
    (Instr.lookup 198 (.map (some b)) (whatV x y z) true).run Tryz.prog w=.ok (.tuple #[I (tagOf ps x y z),.bool (hasKey ps x y z)]) w:=by
  obtain ⟨⟨es,clock,hb,he⟩,hwf,hpw⟩:=h;obtain ⟨l,hl⟩:=keyOf_what hx hy hz
  have hkeys:∀ e∈es.toList,∃ p∈ps,e.key=whatV p.meter p.rev p.body∧e.val=I p.tag:=fun e hm=>by
    have:(e.key,e.val)∈ps.map fun p=>(whatV p.meter p.rev p.body,I p.tag):=by rw [← he];exact List.mem_map.2 ⟨e,hm,rfl⟩
    obtain ⟨p,hp,hh⟩:=List.mem_map.1 this;simp only [Prod.mk.injEq] at hh;exact ⟨p,hp,hh.1.symm,hh.2.symm⟩
  have hread:∀ e∈es.toList,∃ l,keyOf Tryz.prog 202 e.key=some l:=fun e hm=>by
    obtain ⟨p,hp,h1,-⟩:=hkeys e hm;obtain ⟨w0,w1,w2,-⟩:=hwf p hp;rw [h1];exact keyOf_what w0 w1 w2
  have hrun:∀ r:Option (Nat×Value),(Instr.findKey 202 (whatV x y z) es.toList).run Tryz.prog w=.ok r w→(Instr.lookup 198 (.map (some b)) (whatV x y z) true).run Tryz.prog w=.ok (match r with | some (_,v)=>.tuple #[v,.bool true] | none=>.tuple #[I 0,.bool false]) w:=fun r hr=>by
    cases r with
    | none=>simp [Instr.lookup,run_underlying Tryz.underlying198,MapKept.run_getObj_map hb,whatK.check w _ hl,hr,zero_int,Result.andThen]
    | some q=>simp [Instr.lookup,run_underlying Tryz.underlying198,MapKept.run_getObj_map hb,whatK.check w _ hl,hr,Result.andThen]
  rcases whatK.find w hl es.toList hread with ⟨h1,h2⟩ | ⟨j,e,h1,h2,h3⟩
  · rw [hrun _ h1]
    have hno:∀ p∈ps,keyIs x y z p=false:=fun p hp=>by
      rw [← Bool.not_eq_true,keyIs_true];rintro ⟨rfl,rfl,rfl⟩;have:(whatV p.meter p.rev p.body,I p.tag)∈es.toList.map (fun e=>(e.key,e.val)):=by rw [he];exact List.mem_map.2 ⟨p,hp,rfl⟩
      obtain ⟨e,hm,hh⟩:=List.mem_map.1 this;simp only [Prod.mk.injEq] at hh;exact h2 e hm hh.1
    have e1:ps.find? (keyIs x y z)=none:=List.find?_eq_none.2 fun p hp=>by rw [hno p hp];simp
    have e2:hasKey ps x y z=false:=by
      rw [hasKey,List.any_eq_false];exact fun p hp=>by rw [hno p hp];simp
    rw [tagOf,e1,e2]
  · rw [hrun _ h1]
    obtain ⟨p,hp,k1,k2⟩:=hkeys e (List.mem_of_getElem? h2);rw [h3] at k1;obtain ⟨rfl,rfl,rfl⟩:=whatV_inj k1;have e2:hasKey ps p.meter p.rev p.body=true:=List.any_eq_true.2 ⟨p,hp,keyIs_true.2 ⟨rfl,rfl,rfl⟩⟩
    have e1 : ps.find? (keyIs p.meter p.rev p.body) = some p := by
      clear hrun h1 h2 h3 hkeys hread he hl hb k1 k2 e2
      induction ps with
      | nil=>cases hp
      | cons q r ih=>
        rw [List.find?_cons];obtain ⟨hq,hr⟩:=List.pairwise_cons.1 hpw;rcases List.mem_cons.1 hp with rfl | hp'
        · rw [keyIs_true.2 ⟨rfl,rfl,rfl⟩]
        · have hn:keyIs p.meter p.rev p.body q=false:=by
            have:=hq p hp';rw [← Bool.not_eq_true,keyIs_true] at this ⊢;exact fun h=>this ⟨h.1.symm,h.2.1.symm,h.2.2.symm⟩
          rw [hn];exact ih (fun p hp=>hwf p (List.mem_cons_of_mem _ hp)) hr hp'
    rw [tagOf,e1,e2,k2]
theorem run_put {w:World} {b:Nat} {ps:List APair} (h:OwnMap w b ps) {p:APair} (hp:p.wf) (hno:hasKey ps p.meter p.rev p.body=false):
    ∃ w',(Instr.mapUpdate 198 (.map (some b)) (whatV p.meter p.rev p.body) (I p.tag)).run Tryz.prog w=.ok () w'∧OwnMap w' b (ps++[p])∧∀ B a,Below B a w→B≤b→Below B a w':=by
  obtain ⟨⟨es,clock,hb,he⟩,hwf,hpw⟩:=h;obtain ⟨w0,w1,w2,w3⟩:=hp;obtain ⟨l,hl⟩:=keyOf_what w0 w1 w2
  have hkeys:∀ e∈es.toList,∃ p∈ps,e.key=whatV p.meter p.rev p.body∧e.val=I p.tag:=fun e hm=>by
    have:(e.key,e.val)∈ps.map fun p=>(whatV p.meter p.rev p.body,I p.tag):=by rw [← he];exact List.mem_map.2 ⟨e,hm,rfl⟩
    obtain ⟨p,hp,hh⟩:=List.mem_map.1 this;simp only [Prod.mk.injEq] at hh;exact ⟨p,hp,hh.1.symm,hh.2.symm⟩
  have hread:∀ e∈es.toList,∃ l,keyOf Tryz.prog 202 e.key=some l:=fun e hm=>by
    obtain ⟨p,hp,h1,-⟩:=hkeys e hm;obtain ⟨w0,w1,w2,-⟩:=hwf p hp;rw [h1];exact keyOf_what w0 w1 w2
  have hnone:∀ q∈ps,keyIs p.meter p.rev p.body q=false:=fun q hq=>by
    rw [hasKey,List.any_eq_false] at hno;have:=hno q hq;simpa using this
  rcases whatK.find w hl es.toList hread with ⟨h1,h2⟩ | ⟨j,e,h1,h2,h3⟩
  · refine ⟨{ w with heap:=w.heap.setIfInBounds b (.map (es.push { key:=whatV p.meter p.rev p.body,val:=I p.tag,born:=clock }) (clock+1)) },?_,⟨⟨es.push { key:=whatV p.meter p.rev p.body,val:=I p.tag,born:=clock },clock+1,?_,?_⟩,?_,?_⟩,?_⟩
    · simp [Instr.mapUpdate,run_underlying Tryz.underlying198,MapKept.run_getObj_map hb,whatK.check w _ hl,h1,MapKept.run_setObj_map _ hb,Result.andThen]
    · have:=(Array.getElem?_eq_some_iff.1 hb).1
      simp [Array.getElem?_setIfInBounds,this]
    · simp [he]
    · intro q hq
      rcases List.mem_append.1 hq with hq | hq
      · exact hwf q hq
      · simp at hq;subst hq;exact ⟨w0,w1,w2,w3⟩
    · rw [List.pairwise_append]
      refine ⟨hpw,List.pairwise_singleton _ _,fun q hq r hr=>?_⟩
      simp at hr;subst hr;have:=hnone q hq;rw [← Bool.not_eq_true,keyIs_true] at this ⊢;exact fun h=>this ⟨h.1.symm,h.2.1.symm,h.2.2.symm⟩
    · intro B a hB hb'
      refine hB.trans ⟨rfl,rfl,rfl,by simp,fun k hk=>?_⟩
      have:b≠k:=by omega
      simp [Array.getElem?_setIfInBounds,this]
  · obtain ⟨q,hq,k1,k2⟩:=hkeys e (List.mem_of_getElem? h2)
    rw [h3] at k1;obtain ⟨a1,a2,a3⟩:=whatV_inj k1;have:=hnone q hq;rw [← Bool.not_eq_true,keyIs_true] at this;exact absurd ⟨a1.symm,a2.symm,a3.symm⟩ this
end
end Go.Proofs.YtdjgcenjonegjaaGreat
