/- great numbers: trim, twin, words, plain · great numbers: the objects -/
import Derived.Test.YtfhmcahfjoliiaaGreatDoorPk05
import Derived.Test.YtfhmcahfjoliiaaGreatDoorOwn
import Derived.Test.YtfhmcahfjoliiaaGreatDoorPk01
set_option maxRecDepth 20000
set_option maxHeartbeats 8000000
set_option linter.unusedSimpArgs false
set_option linter.unusedVariables false
namespace Go.Proofs.YtfhmcahfjoliiaaGreatDoor
section
open Go.RowKit
theorem infoWd:(Tryz.prog.info? 109).map (fun i=>(i.zero,i.size,i.bytes))=some (some (.int .u32 0),1,4):=by kernel_rfl
theorem wcells_at {l:List Nat} {k:Nat} (h:k < l.length):(wcells l).getD k undef=U32 ((l.getD k 0:Nat):Int):=by
  unfold wcells;rw [List.getD_eq_getElem?_getD,List.getElem?_map,List.getD_eq_getElem?_getD,List.getElem?_eq_getElem h];rfl
theorem Sl.cut {w:World} {a:Option Addr} {n cap q:Nat} {l:List Nat} (h:Sl w (.slice a n cap) 1 n (wcells l)) (hq:q≤n) (hl:l.length=n):Sl w (.slice a q cap) 1 q (wcells (l.take q)):=by
  obtain ⟨a',cap',hv,⟨h1,h2⟩,h3,h4,h5⟩:=h;simp only [Value.slice.injEq] at hv;obtain ⟨rfl,_,rfl⟩:=hv;have hlen:(l.take q).length=q:=by rw [List.length_take];omega
  refine ⟨a,cap,rfl,⟨by omega,by omega⟩,by rw [wcells_len,hlen];omega,(fun ha=>⟨by have:=(h4 ha).1;omega,(h4 ha).2⟩),?_⟩;rcases h5 with h5 | ⟨b,off,hb,hlt,hc⟩
  · exact .inl (by omega)
  · refine .inr ⟨b,off,hb,hlt,fun j hj=>?_⟩
    rw [wcells_len,hlen] at hj;rw [hc j (by rw [wcells_len];omega),wcells_at (by omega),wcells_at (by omega)];rw [List.getD_eq_getElem?_getD (l:=l.take q),List.getElem?_take,if_pos hj,← List.getD_eq_getElem?_getD]

/-- trim: noughts at the end cut off -/
theorem trim_any (v : Value) (l : List Nat) (w : World) (h : Sl w v 1 l.length (wcells l)) (hw : allW l) :
    Calls Tryz.prog 139 #[v] w (fun e w'=>∃ v',e=.returned v'∧Abs w v' (val l)∧w=w'):=by
  have hS:=h;obtain ⟨a,cap,rfl,hn,hl,h0,hr⟩:=h;clear hl h0;go_enter Tryz.func139,Tryz.ntmps139;go_wp2
  go_loop [3] (fun i=>∃ q:Nat,q≤l.length∧i=I q∧Hid (val (l.take q)=val l)) (fun i=>(intOf i).toNat)
  case atStart=>exact ⟨l.length,Nat.le_refl _,rfl,by unfold Hid;rw [List.take_of_length_le (Nat.le_refl _)]⟩
  case round=>
    obtain ⟨q,hq,rfl,hv⟩:=hrel;cases q with
    | zero=>
      have hA:Hid (Abs w (.slice a 0 cap) (val l)):=⟨_,by have:=hS.cut (Nat.zero_le _) rfl;simpa using this,can_take hw (Nat.zero_le _) hv.out (fun k hk=>by omega)⟩;clear hS hr hv;go_wp2;go_ret;exact ⟨_,rfl,hA,rfl⟩
    | succ q=>
      obtain ⟨b,off,rfl,hb,hcell⟩:=hr.resolve_left (by omega);have e0:=hcell q (by rw [wcells_len];omega);rw [wcells_at (by omega)] at e0;have hi0:(0:Int)≤(q:Int):=by omega
      have hi1:(q:Int) < (l.length:Int):=by omega
      have hnx:=Lib.hid (show l.getD q 0=0→val (l.take q)=val l from fun h0=>by rw [← val_take (by omega) h0];exact hv.out)
      have hst:=Lib.hid (show l.getD q 0≠0→Abs w (.slice (some ⟨b,off,none⟩) (q+1) cap) (val l) from fun h0=>
        ⟨_,by have:=hS.cut hq rfl;rw [show (l.take (q+1)).length=q+1 by rw [List.length_take];omega];exact this,can_take hw hq hv.out (fun k hk=>by rw [show k=q by omega];exact h0)⟩)
      clear hr hcell hv hS;generalize l.getD q 0=x at *
      by_cases hx:x=0
      · have H:=Lib.hid (hnx.out hx)
        have hx2:(((x:Nat):Int)==0)=true:=by simp [hx]
        clear hnx hst hx;go_wp2
        go_round
        case rel=>first | exact ⟨q,by omega,by go_num,H⟩ | (refine ⟨rfl,?_⟩;(repeat apply Exists.intro);refine ⟨?_,rfl⟩;exact ⟨q,by omega,by go_num,H⟩) | (refine ⟨trivial,?_⟩;(repeat apply Exists.intro);refine ⟨?_,rfl⟩;exact ⟨q,by omega,by go_num,H⟩) | ((repeat apply Exists.intro);refine ⟨?_,rfl⟩;exact ⟨q,by omega,by go_num,H⟩)
        case measure=>(simp [intOf];try omega)
      · have H:=Lib.hid (hst.out hx)
        have hx2:(((x:Nat):Int)==0)=false:=by simp;omega
        have hc1:q+1≤cap:=by omega
        clear hnx hst hx;go_wp2;go_ret;exact ⟨_,rfl,H.out,rfl⟩

/-- words: a number of 64 bits -/
theorem words_big (x:Nat) (w:World) (hx:x < 18446744073709551616):Calls Tryz.prog 140 #[.int .u64 x] w (GrewAbs x w):=by
  have T:=Lib.hid (fun v W hW=>trim_any v [x%4294967296,x / 4294967296] W hW (by intro d hd;simp at hd;omega));have hval:val [x%4294967296,x / 4294967296]=x:=by simp only [val];omega
  rw [hval] at T;have e1:((x:Int))%4294967296=((x%4294967296:Nat):Int):=by omega
  have e2:((x:Int)) / 4294967296=((x / 4294967296:Nat):Int):=by omega
  have HS:Hid (Sl (w.alloc (.cells #[U32 ((x:Int)%4294967296),U32 ((x:Int) / 4294967296)] 109)) (.slice (some ⟨w.heap.size,0,none⟩) 2 2) 1 2 (wcells [x%4294967296,x / 4294967296])):=by
    rw [e1,e2];exact Sl.of_owns (owns_lit w (wcells [x%4294967296,x / 4294967296]) 109 1 2 rfl (by unfold maxLen;omega)) (by omega)
  have k:=boxed_below w (.cells #[U32 ((x:Int)%4294967296),U32 ((x:Int) / 4294967296)] 109);clear hval e1 e2;go_enter Tryz.func140,Tryz.ntmps140
  go_wp2_with fail
  refine (T.out _ _ HS.out).mono ?_;rintro e w1 ⟨v,rfl,hA,rfl⟩;go_wp2;go_ret;exact ⟨_,rfl,hA,k⟩

/-- twin: a copy -/
theorem twin_any (v:Value) (n:Nat) (w:World) (h:Abs w v n) (hn:n < 4294967296^250):Calls Tryz.prog 144 #[v] w (GrewAbs n w):=by
  obtain ⟨l,h,hC⟩:=h;have hlen:=can_len hC hn;obtain ⟨i0,hi,hz0,hz1,hz2⟩:=info_parts infoWd;have h':=h;obtain ⟨a,cap,rfl,hn,hl,h0,h⟩:=h;cases a with
  | none=>
    obtain ⟨hn0,rfl⟩:=h0 rfl;obtain rfl:l=[]:=List.length_eq_zero_iff.1 hn0;clear h h' h0 hl;go_enter Tryz.func144,Tryz.ntmps144
    go_wp2_with fail
    go_ret;exact ⟨_,rfl,⟨[],Sl.nil _ _,hC⟩,Below.refl _ _⟩
  | some ad=>
    have hnews:=Lib.hid h'.news;have hone:oneCells (wcells l):=oneCells_map (fun _=>rfl) _;clear h h' h0;have Hl:=Lib.hid hl;clear hl;have c3:0+l.length≤maxLen:=by unfold maxLen;omega
    have c4:=Lib.hid (show (0+l.length)*4≤140737488355328 by omega);go_enter Tryz.func144,Tryz.ntmps144
    go_wp2_with (at_builtin;refine wpList_append_own _ rfl _ _ 124 rfl w.heap.size 109 i0 (.int .u32 0) 1 4 Tryz.underlying124 hi hz0 hz1 hz2 rfl (by decide) _ 0 [] rfl (World.ownsRow_nil _ _ _ _) ad _ _ (wcells l) rfl Hl.out hnews.out hone c3 c4.out (Nat.le_refl _) ?_;intro v' w1 hown' hgrow _)
    have hbel:=Below.grown (B:=w.heap.size) (Below.refl _ w) hgrow (Nat.le_refl _) (fun k hk=>absurd (show (none:Option Nat)=some k from hk) (by simp));rw [Nat.zero_add,List.nil_append] at hown';have hS:=Sl.of_owns hown' hn.1;clear hown' hgrow;go_wp2;go_ret;exact ⟨_,rfl,⟨l,hS,hC⟩,hbel⟩
end
section
open Go.RowKit

/-- block z is a great number's: its sign and its words -/
def BIat (w:World) (z:Nat) (nb:Bool) (v:Value):Prop:=w.heap[z]?=some (.cells #[.bool nb,v] 126 (0,0))
def BI (w:World) (z:Nat) (x:Int):Prop:=∃ v,BIat w z (decide (x < 0)) v∧Abs w v x.natAbs
theorem BIat.lt {w:World} {z:Nat} {nb:Bool} {v:Value} (h:BIat w z nb v):z < w.heap.size:=(Array.getElem?_eq_some_iff.1 h).1
theorem BIat.cells {w:World} {z:Nat} {nb:Bool} {v:Value} (h:BIat w z nb v):w.cell? ⟨z,0,none⟩=some (.bool nb)∧w.cell? ⟨z,1,none⟩=some v∧w.frozen? ⟨z,0,none⟩=false∧w.frozen? ⟨z,1,none⟩=false:=by
  unfold BIat at h;refine ⟨?_,?_,?_,?_⟩
  · rw [cell_of_cells h];rfl
  · rw [cell_of_cells h];rfl
  · simp [World.frozen?,h]
  · simp [World.frozen?,h]
theorem BIat.set0 {w:World} {z:Nat} {nb:Bool} {v:Value} (h:BIat w z nb v) (mb:Bool):BIat (w.setCell ⟨z,0,none⟩ (.bool mb)) z mb v:=by
  unfold BIat at *;simp [World.setCell,Array.getElem?_modify,h]
theorem BIat.set1 {w:World} {z:Nat} {nb:Bool} {v:Value} (h:BIat w z nb v) (u:Value):BIat (w.setCell ⟨z,1,none⟩ u) z nb u:=by
  unfold BIat at *;simp [World.setCell,Array.getElem?_modify,h]
theorem BIat.chg {w w':World} {z p:Nat} {nb:Bool} {v:Value} (h:BIat w p nb v) (k:Chg z w w') (hp:p≠z):BIat w' p nb v:=(k.block p h.lt hp).trans h
/-- words lie in no number's own block -/
theorem Abs.chg {w w' : World} {z : Nat} {nb : Bool} {v u : Value} {n : Nat} (h : Abs w u n) (hz : BIat w z nb v) (hv : ∀ k : Int, v ≠ U32 k) (k : Chg z w w') : Abs w' u n := by
  obtain ⟨l,⟨a,cap,rfl,hn,hl,h0,hr⟩,hC⟩:=h;refine ⟨l,⟨a,cap,rfl,hn,hl,h0,?_⟩,hC⟩;rcases hr with hr | ⟨b,off,rfl,hlt,hc⟩
  · exact .inl hr
  · by_cases hlen:l.length=0
    · exact .inl hlen
    · have hbz:b≠z:=by
        rintro rfl;have h1:=hc 0 (by rw [wcells_len];omega);rw [wcells_at (by omega),cell_of_cells hz] at h1;rcases Nat.lt_trichotomy (off+0) 1 with ho | ho | ho
        · rw [show off+0=0 by omega] at h1;simp at h1
        · rw [ho] at h1;simp at h1;exact hv _ h1
        · rw [Array.getElem?_eq_none (by simp;omega)] at h1;cases h1
      refine .inr ⟨b,off,rfl,Nat.lt_of_lt_of_le hlt k.size,fun j hj=>?_⟩
      rw [← hc j hj];exact World.cell?_of_block (w:=w) (k.block b hlt hbz)
theorem Abs.slice {w:World} {v:Value} {n:Nat} (h:Abs w v n):∀ k:Int,v≠U32 k:=by
  obtain ⟨l,⟨a,cap,rfl,_⟩,_⟩:=h;intro k hk;cases hk
def signed (nb:Bool) (n:Nat):Int:=if nb then -(n:Int) else n
theorem signed_abs (nb:Bool) (n:Nat):(signed nb n).natAbs=n:=by unfold signed;split<;>omega
/-- the call returns number z, which is x; of the rest nothing has turned -/
def Gave (z:Nat) (x:Int) (w:World) (e:Ending) (w':World):Prop:=e=.returned (.pointer (some ⟨z,0,none⟩))∧BI w' z x∧Chg z w w'

theorem give_any (z:Nat) (nb nb0:Bool) (v0 v:Value) (n:Nat) (w:World) (hz:BIat w z nb0 v0) (hv0:∀ k:Int,v0≠U32 k) (h:Abs w v n):
    Calls Tryz.prog 120 #[.pointer (some ⟨z,0,none⟩),.bool nb,v] w (Gave z (signed nb n) w):=by
  have hA:=h;obtain ⟨l,hS,hC⟩:=h;obtain ⟨c0,c1,f0,f1⟩:=hz.cells
  have hlen:(0 < l.length)↔0 < n:=by
    constructor
    · intro hl
      refine Decidable.byContradiction fun hn=>?_
      have:n=0:=by omega
      subst this;rw [can_zero hC] at hl;simp at hl
    · intro hn
      refine Decidable.byContradiction fun hl=>?_
      have:l=[]:=List.length_eq_zero_iff.1 (by omega);subst this;have:=hC.1;simp [val] at this;omega
  obtain ⟨a,cap,rfl,_⟩:=hS
  have HB:∀ mb:Bool,mb=decide (signed nb n < 0)→Hid (BI ((w.setCell ⟨z,1,none⟩ (.slice a l.length cap)).setCell ⟨z,0,none⟩ (.bool mb)) z (signed nb n)):=by
    intro mb hmb;refine ⟨.slice a l.length cap,by rw [← hmb];exact (hz.set1 _).set0 mb,?_⟩;rw [signed_abs];exact hA.chg hz hv0 (((Chg.refl z w).set 1 _).set 0 _)
  have HK:∀ mb:Bool,Hid (Chg z w ((w.setCell ⟨z,1,none⟩ (.slice a l.length cap)).setCell ⟨z,0,none⟩ (.bool mb))):=fun mb=>((Chg.refl z w).set 1 _).set 0 _;have r1:=set_same;have r2:=set_off;cases nb with
  | false=>
    have hb:=HB false (by simp [signed]);have hk:=HK false;clear HB HK hA hC hz hlen;go_enter Tryz.func120,Tryz.ntmps120;go_wp2;go_ret;exact ⟨rfl,hb.out,hk.out⟩
  | true=>
    by_cases hl:0 < l.length
    · have hn:=hlen.1 hl
      have hb:=HB true (by rw [eq_comm,decide_eq_true_eq];simp only [signed,if_true];omega);have hk:=HK true;have hl':(0:Int) < (l.length:Int):=by omega
      clear HB HK hA hC hz hlen hn;go_enter Tryz.func120,Tryz.ntmps120;go_wp2;go_ret;exact ⟨rfl,hb.out,hk.out⟩
    · have hn:¬ 0 < n:=fun h=>hl (hlen.2 h)
      have hb:=HB false (by rw [eq_comm,decide_eq_false_iff_not];simp only [signed,if_true];omega);have hk:=HK false;have hl0:l.length=0:=by omega
      have hl2:decide (0 < l.length)=false:=decide_eq_false hl;have Hl2:=Lib.hid hl2;clear HB HK hA hC hz hlen hn hl hl0 hl2;go_enter Tryz.func120,Tryz.ntmps120;go_wp2;rw [Hl2.out];go_ret;exact ⟨rfl,hb.out,hk.out⟩

theorem SetInt64_any (z:Nat) (nb0:Bool) (v0:Value) (x:Int) (w:World) (hz:BIat w z nb0 v0) (hv0:∀ k:Int,v0≠U32 k) (hx0:0≤x) (hx1:x≤9223372036854775807):
    Calls Tryz.prog 122 #[.pointer (some ⟨z,0,none⟩),I x] w (Gave z x w):=by
  obtain ⟨n,rfl⟩:=Int.eq_ofNat_of_zero_le hx0;have Wd:=Lib.hid (fun W=>words_big n W (by omega));have c1:¬ (n:Int) < 0:=by omega
  have hzl:=hz.lt;go_enter Tryz.func122,Tryz.ntmps122
  go_wp2_with fail
  refine (Wd.out _).mono ?_;rintro e w1 ⟨v,rfl,hA,k1⟩;have G:=Lib.hid (give_any z false nb0 v0 v n w1 (by unfold BIat at *;rw [k1.block z hzl];exact hz) hv0 hA);clear hz hA
  go_wp2_with fail
  refine G.out.mono ?_;rintro e w2 ⟨rfl,hB,hK⟩;have hc:=(Chg.of_below k1:Chg z w w1).trans hK;go_wp2;go_ret;exact ⟨rfl,hB,hc⟩

theorem zeroB (w:World):BIat (w.alloc (.cells #[.bool false,.slice none 0 0] 126)) w.heap.size false (.slice none 0 0):=heap_alloc_new w _
/-- NewInt: a number in new memory -/
def GrewBI (x:Int) (w:World) (e:Ending) (w':World):Prop:=∃ z,e=.returned (.pointer (some ⟨z,0,none⟩))∧BI w' z x∧w.heap.size≤z∧Below w.heap.size w w'
theorem NewInt_any (x:Int) (w:World) (hx0:0≤x) (hx1:x≤9223372036854775807):Calls Tryz.prog 93 #[I x] w (GrewBI x w):=by
  have S:=Lib.hid (SetInt64_any w.heap.size false (.slice none 0 0) x _ (zeroB w) (fun k hk=>by cases hk) hx0 hx1);have k0:=boxed_below w (.cells #[.bool false,.slice none 0 0] 126);go_enter Tryz.func93,Tryz.ntmps93
  go_wp2_with fail
  refine S.out.mono ?_;rintro e w1 ⟨rfl,hB,hK⟩;have k:=hK.below k0 (Nat.le_refl _) k0.size;clear hK;go_wp2;go_ret;exact ⟨_,rfl,hB,Nat.le_refl _,k⟩
end
end Go.Proofs.YtfhmcahfjoliiaaGreatDoor
