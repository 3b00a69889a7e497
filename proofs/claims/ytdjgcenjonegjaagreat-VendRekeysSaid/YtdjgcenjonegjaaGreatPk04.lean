/- one block of the call's own may turn, the rest stays · book.Encode · ref.EventMay, ref.Encoded · ref.Encoded · book.Decode -/
import Derived.Test.YtdjgcenjonegjaaGreatPk02
import Derived.Test.YtdjgcenjonegjaaGreatPk03
set_option maxRecDepth 20000
set_option maxHeartbeats 8000000
set_option linter.unusedSimpArgs false
set_option linter.unusedVariables false
namespace Go.Proofs.YtdjgcenjonegjaaGreat
section
open Go.RowKit

/-- of what was there only block z may have turned -/
structure Chg (z:Nat) (w w':World):Prop where
  os:w'.os=w.os
  tape:w'.tape=w.tape
  output:w'.output=w.output
  size:w.heap.size≤w'.heap.size
  block:∀ b,b < w.heap.size→b≠z→w'.heap[b]?=w.heap[b]?
theorem Chg.refl (z:Nat) (w:World):Chg z w w:=⟨rfl,rfl,rfl,Nat.le_refl _,fun _ _ _=>rfl⟩
theorem Chg.trans {z:Nat} {a b c:World} (h:Chg z a b) (k:Chg z b c):Chg z a c:=
  ⟨k.os.trans h.os,k.tape.trans h.tape,k.output.trans h.output,Nat.le_trans h.size k.size,fun i hi hz=>(k.block i (Nat.lt_of_lt_of_le hi h.size) hz).trans (h.block i hi hz)⟩
theorem Chg.of_below {z:Nat} {w w':World} (h:Below w.heap.size w w'):Chg z w w':=⟨h.os,h.tape,h.output,h.size,fun b hb _=>h.block b hb⟩
theorem Chg.below {z B:Nat} {a w w':World} (h:Below B a w) (hz:B≤z) (k:Chg z w w') (hB:B≤w.heap.size):Below B a w':=
  h.trans ⟨k.os,k.tape,k.output,k.size,fun b hb=>k.block b (by omega) (by omega)⟩
theorem Chg.set {z:Nat} {w w':World} (h:Chg z w w') (j:Nat) (x:Value):Chg z w (w'.setCell ⟨z,j,none⟩ x):=
  ⟨h.os,h.tape,h.output,by simp [World.setCell];exact h.size,fun b hb hz=>by
    rw [← h.block b hb hz];simp [World.setCell,Array.getElem?_modify,show ¬ z=b by omega]⟩
/-- a store into memory that was not there -/
theorem Chg.setNew {z:Nat} {w w':World} (h:Chg z w w') (g j:Nat) (hg:w.heap.size≤g) (x:Value):Chg z w (w'.setCell ⟨g,j,none⟩ x):=
  ⟨h.os,h.tape,h.output,by simp [World.setCell];exact h.size,fun b hb hz=>by
    rw [← h.block b hb hz];simp [World.setCell,Array.getElem?_modify,show ¬ g=b by omega]⟩
theorem Chg.drewN {z:Nat} {w w':World} (h:Chg z w w') (q:Nat):Chg z w (w'.drewN q):=⟨h.os,h.tape,h.output,h.size,h.block⟩
/-- v does not lie in block z -/
def Far (z:Nat) (v:Value):Prop:=∀ a n c,v=.slice (some a) n c→a.block≠z
theorem Far.nil (z n c:Nat):Far z (.slice none n c):=by intro a n c h;cases h
theorem Sl.chg {z:Nat} {w w':World} {v:Value} {sz n:Nat} {cs:List Value} (h:Sl w v sz n cs) (hf:0 < n→Far z v) (k:Chg z w w'):Sl w' v sz n cs:=by
  obtain ⟨a,cap,rfl,hn,hl,h0,h⟩:=h;refine ⟨a,cap,rfl,hn,hl,h0,?_⟩
  by_cases hn0:n=0
  · exact .inl hn0
  · obtain ⟨b,off,rfl,hb,hc⟩:=h.resolve_left hn0
    have hbz:=hf (by omega) _ _ _ rfl;refine .inr ⟨b,off,rfl,Nat.lt_of_lt_of_le hb k.size,fun j hj=>?_⟩
    rw [← hc j hj];exact World.cell?_of_block (w:=w) (k.block b hb hbz)
theorem Sl.set {z j:Nat} {w:World} {v:Value} {sz n:Nat} {cs:List Value} (h:Sl w v sz n cs) (hf:Far z v) (x:Value):Sl (w.setCell ⟨z,j,none⟩ x) v sz n cs:=
  h.chg (fun _=>hf) ((Chg.refl z w).set j x)
theorem Far.lit {z g o n c:Nat} (h:g≠z):Far z (.slice (some ⟨g,o,none⟩) n c):=by intro a n c e;cases e;exact h
theorem Own.grown {w w':World} {g:Nat} {cs:List Value} {row:Option Nat} (h:Own w g cs) (hg:w.grownBy w' row) (hne:some g≠row):Own w' g cs:=by
  have hl:=h.lt;obtain ⟨cur,e,h,hc⟩:=h;exact ⟨cur,e,(hg.block g hl hne).trans h,hc⟩
theorem Own.chg {z:Nat} {w w':World} {g:Nat} {cs:List Value} (h:Own w g cs) (k:Chg z w w') (hg:g≠z):Own w' g cs:=by
  have hl:=h.lt;obtain ⟨cur,e,h,hc⟩:=h;exact ⟨cur,e,(k.block g hl hg).trans h,hc⟩
theorem Sl.farNew {w:World} {v:Value} {sz n z:Nat} {cs:List Value} (h:Sl w v sz n cs) (hz:w.heap.size≤z):0 < n→Far z v:=by
  intro hn;obtain ⟨a,cap,rfl,_,_,_,h⟩:=h;obtain ⟨b,off,rfl,hb,_⟩:=h.resolve_left (by omega);intro a' n' c' e;cases e;show b≠z;omega
end
section
open Go Go.RowKit

def encL (b:Bool) (l:List Int):List Int:=if b then l else []
def encE (b:Bool):Int:=if b then 0 else 5
def EncP (b:Bool) (l:List Int) (w:World) (e:Ending) (w':World):Prop:=GrewSl2 1 (encL b l).length ((encL b l).map U32) (encE b) w e w'
theorem hmf_any:∀ (fn:Fn) (first cap:Array Value) (w:World),(Instr.makeFunc fn first cap).run Tryz.prog w=.ok (.func fn first cap) w:=fun _ _ _ _=>rfl
theorem Encode_no (ki me mo id te de fe pr ch un ta ow bp:Int) (w:World) (hb:evMay ki me mo id te de fe pr ch un ta ow bp=false):Calls Tryz.prog 107 #[evV ki me mo id te de fe pr ch un ta ow bp] w (EncP false [] w):=by
  have C:=Lib.hid (fun W=>check_any me mo id te de fe pr ch un ta ow bp ki W);rw [hb] at C;have hmf:=hmf_any;clear hb
  go_enter_defers Tryz.func107,Tryz.ntmps107
  go_wp2_with fail
  refine (C.out _).mono ?_;rintro e w1 ⟨he,k1⟩;simp only [Bool.false_eq_true,if_false] at he;subst he;have hO:=(Own.new (w:=w.alloc (.cells #[I ki,I me,I mo,I id,I te,I de,I fe,I pr,I ch,I un,I ta,I ow,I bp] 48)) (g:=w.heap.size+1) (by simp) [I 0] 27).below k1;have kk:=below_box (below_box k1);have hg:=hO.lt;have cO:=hO;have cf0:=cO.f 0;have c0:=cO.c0;clear cO;clear C k1;refine leaves_cons (f:=147) (args:=#[.pointer (some ⟨w.heap.size+1,0,none⟩)]) (by simp) (by simp [go_sem]) ?_;refine (enc_pan (w.heap.size+1) 0 5 [] _ hg c0 cf0).mono ?_;rintro e u' w'' ⟨rfl,rfl,w2,k2,rfl⟩;have c2:=(k2.cell (p:=⟨w.heap.size+1,0,none⟩) hg).trans c0;have c3:(w2.setCell ⟨w.heap.size+1,0,none⟩ (I 5)).cell? ⟨w.heap.size+1,0,none⟩=some (I 5):=by rw [set_same,c2];rfl
  have kf:Below w.heap.size w (w2.setCell ⟨w.heap.size+1,0,none⟩ (I 5)):=(kk.trans (k2.mono kk.size)).setCell (by simp) _;generalize w2.setCell ⟨w.heap.size+1,0,none⟩ (I 5)=w3 at *;simp [Leaves,settle,results,Tryz.results107,go_sem,c3];refine ⟨_,rfl,Sl.nil _ _,kf⟩
theorem owns_far {w:World} {base e sz n z:Nat} {v:Value} {cs:List Value} (h:w.ownsRow base e sz v n cs) (hz:z < base):Far z v:=by
  rcases owns_cases h with ⟨rfl,_⟩ | ⟨g,cap,rfl,hb,_,_⟩
  · exact Far.nil _ _ _
  · exact Far.lit (by omega)
def EncRel (W:World) (L:List Int) (v:Value) (wr:World):Prop:=wr.ownsRow W.heap.size 80 1 v L.length (L.map U32)∧Below W.heap.size W wr
theorem Encode_yes (ki me mo id te de fe pr ch un ta ow bp : Int) (w : World) (hb : evMay ki me mo id te de fe pr ch un ta ow bp = true)
    (hl:∀ k,k < 13→0≤[ki,me,mo,id,te,de,fe,pr,ch,un,ta,ow,bp].getD k 0∧[ki,me,mo,id,te,de,fe,pr,ch,un,ta,ow,bp].getD k 0 < 4294967296):
    Calls Tryz.prog 107 #[evV ki me mo id te de fe pr ch un ta ow bp] w (EncP true [ki,me,mo,id,te,de,fe,pr,ch,un,ta,ow,bp] w):=by
  have C:=Lib.hid (fun W=>check_any me mo id te de fe pr ch un ta ow bp ki W);rw [hb] at C;have hmf:=hmf_any;have F:=Lib.hid (fun W=>fields_any w.heap.size W);have HL:=Lib.hid hl;obtain ⟨i0,hi,hz0,hz1,hz2⟩:=info_parts infoU32;have HI:=Lib.hid (fun k hk W=>index13 w.heap.size k hk W);clear hb hl
  go_enter_defers Tryz.func107,Tryz.ntmps107
  go_wp2_with fail
  refine (C.out _).mono ?_;rintro e w1 ⟨he,k1⟩;simp only [if_true] at he;subst he;have hO:=(Own.new (w:=w.alloc (.cells #[I ki,I me,I mo,I id,I te,I de,I fe,I pr,I ch,I un,I ta,I ow,I bp] 48)) (g:=w.heap.size+1) (by simp) [I 0] 27).below k1;have hV:=((Own.new (w:=w) rfl [I ki,I me,I mo,I id,I te,I de,I fe,I pr,I ch,I un,I ta,I ow,I bp] 48).alloc (.cells #[I 0] 27)).below k1;have kk:=below_box (below_box k1);clear C k1
  go_wp2_with fail
  refine (F.out _).mono ?_;rintro e w2 ⟨rfl,k2⟩;have kk2:=kk.trans (k2.mono kk.size);have HO:=Lib.hid (hO.below k2);have HV:=Lib.hid (hV.below k2);clear F k2 kk hO hV;have HLen:Hid ([ki,me,mo,id,te,de,fe,pr,ch,un,ta,ow,bp].length=13):=rfl
  have HV':Hid (∀ W,Below w2.heap.size w2 W→∀ k,k < 13→W.cell? ⟨w.heap.size,k,none⟩=some (I ([ki,me,mo,id,te,de,fe,pr,ch,un,ta,ow,bp].getD k 0))):=Lib.hid fun W hW k hk=>by
    have h:=(HV.out.below hW).cell k (by simpa using hk);rw [Nat.zero_add] at h;rw [h]
    match k,hk with
    | 0,_=>rfl
    | 1,_=>rfl
    | 2,_=>rfl
    | 3,_=>rfl
    | 4,_=>rfl
    | 5,_=>rfl
    | 6,_=>rfl
    | 7,_=>rfl
    | 8,_=>rfl
    | 9,_=>rfl
    | 10,_=>rfl
    | 11,_=>rfl
    | 12,_=>rfl
  generalize [ki,me,mo,id,te,de,fe,pr,ch,un,ta,ow,bp]=l at *;go_wp2
  go_loopw [2,5,10] (fun v _ i wr=>∃ k:Nat,k≤13∧i=I k∧Hid (EncRel w2 (l.take k) v wr)) (fun _ _ i _=>13-(intOf i).toNat)
  case atStart=>exact ⟨0,by decide,rfl,World.ownsRow_nil _ _ _ _,Below.refl _ _⟩
  case round=>
    obtain ⟨k,hk,rfl,hD⟩:=hrel;obtain ⟨hown,hbw⟩:=hD.out
    by_cases hlt:k < 13
    · have hix:=fun W=>HI.out k hlt W
      have hcell:=HV'.out wr hbw k hlt;obtain ⟨x0,x1⟩:=HL.out k hlt
      have hsn:=Lib.hid (show l.take (k+1)=l.take k++[l.getD k 0] by
        rw [List.take_succ_eq_append_getElem (by rw [HLen.out];exact hlt)];rw [List.getD_eq_getElem?_getD,List.getElem?_eq_getElem (by rw [HLen.out];exact hlt)]
        rfl)
      have hlen:(l.take k).length=k:=by rw [List.length_take,HLen.out];omega
      generalize l.getD k 0=x at *;have hwx:IntKind.u32.wrap x=x:=by show x%4294967296=x;omega
      have hsz:=hbw.size;have hsk:(k:Int) < 13:=by omega
      go_wp2_with (first | (at_builtin;refine wpList_append_own _ rfl _ _ 25 rfl w2.heap.size 80 i0 (.int .u32 0) 1 4 Tryz.underlying25 hi hz0 hz1 hz2 rfl (by decide) _ _ _ rfl (hown.alloc _) ⟨wr.heap.size,0,none⟩ 1 1 [U32 x] rfl rfl (news_lit _ [U32 x] _) (oneCells_lit rfl) (by unfold maxLen;omega) (by omega) (by simp;omega) ?_;intro v' w1 hown' hgrow _))
      have hbel:=grown_below (hbw.alloc hsz _) (hown.alloc _) (Nat.le_refl _) hgrow;rw [hlen] at hown'
      have hD':Hid (EncRel w2 (l.take (k+1)) v' w1):=by
        refine ⟨?_,hbel⟩;rw [hsn.out,List.map_append,List.length_append,hlen];exact hown'
      clear hown hown' hgrow hbel hbw hD;go_wp2;exact ⟨⟨k+1,by omega,by go_num,hD'⟩,by simp [intOf];try omega⟩
    · obtain rfl:k=13:=by omega
      have htk:l.take 13=l:=List.take_of_length_le (by rw [HLen.out];omega);have hS:=Sl.of_owns hown (by rw [htk,HLen.out];omega);rw [htk] at hS;have hO:=HO.out.below hbw;have HOr:=Lib.hid hO;have hg:=hO.lt;have cO:=hO;have cf0:=cO.f 0;have c0:=cO.c0;clear cO;have kw:=kk2.trans (hbw.mono kk2.size);have r1:=set_same;have hfar:=owns_far (z:=w.heap.size+1) hown HO.out.lt;clear hown hbw hO HO HV hD HI;go_wp2;refine leaves_cons (f:=147) (args:=#[.pointer (some ⟨w.heap.size+1,0,none⟩)]) (by simp) (by simp [go_sem]) ?_;have hO2:Own (wr.setCell ⟨w.heap.size+1,0,none⟩ (I 0)) (w.heap.size+1) [I 0]:=HOr.out.set 0 (I 0);have kw2:=kw.setCell (p:=⟨w.heap.size+1,0,none⟩) (by simp) (I 0);have hS2:=hS.set (z:=w.heap.size+1) (j:=0) hfar (I 0);have hg2:=hO2.lt;generalize wr.setCell ⟨w.heap.size+1,0,none⟩ (I 0)=w4 at *;clear c0 cf0 r1;have cO:=hO2;have cf0:=cO.f 0;have c0:=cO.c0;clear cO;refine (enc_idle (w.heap.size+1) 0 _ hg2 c0 cf0).mono ?_;rintro e u' w'' ⟨rfl,rfl,w5,k5,rfl⟩;have c2:=(k5.cell (p:=⟨w.heap.size+1,0,none⟩) hg2).trans c0;have c3:(w5.setCell ⟨w.heap.size+1,0,none⟩ (I 0)).cell? ⟨w.heap.size+1,0,none⟩=some (I 0):=by rw [set_same,c2];rfl
      have kf:Below w.heap.size w (w5.setCell ⟨w.heap.size+1,0,none⟩ (I 0)):=(kw2.trans (k5.mono kw2.size)).setCell (by simp) _;have hS5:=(hS2.below k5).set (z:=w.heap.size+1) (j:=0) hfar (I 0);generalize w5.setCell ⟨w.heap.size+1,0,none⟩ (I 0)=w6 at *;simp [Leaves,settle,results,Tryz.results107,go_sem,c3];exact ⟨_,rfl,by rw [show (encL true l).length=l.length from rfl];exact hS5,kf⟩
end
section
open Go Go.RowKit

variable (ki me mo id te de fe pr ch un ta ow bp:Int)
theorem evMay_all:evMay ki me mo id te de fe pr ch un ta ow bp=true↔(0≤me∧me≤49)∧(
    (ki=1∧mo=0∧(id=0∧te=0∧de=0∧fe=0∧pr=0∧ch=0∧un=0)∧ta=0∧ow=0∧bp=0) ∨
    (ki=2∧(0≤de∧0≤fe∧0≤pr∧0≤ch)∧(1≤te∧te≤100000000)∧de+fe+pr+ch=te∧(1≤un∧un≤2097151)∧(0≤mo∧mo≤2399)∧(1≤id∧id≤1048575)∧(0≤ta∧ta≤65535)∧ow=0∧bp=0) ∨
    (ki=3∧(1≤un∧un≤2097151)∧(0≤mo∧mo≤2399)∧(1≤id∧id≤1048575)∧(0≤ta∧ta≤65535)∧(te=0∧de=0∧fe=0∧pr=0∧ch=0)∧ow=0∧bp=0) ∨
    (ki=4∧(1≤id∧id≤1048575)∧(0≤ta∧ta≤65535)∧mo=0∧(te=0∧de=0∧fe=0∧pr=0∧ch=0∧un=0)∧ow=0∧bp=0) ∨
    (ki=5∧(1≤ow∧ow≤1000000000)∧(0≤bp∧bp≤10000)∧mo=0∧(id=0∧te=0∧de=0∧fe=0∧pr=0∧ch=0∧un=0)∧ta=0)):=by
  by_cases h1:ki=1
  · subst h1;rw [evMay_reg];simp
  by_cases h2:ki=2
  · subst h2;rw [evMay_sale];simp
  by_cases h3:ki=3
  · subst h3;rw [evMay_grant];simp
  by_cases h4:ki=4
  · subst h4;rw [evMay_rekey];simp
  by_cases h5:ki=5
  · subst h5;rw [evMay_charge];simp
  unfold evMay;rw [if_neg h1,if_neg h2,if_neg h3,if_neg h4,if_neg h5];simp [h1,h2,h3,h4,h5]
theorem evMay_words (h:evMay ki me mo id te de fe pr ch un ta ow bp=true) (k:Nat) (hk:k < 13):
    0≤[ki,me,mo,id,te,de,fe,pr,ch,un,ta,ow,bp].getD k 0∧[ki,me,mo,id,te,de,fe,pr,ch,un,ta,ow,bp].getD k 0 < 4294967296:=by
  have h:=(evMay_all ki me mo id te de fe pr ch un ta ow bp).1 h
  have:(0≤ki∧ki < 4294967296)∧(0≤me∧me < 4294967296)∧(0≤mo∧mo < 4294967296)∧(0≤id∧id < 4294967296)∧(0≤te∧te < 4294967296)∧(0≤de∧de < 4294967296)∧(0≤fe∧fe < 4294967296)∧(0≤pr∧pr < 4294967296)∧(0≤ch∧ch < 4294967296)∧(0≤un∧un < 4294967296)∧(0≤ta∧ta < 4294967296)∧(0≤ow∧ow < 4294967296)∧(0≤bp∧bp < 4294967296):=by
    obtain ⟨hm,h | h | h | h | h⟩:=h<;>refine ⟨?_,?_,?_,?_,?_,?_,?_,?_,?_,?_,?_,?_,?_⟩<;>omega
  obtain ⟨a0,a1,a2,a3,a4,a5,a6,a7,a8,a9,a10,a11,a12⟩:=this
  match k,hk with
  | 0,_=>exact a0
  | 1,_=>exact a1
  | 2,_=>exact a2
  | 3,_=>exact a3
  | 4,_=>exact a4
  | 5,_=>exact a5
  | 6,_=>exact a6
  | 7,_=>exact a7
  | 8,_=>exact a8
  | 9,_=>exact a9
  | 10,_=>exact a10
  | 11,_=>exact a11
  | 12,_=>exact a12
theorem Encode_any (w:World):Calls Tryz.prog 107 #[evV ki me mo id te de fe pr ch un ta ow bp] w (EncP (evMay ki me mo id te de fe pr ch un ta ow bp) [ki,me,mo,id,te,de,fe,pr,ch,un,ta,ow,bp] w):=by
  cases hb:evMay ki me mo id te de fe pr ch un ta ow bp
  · exact Encode_no ki me mo id te de fe pr ch un ta ow bp w hb
  · exact Encode_yes ki me mo id te de fe pr ch un ta ow bp w hb (evMay_words ki me mo id te de fe pr ch un ta ow bp hb)
end
section
open Go Go.RowKit

variable (ki me mo id te de fe pr ch un ta ow bp:Int)
theorem Encoded_no (w:World) (hb:evMay ki me mo id te de fe pr ch un ta ow bp=false):Calls Tryz.prog 66 #[evV ki me mo id te de fe pr ch un ta ow bp] w (EncP false [ki,me,mo,id,te,de,fe,pr,ch,un,ta,ow,bp] w):=by
  have M:=Lib.hid (fun W=>EventMay_any ki me mo id te de fe pr ch un ta ow bp W);rw [hb] at M;clear hb;go_enter Tryz.func66,Tryz.ntmps66
  go_wp2_with fail
  refine (M.out _).mono ?_;rintro e w1 ⟨rfl,k1⟩;have kk:=below_box k1;clear k1 M;go_wp2;go_ret2;exact ⟨_,rfl,Sl.nil _ _,kk⟩
theorem Encoded_yes (w : World) (hb : evMay ki me mo id te de fe pr ch un ta ow bp = true)
    (hl:∀ k,k < 13→0≤[ki,me,mo,id,te,de,fe,pr,ch,un,ta,ow,bp].getD k 0∧[ki,me,mo,id,te,de,fe,pr,ch,un,ta,ow,bp].getD k 0 < 4294967296):
    Calls Tryz.prog 66 #[evV ki me mo id te de fe pr ch un ta ow bp] w (EncP true [ki,me,mo,id,te,de,fe,pr,ch,un,ta,ow,bp] w):=by
  have M:=Lib.hid (fun W=>EventMay_any ki me mo id te de fe pr ch un ta ow bp W);rw [hb] at M;have HL:=Lib.hid hl;obtain ⟨i0,hi,hz0,hz1,hz2⟩:=info_parts infoU32;clear hb hl;go_enter Tryz.func66,Tryz.ntmps66
  go_wp2_with fail
  refine (M.out _).mono ?_;rintro e w1 ⟨rfl,k1⟩;have hV:=(Own.new (w:=w) rfl [I ki,I me,I mo,I id,I te,I de,I fe,I pr,I ch,I un,I ta,I ow,I bp] 48).below k1;have kk:=below_box k1;have hvl:=hV.lt;have hvn:¬ w.heap.size=w1.heap.size:=by omega
  have hvn2:¬ w1.heap.size=w.heap.size:=by omega
  have vO:=hV;have vA:=vO.s13;clear vO;clear M k1 hV;go_wp2;clear vA;have HO:=Lib.hid (Own.new (w:=w1.alloc (.cells #[I id,I te,I de,I fe,I pr,I ch,I un] 39)) (g:=w1.heap.size+1) (by simp) [I ki,I me,I mo,I id,I te,I de,I fe,I pr,I ch,I un,I ta,I ow,I bp] 3);have HK:Hid (Below w.heap.size w ((w1.alloc (.cells #[I id,I te,I de,I fe,I pr,I ch,I un] 39)).alloc (.cells #[I ki,I me,I mo,I id,I te,I de,I fe,I pr,I ch,I un,I ta,I ow,I bp] 3))):=(kk.alloc kk.size _).alloc (by simp;omega) _;have HLen:Hid ([ki,me,mo,id,te,de,fe,pr,ch,un,ta,ow,bp].length=13):=rfl;generalize (w1.alloc (.cells #[I id,I te,I de,I fe,I pr,I ch,I un] 39)).alloc (.cells #[I ki,I me,I mo,I id,I te,I de,I fe,I pr,I ch,I un,I ta,I ow,I bp] 3)=w2 at *
  have HV':Hid (∀ W,Below w2.heap.size w2 W→∀ k,k < 13→W.cell? ⟨w1.heap.size+1,k,none⟩=some (I ([ki,me,mo,id,te,de,fe,pr,ch,un,ta,ow,bp].getD k 0))):=Lib.hid fun W hW k hk=>by
    have h:=(HO.out.below hW).cell k (by simpa using hk);rw [Nat.zero_add] at h;rw [h]
    match k,hk with
    | 0,_=>rfl
    | 1,_=>rfl
    | 2,_=>rfl
    | 3,_=>rfl
    | 4,_=>rfl
    | 5,_=>rfl
    | 6,_=>rfl
    | 7,_=>rfl
    | 8,_=>rfl
    | 9,_=>rfl
    | 10,_=>rfl
    | 11,_=>rfl
    | 12,_=>rfl
  generalize [ki,me,mo,id,te,de,fe,pr,ch,un,ta,ow,bp]=l at *;clear HO kk
  go_loopw [6,7] (fun v i wr=>∃ k:Nat,k≤13∧i=I k∧Hid (EncRel w2 (l.take k) v wr)) (fun _ i _=>13-(intOf i).toNat)
  case atStart=>exact ⟨0,by decide,rfl,World.ownsRow_nil _ _ _ _,Below.refl _ _⟩
  case round=>
    obtain ⟨k,hk,rfl,hD⟩:=hrel;obtain ⟨hown,hbw⟩:=hD.out
    by_cases hlt:k < 13
    · have hcell:=HV'.out wr hbw k hlt
      obtain ⟨x0,x1⟩:=HL.out k hlt
      have hsn:=Lib.hid (show l.take (k+1)=l.take k++[l.getD k 0] by
        rw [List.take_succ_eq_append_getElem (by rw [HLen.out];exact hlt)];rw [List.getD_eq_getElem?_getD,List.getElem?_eq_getElem (by rw [HLen.out];exact hlt)]
        rfl)
      have hlen:(l.take k).length=k:=by rw [List.length_take,HLen.out];omega
      generalize l.getD k 0=x at *;have hwx:IntKind.u32.wrap x=x:=by show x%4294967296=x;omega
      have hsz:=hbw.size;have hsk:(k:Int) < 13:=by omega
      go_wp2_with (first | (at_builtin;refine wpList_append_own _ rfl _ _ 25 rfl w2.heap.size 80 i0 (.int .u32 0) 1 4 Tryz.underlying25 hi hz0 hz1 hz2 rfl (by decide) _ _ _ rfl (hown.alloc _) ⟨wr.heap.size,0,none⟩ 1 1 [U32 x] rfl rfl (news_lit _ [U32 x] _) (oneCells_lit rfl) (by unfold maxLen;omega) (by omega) (by simp;omega) ?_;intro v' w1 hown' hgrow _))
      have hbel:=grown_below (hbw.alloc hsz _) (hown.alloc _) (Nat.le_refl _) hgrow;rw [hlen] at hown'
      have hD':Hid (EncRel w2 (l.take (k+1)) v' w1):=by
        refine ⟨?_,hbel⟩;rw [hsn.out,List.map_append,List.length_append,hlen];exact hown'
      clear hown hown' hgrow hbel hbw hD;go_wp2;exact ⟨⟨k+1,by omega,by go_num,hD'⟩,by simp [intOf];try omega⟩
    · obtain rfl:k=13:=by omega
      have htk:l.take 13=l:=List.take_of_length_le (by rw [HLen.out];omega);have hS:=Sl.of_owns hown (by rw [htk,HLen.out];omega);rw [htk] at hS;have kw:=HK.out.trans (hbw.mono HK.out.size);clear hown hbw hD;go_wp2;go_ret2;exact ⟨_,rfl,hS,kw⟩
theorem Encoded_any (w:World):Calls Tryz.prog 66 #[evV ki me mo id te de fe pr ch un ta ow bp] w (EncP (evMay ki me mo id te de fe pr ch un ta ow bp) [ki,me,mo,id,te,de,fe,pr,ch,un,ta,ow,bp] w):=by
  cases hb:evMay ki me mo id te de fe pr ch un ta ow bp
  · exact Encoded_no ki me mo id te de fe pr ch un ta ow bp w hb
  · exact Encoded_yes ki me mo id te de fe pr ch un ta ow bp w hb (evMay_words ki me mo id te de fe pr ch un ta ow bp hb)
end
section
open Go Go.RowKit

def mixD (l:List Int) (k:Nat):List Value:=(List.range 13).map fun j=>I (if j < k then l.getD j 0 else 0)
theorem mixD_set {l:List Int} {k:Nat}:(mixD l k).set k (I (l.getD k 0))=mixD l (k+1):=by
  refine List.ext_getElem (by simp [mixD]) fun j h1 h2=>?_
  simp only [mixD,List.getElem_set,List.getElem_map,List.getElem_range]
  by_cases hkj:k=j
  · subst hkj;rw [if_pos rfl,if_pos (by omega)]
  · rw [if_neg hkj]
    by_cases hlt:j < k
    · rw [if_pos hlt,if_pos (by omega)]
    · rw [if_neg hlt,if_neg (by omega)]
abbrev z13:List Value:=[I 0,I 0,I 0,I 0,I 0,I 0,I 0,I 0,I 0,I 0,I 0,I 0,I 0]
theorem zero13_own {W:World} {gv:Nat} {x0 x1 x2 x3 x4 x5 x6 x7 x8 x9 x10 x11 x12:Value} (h:Own W gv [x0,x1,x2,x3,x4,x5,x6,x7,x8,x9,x10,x11,x12]):Own (zero13 W gv) gv z13:=
  ((((((((((((h.set 0 (I 0)).set 1 (I 0)).set 2 (I 0)).set 3 (I 0)).set 4 (I 0)).set 5 (I 0)).set 6 (I 0)).set 7 (I 0)).set 8 (I 0)).set 9 (I 0)).set 10 (I 0)).set 11 (I 0)).set 12 (I 0)
theorem zero13_other {W:World} {gv g:Nat} {cs:List Value} (h:Own W g cs) (hne:gv≠g):Own (zero13 W gv) g cs:=by
  unfold zero13
  (repeat refine Own.other ?_ hne _)
  exact h
theorem zero13_below {B:Nat} {a W:World} {gv:Nat} (h:Below B a W) (hg:B≤gv):Below B a (zero13 W gv):=by
  unfold zero13
  (repeat refine Below.setCell ?_ hg _)
  exact h
def evL (l:List Int):Bool:=evMay (l.getD 0 0) (l.getD 1 0) (l.getD 2 0) (l.getD 3 0) (l.getD 4 0) (l.getD 5 0) (l.getD 6 0) (l.getD 7 0) (l.getD 8 0) (l.getD 9 0) (l.getD 10 0) (l.getD 11 0) (l.getD 12 0)
def decE (l:List Int):Int:=if l.length=13 then (if evL l then 0 else 5) else 1
def decX (l:List Int) (k:Nat):Int:=if decE l=0 then l.getD k 0 else 0
def decVal (l:List Int):Value:=evV (decX l 0) (decX l 1) (decX l 2) (decX l 3) (decX l 4) (decX l 5) (decX l 6) (decX l 7) (decX l 8) (decX l 9) (decX l 10) (decX l 11) (decX l 12)
def DecdP (l:List Int) (w:World) (e:Ending) (w':World):Prop:=Grew (T2 (decVal l) (I (decE l))) w e w'
theorem DecdP.bad {l:List Int} {w w':World} {k:Int} (h:decE l=k) (hk:k≠0) (hb:Below w.heap.size w w'):DecdP l w (.returned (T2 (evV 0 0 0 0 0 0 0 0 0 0 0 0 0) (I k))) w':=by
  refine ⟨?_,hb⟩;have:∀ j,decX l j=0:=fun j=>by unfold decX;rw [if_neg (by rw [h];exact hk)]
  unfold decVal;simp only [this,h]
theorem DecdP.ok {l:List Int} {w w':World} (h:decE l=0) (hb:Below w.heap.size w w'):DecdP l w (.returned (T2 (evV (l.getD 0 0) (l.getD 1 0) (l.getD 2 0) (l.getD 3 0) (l.getD 4 0) (l.getD 5 0) (l.getD 6 0) (l.getD 7 0) (l.getD 8 0) (l.getD 9 0) (l.getD 10 0) (l.getD 11 0) (l.getD 12 0)) (I 0))) w':=by
  refine ⟨?_,hb⟩;have:∀ j,decX l j=l.getD j 0:=fun j=>by unfold decX;rw [if_pos h]
  unfold decVal;simp only [this,h]
theorem Decode_len (v:Value) (l:List Int) (w:World) (hS:Sl w v 1 l.length (l.map U32)) (h:l.length≠13):Calls Tryz.prog 39 #[v] w (DecdP l w):=by
  have HE:=Lib.hid (show decE l=1 by unfold decE;rw [if_neg h]);obtain ⟨a,cap,rfl,hn,hl,h0,hr⟩:=hS;have h1:((l.length:Int)==13)=false:=by rw [beq_eq_false_iff_ne];omega
  have h2:¬ ((l.length:Nat):Int)=13:=by omega
  have hmf:=hmf_any;have N:=Lib.hid (fun W=>want_no 1 W);clear hl h0 hr h;generalize l.length=n at *;have hO:=Own.new (w:=w.alloc (.cells z13.toArray 48)) (g:=w.heap.size+1) (by simp) [I 0] 27;have hV:=(Own.new (w:=w) rfl z13 48).alloc (.cells #[I 0] 27);have kk:Below w.heap.size w ((w.alloc (.cells z13.toArray 48)).alloc (.cells #[I 0] 27)):=(boxed_below w _).alloc (by simp) _;have HO:=Lib.hid hO;have HV:=Lib.hid hV;have KK:=Lib.hid kk;clear hO hV kk
  go_enter_defers Tryz.func39,Tryz.ntmps39
  go_wp2_with fail
  refine (N.out _).mono ?_;rintro e w1 ⟨rfl,rfl⟩;have hO:=HO.out;have hV:=HV.out;have kk:=KK.out;have hg:=hO.lt;have cO:=hO;have cf0:=cO.f 0;have c0:=cO.c0;clear cO;refine leaves_cons (f:=73) (args:=#[.pointer (some ⟨w.heap.size+1,0,none⟩),.pointer (some ⟨w.heap.size,0,none⟩)]) (by simp) (by simp [go_sem]) ?_;refine (dec_pan (w.heap.size+1) w.heap.size 0 1 _ _ _ _ _ _ _ _ _ _ _ _ _ [] _ (by decide) (by omega) hV hg c0 cf0).mono ?_;rintro e u' w'' ⟨rfl,rfl,w8,k8,rfl⟩;rw [if_neg (by decide)];have hO8:=((hO.below k8).set 0 (I 1));have hV8:=(hV.below k8).other (a:=⟨w.heap.size+1,0,none⟩) (by simp) (I 1);have kf:=zero13_below (gv:=w.heap.size) ((kk.trans (k8.mono kk.size)).setCell (p:=⟨w.heap.size+1,0,none⟩) (by simp) (I 1)) (Nat.le_refl _);have hO9:=zero13_other hO8 (show w.heap.size≠w.heap.size+1 by omega);have hV9:=zero13_own hV8;generalize zero13 (w8.setCell ⟨w.heap.size+1,0,none⟩ (I 1)) w.heap.size=w9 at *;clear hO8 hV8 k8 c0 cf0;have cO:=hO9;have cf0:=cO.f 0;have c0:=cO.c0;clear cO;have vO:=hV9;have vfA:=vO.f;have v0:=vO.c0;have v1:=vO.c1;have v2:=vO.c2;have v3:=vO.c3;have v4:=vO.c4;have v5:=vO.c5;have v6:=vO.c6;have v7:=vO.c7;have v8:=vO.c8;have v9:=vO.c9;have v10:=vO.c10;have v11:=vO.c11;have v12:=vO.c12;clear vO;(try simp only [List.set_cons_zero] at c0);simp [Leaves,settle,results,Tryz.results39,go_sem,c0,v0,v1,v2,v3,v4,v5,v6,v7,v8,v9,v10,v11,v12];exact DecdP.bad HE.out (by decide) kf
end
end Go.Proofs.YtdjgcenjonegjaaGreat
