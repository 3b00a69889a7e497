/- may an oracle be? which pair is it? the reference · the oracle: what was tagged, as a map; may it be? · oracles: a copy; two that are the same · oracle.Issue: what it answers; the copies -/
import Derived.Test.YtdjgcenjonegjaaGreatPk01
import Derived.Test.YtdjgcenjonegjaaGreatPk05
import Derived.Test.YtdjgcenjonegjaaGreatPk02
import Derived.Test.YtdjgcenjonegjaaGreatPk44
import Derived.Test.YtdjgcenjonegjaaGreatPk04
set_option maxRecDepth 20000
set_option maxHeartbeats 8000000
set_option linter.unusedSimpArgs false
set_option linter.unusedVariables false
namespace Go.Proofs.YtdjgcenjonegjaaGreat
section
open Go.RowKit

def pairMay (p:APair):Bool:=inB p.meter 0 49&&(inB p.rev 0 15&&(inB p.body 0 8796093022207&&inB p.tag 0 65535))
/-- the first pair under a key: its place, or -1 -/
def tagI (ps:List APair) (x y z:Int):Int:=match ps.findIdx? (keyIs x y z) with | some i=>(i:Int) | none=>-1
theorem tagI_at {ps:List APair} {x y z:Int} {k:Nat} (hk:k < ps.length) (h0:∀ j,j < k→keyIs x y z (ps.getD j default)=false) (h1:keyIs x y z (ps.getD k default)=true):tagI ps x y z=k:=by
  have:ps.findIdx? (keyIs x y z)=some k:=by
    rw [List.findIdx?_eq_some_iff_getElem];refine ⟨hk,?_,fun j hj=>?_⟩
    · have:=h1;rw [List.getD_eq_getElem?_getD,List.getElem?_eq_getElem hk] at this;exact this
    · have:=h0 j hj;rw [List.getD_eq_getElem?_getD,List.getElem?_eq_getElem (by omega)] at this;simpa using this
  rw [tagI,this]
theorem tagI_no {ps:List APair} {x y z:Int} (h:∀ j,j < ps.length→keyIs x y z (ps.getD j default)=false):tagI ps x y z=-1:=by
  have:ps.findIdx? (keyIs x y z)=none:=by
    rw [List.findIdx?_eq_none_iff];intro p hp;obtain ⟨j,hj,rfl⟩:=List.getElem_of_mem hp;have:=h j hj;rw [List.getD_eq_getElem?_getD,List.getElem?_eq_getElem hj] at this;exact this
  rw [tagI,this]
def goodAt (ps:List APair) (k:Nat):Bool:=pairMay (ps.getD k default)&&decide (tagI ps (ps.getD k default).meter (ps.getD k default).rev (ps.getD k default).body=(k:Int))
def mayO (ps:List APair):Bool:=decide (ps.length≤500)&&(List.range ps.length).all (goodAt ps)
theorem mayO_no {ps:List APair} {k:Nat} (hk:k < ps.length) (h:goodAt ps k=false):mayO ps=false:=by
  rw [mayO,Bool.and_eq_false_iff];refine .inr (List.all_eq_false.2 ⟨k,List.mem_range.2 hk,by rw [h];simp⟩)
theorem mayO_yes {ps:List APair} (h5:ps.length≤500) (h:∀ k,k < ps.length→goodAt ps k=true):mayO ps=true:=by
  rw [mayO,Bool.and_eq_true,decide_eq_true_eq];exact ⟨h5,List.all_eq_true.2 fun k hk=>h k (List.mem_range.1 hk)⟩
theorem PairMay_any (p:APair) (w:World):Calls Tryz.prog 63 #[.agg #[I p.meter,I p.rev,I p.body,I p.tag]] w (Grew (.bool (pairMay p)) w):=by
  have hP:pairMay p=(inB p.meter 0 49&&(inB p.rev 0 15&&(inB p.body 0 8796093022207&&inB p.tag 0 65535))):=rfl;obtain ⟨a,b,c,d⟩:=p;simp only at hP ⊢;rw [hP];have kb:=boxed_below w (.cells #[I a,I b,I c,I d] 100);cases h1:inB a 0 49
  · go_enter Tryz.func63,Tryz.ntmps63
    go_wp2_with (go_at_call 57;refine (In_any _ _ _ _).mono ?_;rintro e w' ⟨rfl,rfl⟩)
    go_ret;exact ⟨by simp,kb⟩
  cases h2:inB b 0 15
  · go_enter Tryz.func63,Tryz.ntmps63
    go_wp2_with (go_at_call 57;refine (In_any _ _ _ _).mono ?_;rintro e w' ⟨rfl,rfl⟩)
    go_ret;exact ⟨by simp,kb⟩
  cases h3:inB c 0 8796093022207
  · go_enter Tryz.func63,Tryz.ntmps63
    go_wp2_with (go_at_call 57;refine (In_any _ _ _ _).mono ?_;rintro e w' ⟨rfl,rfl⟩)
    go_ret;exact ⟨by simp,kb⟩
  · go_enter Tryz.func63,Tryz.ntmps63
    go_wp2_with (go_at_call 57;refine (In_any _ _ _ _).mono ?_;rintro e w' ⟨rfl,rfl⟩)
    go_ret;exact ⟨by simp,kb⟩
theorem tagged_any (v : Value) (ps : List APair) (x y z : Int) (w : World) (h : Sl w v 4 ps.length (ps.flatMap APair.cells)) :
    Calls Tryz.prog 65 #[.agg #[v],I x,I y,I z] w (Grew (I (tagI ps x y z)) w):=by
  obtain ⟨a,cap,rfl,hn,hl,-,h⟩:=h;have ob:=Own.new (w:=w) rfl [.slice a ps.length cap] 35;have kb:=boxed_below w (.cells #[.slice a ps.length cap] 35);clear hl;go_enter Tryz.func65,Tryz.ntmps65;go_wp2
  go_loopw [9] (fun i wr=>∃ k:Nat,k≤ps.length∧i=I k∧Hid (∀ j,j < k→keyIs x y z (ps.getD j default)=false)∧Hid (Own wr w.heap.size [.slice a ps.length cap])∧Below w.heap.size w wr) (fun i _=>ps.length-(intOf i).toNat)
  case atStart=>exact ⟨0,Nat.zero_le _,rfl,(fun j hj=>by omega),ob,kb⟩
  case round=>
    obtain ⟨k,hk,rfl,hno,hO,hbw⟩:=hrel;have hsz:=hbw.size;have oO:=hO.out;have oA:=oO.s1;clear oO
    by_cases hlt:k < ps.length
    · obtain ⟨b,off,rfl,hb,hc⟩:=h.resolve_left (by omega)
      obtain ⟨e0,e1,e2,e3⟩:=elPair hb hc hbw k hlt;have hi0:(0:Int)≤(k:Int):=by omega
      have hi1:(k:Int) < (ps.length:Int):=by omega
      have hat:=Lib.hid (fun h1=>tagI_at hlt hno.out h1)
      have hst:=Lib.hid (show keyIs x y z (ps.getD k default)=false→∀ j,j < k+1→keyIs x y z (ps.getD j default)=false from fun h1 j hj=>by
        rcases Nat.lt_or_ge j k with hj' | hj'
        · exact hno.out j hj'
        · rw [show j=k by omega];exact h1)
      have hO':=fun c=>Lib.hid (hO.out.alloc (.cells c 100));have hkd:=Lib.hid (show keyIs x y z (ps.getD k default)=(decide ((ps.getD k default).meter=x)&&(decide ((ps.getD k default).rev=y)&&decide ((ps.getD k default).body=z))) from rfl);have hkk:=fun c=>hbw.alloc hsz (.cells c 100);have HK:=Lib.hid (And.intro hO' hkk);clear h hc hno hO hO' hkk ob kb;generalize ps.getD k default=p at *;obtain ⟨p1,p2,p3,p4⟩:=p;simp only at e0 e1 e2 e3
      by_cases q1:p1=x
      · by_cases q2:p2=y
        · by_cases q3:p3=z
          · have hr:=hat.out (by rw [hkd.out];simp [q1,q2,q3])
            have HR:=Lib.hid hr;clear hr hat hst hkd;go_wp2;go_ret;exact Grew.intro (eI HR.out.symm) (HK.out.2 _)
          · have hr:=hst.out (by rw [hkd.out];simp [q1,q2,q3])
            have HR:=Lib.hid hr;clear hr hat hst hkd;go_wp2;exact ⟨⟨k+1,by omega,by go_num,HR,HK.out.1 _,HK.out.2 _⟩,by simp [intOf];omega⟩
        · have hr:=hst.out (by rw [hkd.out];simp [q1,q2])
          have HR:=Lib.hid hr;clear hr hat hst hkd;go_wp2;exact ⟨⟨k+1,by omega,by go_num,HR,HK.out.1 _,HK.out.2 _⟩,by simp [intOf];omega⟩
      · have hr:=hst.out (by rw [hkd.out];simp [q1])
        have HR:=Lib.hid hr;clear hr hat hst hkd;go_wp2;exact ⟨⟨k+1,by omega,by go_num,HR,HK.out.1 _,HK.out.2 _⟩,by simp [intOf];omega⟩
    · have hr:=tagI_no (x:=x) (y:=y) (z:=z) (ps:=ps) (fun j hj=>hno.out j (by omega))
      have HR:=Lib.hid hr;have hge:(ps.length:Int)≤(k:Int):=by omega
      clear hr hno h ob kb;go_wp2;go_ret;exact Grew.intro (eI HR.out.symm) hbw
theorem OracleMay_any (v : Value) (ps : List APair) (w : World) (h : Sl w v 4 ps.length (ps.flatMap APair.cells)) :
    Calls Tryz.prog 62 #[.agg #[v]] w (Grew (.bool (mayO ps)) w):=by
  have hS:=h;obtain ⟨a,cap,rfl,hn,hl,-,h⟩:=h;have ob:=Own.new (w:=w) rfl [.slice a ps.length cap] 35;have kb:=boxed_below w (.cells #[.slice a ps.length cap] 35);clear hl
  by_cases h5:500 < ps.length
  · have hM:mayO ps=false:=by rw [mayO,Bool.and_eq_false_iff];exact .inl (by simp;omega)
    have h5':(500:Int) < (ps.length:Int):=by omega
    rw [hM];clear hM h5;go_enter Tryz.func62,Tryz.ntmps62;go_wp2;go_ret;exact ⟨by simp,kb⟩
  · have h5':¬ (500:Int) < (ps.length:Int):=by omega
    have HM:=Lib.hid (And.intro (fun k hk hg=>mayO_no (ps:=ps) (k:=k) hk hg) (fun hg=>mayO_yes (ps:=ps) (by omega) hg));have P:=Lib.hid (fun p W=>PairMay_any p W);have T:=Lib.hid (fun x y z W hW=>tagged_any (.slice a ps.length cap) ps x y z W hW);clear h5;go_enter Tryz.func62,Tryz.ntmps62;go_wp2
    go_loopw [3] (fun i wr=>∃ k:Nat,k≤ps.length∧i=I k∧Hid (∀ j,j < k→goodAt ps j=true)∧Hid (Own wr w.heap.size [.slice a ps.length cap])∧Below w.heap.size w wr) (fun i _=>ps.length-(intOf i).toNat)
    case atStart=>exact ⟨0,Nat.zero_le _,rfl,(fun j hj=>by omega),ob,kb⟩
    case round=>
      obtain ⟨k,hk,rfl,hgd,hO,hbw⟩:=hrel;have hsz:=hbw.size;have oO:=hO.out;have ofA:=oO.f;have o0:=oO.c0;clear oO
      by_cases hlt:k < ps.length
      · obtain ⟨b,off,rfl,hb,hc⟩:=h.resolve_left (by omega)
        obtain ⟨e0,e1,e2,e3⟩:=elPair hb hc hbw k hlt;have hi0:(0:Int)≤(k:Int):=by omega
        have hi1:(k:Int) < (ps.length:Int):=by omega
        have hG:=Lib.hid (show goodAt ps k=(pairMay (ps.getD k default)&&decide (tagI ps (ps.getD k default).meter (ps.getD k default).rev (ps.getD k default).body=(k:Int))) from rfl);have hno:=Lib.hid (fun hg=>HM.out.1 k hlt hg)
        have hst:=Lib.hid (show goodAt ps k=true→∀ j,j < k+1→goodAt ps j=true from fun h1 j hj=>by
          rcases Nat.lt_or_ge j k with hj' | hj'
          · exact hgd.out j hj'
          · rw [show j=k by omega];exact h1)
        generalize goodAt ps k=gd at *;generalize ps.getD k default=p at *;have PP:=Lib.hid (fun W=>P.out p W);generalize pairMay p=pm at *;have TT:=Lib.hid (fun W hW=>T.out p.meter p.rev p.body W hW);generalize tagI ps p.meter p.rev p.body=ti at *;obtain ⟨p1,p2,p3,p4⟩:=p;simp only at PP TT e0 e1 e2 e3;have kA:=hbw.alloc hsz (.cells #[I p1,I p2,I p3,I p4] 100);have oA:=hO.out.alloc (.cells #[I p1,I p2,I p3,I p4] 100);have op:=Own.new (w:=wr) rfl [I p1,I p2,I p3,I p4] 100;clear hgd hO h hc P T HM ob kb
        go_wp2_with fail
        refine (PP.out _).mono ?_;rintro e w1 ⟨rfl,k1⟩;have k2:=kA.trans (k1.mono kA.size);have oB:=oA.below k1;have ppO:=op.below k1;have ppA:=ppO.s4;clear ppO;have ooO:=oB;have ooA:=ooO.s1;clear ooO;have hs1:wr.heap.size < w1.heap.size:=by have:=k1.size;simp at this;omega
        clear k1 kA oA op o0 ofA e0 e1 e2 e3;cases pm
        · have hr:=hno.out (by rw [hG.out];rfl)
          have HR:=Lib.hid hr;clear hr hG hst hno;go_wp2;go_ret;exact Grew.intro (eB HR.out.symm) k2
        · have hS1:=hS.below k2
          by_cases hti:ti=(k:Int)
          · have hr:=hst.out (by rw [hG.out,hti];simp)
            have HR:=Lib.hid hr;clear hr hG hst hno;subst hti
            go_wp2_with fail
            refine (TT.out _ hS1).mono ?_;rintro e w3 ⟨rfl,k3⟩;have k4:=k2.trans (k3.mono k2.size);have HO:=Lib.hid (oB.below k3);have poO:=oB.below k3;have poA:=poO.s1;clear poO;clear ppA ooA k3 oB;go_wp2;exact ⟨⟨k+1,by omega,by go_num,HR,HO,k4⟩,by simp [intOf];omega⟩
          · have hr:=hno.out (by rw [hG.out];simp [hti])
            have HR:=Lib.hid hr;clear hr hG hst hno;have hb1:(ti != (k:Int))=true:=by simp [hti]
            go_wp2_with fail
            refine (TT.out _ hS1).mono ?_;rintro e w3 ⟨rfl,k3⟩;go_wp2;go_ret;exact Grew.intro (eB HR.out.symm) (k2.trans (k3.mono k2.size))
      · have hr:=HM.out.2 (fun j hj=>hgd.out j (by omega))
        have HR:=Lib.hid hr;have hge:(ps.length:Int)≤(k:Int):=by omega
        clear hr hgd HM h ob kb P T;go_wp2;go_ret;exact Grew.intro (eB HR.out.symm) hbw
end
section
open Go Go.RowKit

def whatMay (a b c:Int):Bool:=inB a 0 49&&(inB b 0 15&&inB c 0 8796093022207)
theorem of_any (p:APair) (w:World):Calls Tryz.prog 146 #[.agg #[I p.meter,I p.rev,I p.body,I p.tag]] w (Grew (whatV p.meter p.rev p.body) w):=by
  obtain ⟨a,b,c,d⟩:=p;simp only;go_enter Tryz.func146,Tryz.ntmps146;go_wp2;exact bodyPost_ret (v:=whatV a b c) (by simp [results,Tryz.results146,go_sem]) rfl (Grew.intro rfl below_auto)
theorem wmay_any (a b c:Int) (w:World):Calls Tryz.prog 105 #[whatV a b c] w (Grew (.bool (whatMay a b c)) w):=by
  go_enter Tryz.func105,Tryz.ntmps105;go_wp2
  all_goals
    go_ret;refine Grew.intro ?_ below_auto;simp only [whatMay,inB];simp [*]
    try omega
theorem tagI_ne {ps:List APair} {x y z:Int} {j k:Nat} (hj:j < k) (hk:k < ps.length) (h:keyIs x y z (ps.getD j default)=true):tagI ps x y z≠(k:Int):=by
  intro he;unfold tagI at he
  split at he
  · rename_i i hi
    obtain ⟨hi0,hi1,hi2⟩:=List.findIdx?_eq_some_iff_getElem.1 hi;have hik:i=k:=by omega
    have:=hi2 j (by omega);rw [List.getD_eq_getElem?_getD,List.getElem?_eq_getElem (by omega)] at h;simp at h;rw [h] at this;simp at this
  · omega
theorem take_has {ps:List APair} {x y z:Int} {k:Nat} (hk:k≤ps.length) (h:hasKey (ps.take k) x y z=true):∃ j,j < k∧keyIs x y z (ps.getD j default)=true:=by
  obtain ⟨p,hp,hh⟩:=List.any_eq_true.1 h;obtain ⟨j,hj,rfl⟩:=List.getElem_of_mem hp;rw [List.length_take] at hj;refine ⟨j,by omega,?_⟩;rw [List.getElem_take] at hh;rw [List.getD_eq_getElem?_getD,List.getElem?_eq_getElem (by omega)];exact hh
theorem take_not {ps:List APair} {x y z:Int} {k:Nat} (hk:k≤ps.length) (h:hasKey (ps.take k) x y z=false):∀ j,j < k→keyIs x y z (ps.getD j default)=false:=by
  intro j hj;rw [hasKey,List.any_eq_false] at h
  have:=h (ps.getD j default) (by
    rw [List.getD_eq_getElem?_getD,List.getElem?_eq_getElem (by omega)];refine List.mem_of_getElem? (i:=j) ?_;rw [List.getElem?_take,if_pos hj,List.getElem?_eq_getElem (by omega)];rfl)
  simpa using this
theorem pairMay_split (p:APair):pairMay p=(whatMay p.meter p.rev p.body&&inB p.tag 0 65535):=by
  simp only [pairMay,whatMay,Bool.and_assoc]
theorem good_twice {ps:List APair} {k:Nat} (hk:k < ps.length) (h:hasKey (ps.take k) (ps.getD k default).meter (ps.getD k default).rev (ps.getD k default).body=true):goodAt ps k=false:=by
  obtain ⟨j,hj,hh⟩:=take_has (by omega) h;rw [goodAt,Bool.and_eq_false_iff];exact .inr (decide_eq_false (tagI_ne hj hk hh))
theorem good_once {ps:List APair} {k:Nat} (hk:k < ps.length) (h:hasKey (ps.take k) (ps.getD k default).meter (ps.getD k default).rev (ps.getD k default).body=false):goodAt ps k=pairMay (ps.getD k default):=by
  rw [goodAt,tagI_at hk (take_not (by omega) h) (keyIs_true.2 ⟨rfl,rfl,rfl⟩)];simp
def GrewKnown (ps:List APair) (w:World) (e:Ending) (w':World):Prop:=
  (mayO ps=true∧∃ b,e=.returned (T2 (.map (some b)) (.bool true))∧w.heap.size≤b∧OwnMap w' b ps∧Below w.heap.size w w')∨(mayO ps=false∧e=.returned (T2 (.map none) (.bool false))∧Below w.heap.size w w')
theorem OwnMap.alloc {w:World} {b:Nat} {ps:List APair} (h:OwnMap w b ps) (o:Obj):OwnMap (w.alloc o) b ps:=h.below (boxed_below w o)
set_option maxRecDepth 100000 in
theorem known_any (v : Value) (ps : List APair) (w : World) (h : Sl w v 4 ps.length (ps.flatMap APair.cells)) (hw : ∀ p ∈ ps, p.wf) :
    Calls Tryz.prog 104 #[.agg #[v]] w (GrewKnown ps w):=by
  obtain ⟨a,cap,rfl,hn,hl,-,h⟩:=h;have kb:=boxed_below w (.cells #[.slice a ps.length cap] 35);clear hl
  by_cases h5:500 < ps.length
  · have hM:mayO ps=false:=by rw [mayO,Bool.and_eq_false_iff];exact .inl (by simp;omega)
    have h5':(500:Int) < (ps.length:Int):=by omega
    clear h5;go_enter Tryz.func104,Tryz.ntmps104;go_wp2;go_ret2;exact .inr ⟨hM,rfl,kb⟩
  · have h5':¬ (500:Int) < (ps.length:Int):=by omega
    have HM:=Lib.hid (And.intro (fun k hk hg=>mayO_no (ps:=ps) (k:=k) hk hg) (fun hg=>mayO_yes (ps:=ps) (by omega) hg));have hmm:=@run_makeMap Tryz.prog;have om:=OwnMap.new (w.alloc (.cells #[.slice a ps.length cap] 35));rw [World.size_alloc] at om;have km:=kb.alloc (by simp) (.map #[] 0);clear h5;go_enter Tryz.func104,Tryz.ntmps104;go_wp2
    go_loopw [18] (fun i wr=>∃ k:Nat,k≤ps.length∧i=I k∧Hid (OwnMap wr (w.heap.size+1) (ps.take k))∧Hid (∀ j,j < k→goodAt ps j=true)∧Below w.heap.size w wr) (fun i _=>ps.length-(intOf i).toNat)
    case atStart=>exact ⟨0,Nat.zero_le _,rfl,om,(fun j hj=>by omega),km⟩
    case round=>
      obtain ⟨k,hk,rfl,hO,hgd,hbw⟩:=hrel;clear hmm om km kb;have hsz:=hbw.size
      by_cases hlt:k < ps.length
      · obtain ⟨b, off, rfl, hb, hc⟩ := h.resolve_left (by omega)
        obtain ⟨e0,e1,e2,e3⟩:=elPair hb hc hbw k hlt;have hi0:(0:Int)≤(k:Int):=by omega
        have hi1:(k:Int) < (ps.length:Int):=by omega
        have hwf:(ps.getD k default).wf:=hw _ (by rw [List.getD_eq_getElem?_getD,List.getElem?_eq_getElem hlt];exact List.getElem_mem hlt);have hno:=Lib.hid (fun hg=>HM.out.1 k hlt hg)
        have hst:=Lib.hid (show goodAt ps k=true→∀ j,j < k+1→goodAt ps j=true from fun h1 j hj=>by
          rcases Nat.lt_or_ge j k with hj' | hj'
          · exact hgd.out j hj'
          · rw [show j=k by omega];exact h1)
        have htk:=Lib.hid (show ps.take (k+1)=ps.take k++[ps.getD k default] by
          rw [List.take_add_one,List.getElem?_eq_getElem hlt,List.getD_eq_getElem?_getD,List.getElem?_eq_getElem hlt];rfl)
        have hg1:=Lib.hid (good_twice (ps:=ps) hlt);have hg2:=Lib.hid (good_once (ps:=ps) hlt);generalize ps.getD k default=p at *;generalize ps.take k=tk at *;generalize goodAt ps k=gd at *;have hps:=Lib.hid (pairMay_split p);have OF:=Lib.hid (fun W=>of_any p W);have HW:=Lib.hid hwf;obtain ⟨p1,p2,p3,p4⟩:=p;simp only at OF e0 e1 e2 e3 hps hg1 hg2 htk;have MAY:=Lib.hid (fun W=>wmay_any p1 p2 p3 W);have kA:=hbw.alloc hsz (.cells #[I p1,I p2,I p3,I p4] 100);have op:=Own.new (w:=wr) rfl [I p1,I p2,I p3,I p4] 100;have oM:=hO.out.alloc (.cells #[I p1,I p2,I p3,I p4] 100);clear hgd hO h hc HM hwf
        go_wp2_with fail
        refine (OF.out _).mono ?_;rintro e w1 ⟨rfl,k1⟩;have oM1:=oM.below k1;have k2:=kA.trans (k1.mono kA.size);have hs1:wr.heap.size < w1.heap.size:=by have:=k1.size;simp at this;omega
        have kB:=boxed_below w1 (.cells #[I p1,I p2,I p3] 202);have oM2:=oM1.below kB;have k3:=k2.trans (kB.mono k2.size);have opp:=(op.below k1).below kB;have oww:=Own.new (w:=w1) rfl [I p1,I p2,I p3] 202;have ppO:=opp;have ppA:=ppO.s4;clear ppO;have wwO:=oww;have wwA:=wwO.s3;clear wwO;have hL:=run_look oM2 HW.out.1 HW.out.2.1 HW.out.2.2.1;clear k1 kA op oM oM1 kB k2 e0 e1 e2 e3;simp only at hL;have hg1':=Lib.hid (hg1.out);have HP:=Lib.hid (fun W (hM:OwnMap W (w.heap.size+1) tk) hh=>run_put hM (p:=⟨p1,p2,p3,p4⟩) HW.out hh);have hg2':=Lib.hid (hg2.out);generalize hasKey tk p1 p2 p3=tw at *;generalize tagOf tk p1 p2 p3=tg at *;have hgood:=Lib.hid (fun (e1:tw=false) (e2:whatMay p1 p2 p3=true) (e3:inB p4 0 65535=true)=>show gd=true by rw [hg2.out e1,hps.out,e2,e3];rfl);have hbad1:=Lib.hid (fun (e1:tw=false) (e2:whatMay p1 p2 p3=false)=>hno.out (show gd=false by rw [hg2.out e1,hps.out,e2];rfl));have hbad2:=Lib.hid (fun (e1:tw=false) (e3:inB p4 0 65535=false)=>hno.out (show gd=false by rw [hg2.out e1,hps.out,e3,Bool.and_false]));have hbad0:=Lib.hid (fun (e1:tw=true)=>hno.out (hg1.out e1));clear hg1 hg2 hg1' hg2' hps hno OF;generalize whatMay p1 p2 p3=wm at *;cases tw
        · go_wp2_with fail
          refine (MAY.out _).mono ?_;rintro e w3 ⟨rfl,k4⟩;have oM3:=oM2.below k4;have k5:=k3.trans (k4.mono k3.size);clear hL ppA wwA;have ppO:=opp.below k4;have ppA:=ppO.s4;clear ppO;have wwO:=oww.below k4;have wwA:=wwO.s3;clear wwO;clear opp oww k4 k3 oM2 MAY;cases wm
          · have HR:=Lib.hid (hbad1.out (by first | rfl | trivial) (by first | rfl | trivial))
            clear hgood hbad1 hbad2 hbad0 HP;go_wp2;go_ret2;exact .inr ⟨HR.out,rfl,k5⟩
          · cases ht:inB p4 0 65535
            · have HR:=Lib.hid (hbad2.out (by first | rfl | trivial) ht)
              have hn:=inB_false.1 ht;clear hgood hbad1 hbad2 hbad0 HP ht
              by_cases hneg:p4 < 0
              · clear hn
                go_wp2;go_ret2;exact .inr ⟨HR.out,rfl,k5⟩
              · have hbig:65535 < p4:=by omega
                clear hn;go_wp2;go_ret2;exact .inr ⟨HR.out,rfl,k5⟩
            · obtain ⟨h0,h1⟩:=inB_true.1 ht
              have hneg:¬ p4 < 0:=by omega
              have hbig:¬ 65535 < p4:=by omega
              have HR:=Lib.hid (hst.out (hgood.out (by first | rfl | trivial) (by first | rfl | trivial) ht));obtain ⟨w4,hU,hM4,hB4⟩:=HP.out w3 oM3 (by first | rfl | trivial);have HM4:=Lib.hid (show OwnMap w4 (w.heap.size+1) (ps.take (k+1)) by rw [htk.out];exact hM4);have k6:=hB4 _ _ k5 (Nat.le_succ _);clear hgood hbad1 hbad2 hbad0 HP ht oM3 hM4 hB4 hst htk h0 h1 k5;go_wp2;exact ⟨⟨k+1,by omega,by go_num,HM4,HR,k6⟩,by simp [intOf];omega⟩
        · have HR:=Lib.hid (hbad0.out (by first | rfl | trivial))
          clear hgood hbad1 hbad2 hbad0 HP opp oww;go_wp2;go_ret2;exact .inr ⟨HR.out,rfl,k3⟩
      · have hr:=HM.out.2 (fun j hj=>hgd.out j (by omega))
        have hge:(ps.length:Int)≤(k:Int):=by omega
        have hkk:k=ps.length:=by omega
        have hO':=hO.out;rw [hkk,List.take_length] at hO';have HH:=Lib.hid (And.intro hr hO');clear hr hO' hO hgd HM h hkk;go_wp2;go_ret2;exact .inl ⟨HH.out.1,_,rfl,Nat.le_succ _,HH.out.2,hbw⟩
def verO (ps:List APair) (x y z t:Int):Bool:=mayO ps&&(hasKey ps x y z&&decide (tagOf ps x y z=t))
theorem tagI_cases (ps:List APair) (x y z:Int):(tagI ps x y z=-1∧hasKey ps x y z=false)∨∃ k:Nat,k < ps.length∧tagI ps x y z=(k:Int)∧hasKey ps x y z=true∧tagOf ps x y z=(ps.getD k default).tag:=by
  cases hi:ps.findIdx? (keyIs x y z) with
  | none=>
    refine .inl ⟨by rw [tagI,hi],?_⟩;rw [hasKey,List.any_eq_false];intro p hp;have:=List.findIdx?_eq_none_iff.1 hi p hp;simp [this]
  | some k=>
    obtain ⟨hk,h1,h2⟩:=List.findIdx?_eq_some_iff_getElem.1 hi
    have hf:ps.find? (keyIs x y z)=some ps[k]:=by
      rw [List.find?_eq_some_iff_getElem];exact ⟨h1,k,hk,rfl,fun j hj=>by simpa using h2 j hj⟩
    refine .inr ⟨k,hk,by rw [tagI,hi],List.any_eq_true.2 ⟨_,List.getElem_mem hk,h1⟩,?_⟩;rw [tagOf,hf,List.getD_eq_getElem?_getD,List.getElem?_eq_getElem hk]
    rfl
end
section
open Go Go.RowKit

theorem infoPair:(Tryz.prog.info? 100).map (fun i=>(i.zero,i.size,i.bytes))=some (some (.agg #[.int .i64 0,.int .i64 0,.int .i64 0,.int .i64 0]),4,32):=by kernel_rfl
theorem pairs_one:∀ ys:List APair,oneCells (ys.flatMap APair.cells):=fun ys=>oneCells_flat (fun x u hu=>by simp only [APair.cells,List.mem_cons,List.not_mem_nil,or_false] at hu;rcases hu with rfl | rfl | rfl | rfl<;>rfl) ys
def FarQ (B:Nat) (v:Value):Prop:=∀ z,z < B→Far z v
theorem FarQ.of_owns {w:World} {base e sz n:Nat} {v:Value} {cs:List Value} (h:w.ownsRow base e sz v n cs):FarQ base v:=by
  intro z hz a n' c e;obtain ⟨_,h⟩:=h;rcases h with ⟨rfl,_⟩ | ⟨g,cap,cur,rfl,hb,_⟩
  · cases e
  · cases e;show g≠z;omega
def GrewOr (ps:List APair) (w:World) (e:Ending) (w':World):Prop:=∃ v,e=.returned (.agg #[v])∧Sl w' v 4 ps.length (ps.flatMap APair.cells)∧Below w.heap.size w w'
theorem oracles_any (v:Value) (ps:List APair) (w:World) (h:Sl w v 4 ps.length (ps.flatMap APair.cells)) (hby:ps.length*32≤140737488355328):
    Calls Tryz.prog 12 #[.agg #[v]] w (GrewOr ps w):=by
  obtain ⟨i0,hi,hz0,hz1,hz2⟩:=info_parts infoPair;have hS:=h;obtain ⟨a,cap,rfl,hn,hl,h0,h⟩:=h;obtain ⟨kB,-,oz⟩:=boxes2 w [.slice a ps.length cap] 35 [.slice none 0 0] 35;cases a with
  | none=>
    obtain ⟨hn0,rfl⟩:=h0 rfl;obtain rfl:ps=[]:=List.length_eq_zero_iff.1 hn0;clear h hS h0 hl oz;go_enter Tryz.func12,Tryz.ntmps12
    go_wp2_with fail
    exact bodyPost_ret (v:=.agg #[.slice none 0 0]) (by simp [results,Tryz.results12,go_sem]) rfl (⟨_,rfl,Sl.nil _ _,below_auto⟩)
  | some ad=>
    have hnews:=Lib.hid (hS.below kB).news;have hone:=Lib.hid (pairs_one ps);have Hl:=Lib.hid hl;have c3:0+ps.length≤maxLen:=by unfold maxLen;omega
    have c4:=Lib.hid (show (0+ps.length)*32≤140737488355328 by omega);have hsB:w.heap.size≤((w.alloc (.cells #[.slice (some ad) ps.length cap] 35)).alloc (.cells #[.slice none 0 0] 35)).heap.size:=kB.size;clear h h0 hl hby;go_enter Tryz.func12,Tryz.ntmps12
    go_wp2_with
      (at_builtin
       refine wpList_append_own _ rfl _ _ 33 rfl (w.heap.size+2) 100 i0 (.agg #[.int .i64 0,.int .i64 0,.int .i64 0,.int .i64 0]) 4 32 Tryz.underlying33 hi hz0 hz1 hz2 rfl (by decide) _ 0 [] rfl (World.ownsRow_nil _ _ _ _) ad _ _ (ps.flatMap APair.cells) rfl Hl.out hnews.out hone.out c3 c4.out (by simp) ?_;intro v' w1 hown' hgrow _;have hbel:=kB.grown hgrow hsB (fun k hk=>absurd (show (none:Option Nat)=some k from hk) (by simp));have oz1:=oz.grown hgrow (fun e=>by cases e);rw [Nat.zero_add,List.nil_append] at hown';have hF:=FarQ.of_owns hown';have hS1:=Sl.of_owns hown' hn.1;clear hown' hgrow;have zO:=oz1;have zA:=zO.s1;clear zO;obtain ⟨a1,p1,rfl,-⟩:=id hS1;have r1:=set_same;clear oz1)
    have hfz:Far (w.heap.size+1) (.slice a1 ps.length p1):=hF _ (by omega);exact bodyPost_ret (v:=.agg #[.slice a1 ps.length p1]) (by simp [results,Tryz.results12,go_sem, *];try omega) rfl (⟨_,rfl,hS1.set hfz _,below_autor⟩)
set_option maxRecDepth 200000 in
theorem neqPair_run (p:APair) (w:World):(binOp .neq 100 (.agg #[I p.meter,I p.rev,I p.body,I p.tag]) (.agg #[I p.meter,I p.rev,I p.body,I p.tag])).run Tryz.prog w=.ok (.bool false) w:=by
  have hp:Tryz.prog.stoodInHeld 100=false:=by kernel_rfl
  have ht:Tryz.prog.underlying 100=some (.struct (Tryz.prog.fieldsOf 100)):=by kernel_rfl
  rw [run_neq_struct,run_equalIn_struct w 9999 100 _ _ ht hp];simp only [Program.fieldsOf,Tryz.underlying100];rw [eqF_int w (by decide) Tryz.underlying3 rfl rfl,eqF_int w (by decide) Tryz.underlying3 rfl rfl,eqF_int w (by decide) Tryz.underlying3 rfl rfl,eqF_int w (by decide) Tryz.underlying3 rfl rfl,eqF_nil];simp [Result.andThen]
theorem sameOracle_any (v1 v2:Value) (ps:List APair) (w:World) (h1:Sl w v1 4 ps.length (ps.flatMap APair.cells)) (h2:Sl w v2 4 ps.length (ps.flatMap APair.cells)):
    Calls Tryz.prog 16 #[.agg #[v1],.agg #[v2]] w (Grew (.bool true) w):=by
  obtain ⟨a1,c1,rfl,hn1,_,_,h1⟩:=h1;obtain ⟨a2,c2,rfl,hn2,_,_,h2⟩:=h2;have hm:Tryz.prog.eqGuardType Tryz.prog.depth 100=false:=by kernel_rfl
  have hne:=neqPair_run;obtain ⟨kB,o1,o2⟩:=boxes2 w [.slice a1 ps.length c1] 35 [.slice a2 ps.length c2] 35;have xO:=o1;have xA:=xO.s1;clear xO;have yO:=o2;have yA:=yO.s1;clear yO;go_enter Tryz.func16,Tryz.ntmps16;go_wp2
  go_loopw [5] (fun i wr=>∃ k:Nat,k≤ps.length∧i=I k∧Hid (Own wr w.heap.size [.slice a1 ps.length c1])∧Hid (Own wr (w.heap.size+1) [.slice a2 ps.length c2])∧Below w.heap.size w wr) (fun i _=>ps.length-(intOf i).toNat)
  case atStart=>exact ⟨0,Nat.zero_le _,rfl,o1,o2,kB⟩
  case round=>
    obtain ⟨k,hk,rfl,hO1,hO2,hbw⟩:=hrel;clear xA yA o1 o2 kB;have xO:=hO1.out;have xA:=xO.s1;clear xO;have yO:=hO2.out;have yA:=yO.s1;clear yO
    by_cases hlt:k < ps.length
    · obtain ⟨b1,f1,rfl,hb1,hc1⟩:=h1.resolve_left (by omega)
      obtain ⟨b2,f2,rfl,hb2,hc2⟩:=h2.resolve_left (by omega);obtain ⟨e0,e1,e2,e3⟩:=elPair hb1 hc1 hbw k hlt;obtain ⟨g0,g1,g2,g3⟩:=elPair hb2 hc2 hbw k hlt;have hi0:(0:Int)≤(k:Int):=by omega
      have hi1:(k:Int) < (ps.length:Int):=by omega
      clear h1 h2 hc1 hc2;generalize ps.getD k default=p at *;have hq:=hne p;clear hne;obtain ⟨p1,p2,p3,p4⟩:=p;simp only at e0 e1 e2 e3 g0 g1 g2 g3 hq;go_wp2
      go_quiet (fail)
      go_wp2;exact ⟨⟨k+1,by omega,by go_num,hO1,hO2,drewN_below hbw _⟩,by simp [intOf];omega⟩
    · have hge:(ps.length:Int)≤(k:Int):=by omega
      go_wp2;go_ret;exact Grew.intro rfl hbw
end
section
open Go Go.RowKit

def issE (ps:List APair) (x y z d:Int):Int:=if mayO ps then (if pairMay ⟨x,y,z,d⟩ then (if hasKey ps x y z then 0 else if ps.length=500 then 16 else 0) else 2) else 5
def issN (ps:List APair) (x y z d:Int):Int:=if issE ps x y z d=0 then (if hasKey ps x y z then tagOf ps x y z else d) else 0
def issL (ps:List APair) (x y z d:Int):List APair:=if issE ps x y z d=0 then (if hasKey ps x y z then ps else ps++[⟨x,y,z,d⟩]) else []
def GrewIs (L:List APair) (n k:Int) (w:World) (e:Ending) (w':World):Prop:=∃ v,e=.returned (T3 (.agg #[v]) (I n) (I k))∧Sl w' v 4 L.length (L.flatMap APair.cells)∧Below w.heap.size w w'∧FarB w.heap.size v
theorem iss_err {ps:List APair} {x y z d:Int} (h:issE ps x y z d≠0):issN ps x y z d=0∧issL ps x y z d=[]:=by simp [issN,issL,h]
theorem clone_own (v:Value) (ps:List APair) (w:World) (h:Sl w v 4 ps.length (ps.flatMap APair.cells)) (h5:ps.length≤500):
    Calls Tryz.prog 106 #[v] w (GrewOw 100 4 ps.length (ps.flatMap APair.cells) w):=by
  obtain ⟨i0,hi,hz0,hz1,hz2⟩:=info_parts infoPair;have hq:=fun W a n c=>Lib.run_eql_slice_nil (P:=Tryz.prog) W 33 _ a n c 0 0 Tryz.underlying33;have hS:=h;obtain ⟨a,cap,rfl,hn,hl,h0,h⟩:=h;cases a with
  | none=>
    obtain ⟨hn0,rfl⟩:=h0 rfl;obtain rfl:ps=[]:=List.length_eq_zero_iff.1 hn0;clear h hS h0 hl;go_enter Tryz.func106,Tryz.ntmps106
    go_wp2_with fail
    go_ret;exact ⟨_,rfl,World.ownsRow_nil _ _ _ _,Below.refl _ _⟩
  | some ad=>
    have kb:=boxed_below w (.cells #[] 100);have hnews:=Lib.hid (hS.below kb).news;have hone:=Lib.hid (pairs_one ps);have Hl:=Lib.hid hl;have hlit:=owns_lit w [] 100 4 0 rfl (Nat.zero_le _);have c3:0+ps.length≤maxLen:=by unfold maxLen;omega
    have c4:=Lib.hid (show (0+ps.length)*32≤140737488355328 by omega);clear h h0 hl hS;go_enter Tryz.func106,Tryz.ntmps106
    go_wp2_with
      (at_builtin
       refine wpList_append_own _ rfl _ _ 33 rfl w.heap.size 100 i0 (.agg #[.int .i64 0,.int .i64 0,.int .i64 0,.int .i64 0]) 4 32 Tryz.underlying33 hi hz0 hz1 hz2 rfl (by decide) _ 0 [] rfl hlit ad _ _ (ps.flatMap APair.cells) rfl Hl.out hnews.out hone.out c3 c4.out (by simp) ?_;intro v' w1 hown' hgrow _;have hbel:=kb.grown hgrow kb.size (fun k hk=>(hlit.lt k hk).1);rw [Nat.zero_add,List.nil_append] at hown';clear hgrow)
    go_ret;exact ⟨_,rfl,hown',hbel⟩
theorem OracleCopy_own (v : Value) (ps : List APair) (w : World) (h : Sl w v 4 ps.length (ps.flatMap APair.cells)) (h5 : ps.length ≤ 500) :
    Calls Tryz.prog 64 #[.agg #[v]] w fun e w'=>∃ u,e=.returned (.agg #[u])∧w'.ownsRow (w.heap.size+2) 100 4 u ps.length (ps.flatMap APair.cells)∧Below w.heap.size w w':=by
  obtain ⟨i0,hi,hz0,hz1,hz2⟩:=info_parts infoPair;obtain ⟨a,cap,rfl,hn,-,-,h⟩:=h;obtain ⟨kB,ob,oz⟩:=boxes2 w [.slice a ps.length cap] 35 [.slice none 0 0] 35;have hzB:w.heap.size+2≤((w.alloc (.cells #[.slice a ps.length cap] 35)).alloc (.cells #[.slice none 0 0] 35)).heap.size:=by simp
  go_enter Tryz.func64,Tryz.ntmps64;go_wp2
  go_loopw [3,4] (fun v i wr=>∃ k:Nat,k≤ps.length∧i=I k∧Hid (wr.ownsRow (w.heap.size+2) 100 4 v (ps.take k).length ((ps.take k).flatMap APair.cells))∧Hid (Own wr w.heap.size [.slice a ps.length cap])∧Hid (Own wr (w.heap.size+1) [.slice none 0 0])∧Below w.heap.size w wr∧w.heap.size+2≤wr.heap.size) (fun _ i _=>ps.length-(intOf i).toNat)
  case atStart=>exact ⟨0,Nat.zero_le _,rfl,World.ownsRow_nil _ _ _ _,ob,oz,kB,hzB⟩
  case round=>
    obtain ⟨k,hk,rfl,hR,hO,hZ,hbw,hsz2⟩:=hrel;clear ob oz kB hzB;have hsz:=hbw.size;have oO:=hO.out;have oA:=oO.s1;clear oO
    by_cases hlt:k < ps.length
    · obtain ⟨b,off,rfl,hb,hc⟩:=h.resolve_left (by omega)
      obtain ⟨e0,e1,e2,e3⟩:=elPair hb hc hbw k hlt;have hi0:(0:Int)≤(k:Int):=by omega
      have hi1:(k:Int) < (ps.length:Int):=by omega
      have htk:=Lib.hid (show ps.take (k+1)=ps.take k++[ps.getD k default] by
        rw [List.take_add_one,List.getElem?_eq_getElem hlt,List.getD_eq_getElem?_getD,List.getElem?_eq_getElem hlt];rfl)
      have hlk:(ps.take k).length=k:=by rw [List.length_take];omega
      have HLK:=Lib.hid hlk;clear h hc;generalize ps.getD k default=p at *;obtain ⟨p1,p2,p3,p4⟩:=p;simp only at e0 e1 e2 e3;have c3:(ps.take k).length+1≤maxLen:=by unfold maxLen;omega
      have c4:((ps.take k).length+1)*32≤140737488355328:=by omega
      have HC:=Lib.hid (And.intro c3 c4);clear c3 c4 hlk;generalize hnk:(ps.take k).length=nk at *
      go_wp2_with
        (at_builtin
         refine wpList_append_own _ rfl _ _ 33 rfl (w.heap.size+2) 100 i0 (.agg #[.int .i64 0,.int .i64 0,.int .i64 0,.int .i64 0]) 4 32 Tryz.underlying33 hi hz0 hz1 hz2 rfl (by decide) _ _ _ rfl (hR.out.alloc _) ⟨wr.heap.size,0,none⟩ 1 1 [I p1,I p2,I p3,I p4] rfl rfl (news_lit _ _ _) (by simp [Value.oneCell']) HC.out.1 HC.out.2 (by simp;omega) ?_;intro v' w1 hown' hgrow _;have hrow:=hR.out.alloc (.cells #[I p1,I p2,I p3,I p4] 100);have hbel:=(hbw.alloc hsz (.cells #[I p1,I p2,I p3,I p4] 100)).grown hgrow (by simp;omega) (fun j hj=>by have:=(hrow.lt j hj).1;omega);have hO1:=(hO.out.alloc (.cells #[I p1,I p2,I p3,I p4] 100)).grown hgrow (fun e=>by have:=(hrow.lt _ e.symm).1;omega);have hZ1:=(hZ.out.alloc (.cells #[I p1,I p2,I p3,I p4] 100)).grown hgrow (fun e=>by have:=(hrow.lt _ e.symm).1;omega);have hs1:w.heap.size+2≤w1.heap.size:=by have:=hgrow.size;simp at this;omega
         have HO1:=Lib.hid hO1;have HZ1:=Lib.hid hZ1
         have HR1:=Lib.hid (show w1.ownsRow (w.heap.size+2) 100 4 v' (ps.take (k+1)).length ((ps.take (k+1)).flatMap APair.cells) by
           rw [htk.out,List.length_append,hnk,List.flatMap_append];exact hown')
         clear hown' hgrow hrow hO1 hZ1 hO hZ hR oA e0 e1 e2 e3)
      go_round
      case rel=>exact ⟨k+1,by omega,by go_num,HR1,HO1,HZ1,hbel,hs1⟩
      case measure=>simp [intOf];omega
    · have hkl:k=ps.length:=by omega
      have hge:(ps.length:Int)≤(k:Int):=by omega
      have HRF:=Lib.hid (show wr.ownsRow (w.heap.size+2) 100 4 u3 ps.length (ps.flatMap APair.cells) by
        have:=hR.out;rw [hkl,List.take_length] at this;exact this)
      have zO:=hZ.out;have zA:=zO.s1;clear zO;have r1:=set_same
      obtain ⟨sa,sc,rfl⟩:∃ sa sc,u3=.slice sa ps.length sc:=by
        rcases owns_cases HRF.out with ⟨h1,h2⟩ | ⟨g,c,h1,_⟩
        · exact ⟨none,0,by rw [h1,h2]⟩
        · exact ⟨_,_,h1⟩
      clear hR hkl hO hZ h;have HRS:=Lib.hid (fun x=>ownsRow_setCell_below HRF.out (a:=⟨w.heap.size+1,0,none⟩) (by show w.heap.size+1 < w.heap.size+2;omega) x);go_wp2;exact bodyPost_ret (v:=.agg #[.slice sa ps.length sc]) (by simp [results,Tryz.results64,go_sem, *];try omega) rfl (⟨_,rfl,HRS.out _,hbw.setCell (p:=⟨w.heap.size+1,0,none⟩) (Nat.le_succ _) _⟩)

theorem mayO_len {ps:List APair} (h:mayO ps=true):ps.length≤500:=by
  unfold mayO at h;rw [Bool.and_eq_true,decide_eq_true_eq] at h;exact h.1
theorem iss_state {ps:List APair} {x y z d:Int} (h:mayO ps=false):issE ps x y z d=5:=by simp [issE,h]
theorem iss_range {ps:List APair} {x y z d:Int} (h:mayO ps=true) (h2:pairMay ⟨x,y,z,d⟩=false):issE ps x y z d=2:=by simp [issE,h,h2]
theorem iss_known {ps:List APair} {x y z d:Int} (h:mayO ps=true) (h2:pairMay ⟨x,y,z,d⟩=true) (h3:hasKey ps x y z=true):issE ps x y z d=0∧issN ps x y z d=tagOf ps x y z∧issL ps x y z d=ps:=by
  simp [issN,issL,issE,h,h2,h3]
theorem iss_full {ps:List APair} {x y z d:Int} (h:mayO ps=true) (h2:pairMay ⟨x,y,z,d⟩=true) (h3:hasKey ps x y z=false) (h4:ps.length=500):issE ps x y z d=16:=by
  simp [issE,h,h2,h3,h4]
theorem iss_new {ps:List APair} {x y z d:Int} (h:mayO ps=true) (h2:pairMay ⟨x,y,z,d⟩=true) (h3:hasKey ps x y z=false) (h4:¬ ps.length=500):issE ps x y z d=0∧issN ps x y z d=d∧issL ps x y z d=ps++[⟨x,y,z,d⟩]:=by
  simp [issN,issL,issE,h,h2,h3,h4]
theorem GrewIs.bad {ps:List APair} {x y z d E:Int} {w w':World} (h:issE ps x y z d=E) (hE:E≠0) (k:Below w.heap.size w w'):
    GrewIs (issL ps x y z d) (issN ps x y z d) (issE ps x y z d) w (.returned (T3 (.agg #[.slice none 0 0]) (I 0) (I E))) w':=by
  obtain ⟨h1,h2⟩:=iss_err (h▸hE);rw [h1,h2,h];exact ⟨_,rfl,Sl.of_owns (World.ownsRow_nil w' w.heap.size 100 4) (Nat.zero_le _),k,FarB.nil _ _ _⟩
theorem GrewIs.good {ps L:List APair} {x y z d n:Int} {w w':World} {v:Value} (h:issE ps x y z d=0∧issN ps x y z d=n∧issL ps x y z d=L) (hs:Sl w' v 4 L.length (L.flatMap APair.cells)) (k:Below w.heap.size w w') (hf:FarB w.heap.size v):
    GrewIs (issL ps x y z d) (issN ps x y z d) (issE ps x y z d) w (.returned (T3 (.agg #[v]) (I n) (I 0))) w':=by
  obtain ⟨h1,h2,h3⟩:=h;rw [h1,h2,h3];exact ⟨_,rfl,hs,k,hf⟩
end
end Go.Proofs.YtdjgcenjonegjaaGreat
