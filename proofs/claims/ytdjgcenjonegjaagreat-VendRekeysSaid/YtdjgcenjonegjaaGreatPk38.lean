/- (*vend.shop).customer, (*vend.shop).keep, ref.keeps · vend.Register, ref.VendRegister · token.fault, token.Body and their references -/
import Derived.Test.YtdjgcenjonegjaaGreatPk37
import Derived.Test.YtdjgcenjonegjaaGreatPk04
import Derived.Test.YtdjgcenjonegjaaGreatPk01
import Derived.Test.YtdjgcenjonegjaaGreatPk02
import Derived.OwnWalk
set_option maxRecDepth 20000
set_option maxHeartbeats 8000000
set_option linter.unusedSimpArgs false
set_option linter.unusedVariables false
namespace Go.Proofs.YtdjgcenjonegjaaGreat
section
open Go Go.RowKit
/-- a shop's customer: its place in the book's row -/
def CustP (bv:Value) (cs:List PCust) (me:Int) (w:World) (e:Ending) (w':World):Prop:=
  (0≤idxOf cs me→∃ g cap,bv=.slice (some ⟨g,0,none⟩) cs.length cap∧e=.returned (T2 (.pointer (some ⟨g,(idxOf cs me).toNat*8,none⟩)) (I 0))∧Below w.heap.size w w') ∧
  (idxOf cs me < 0→e=.returned (T2 (.pointer none) (I 18))∧Below w.heap.size w w')
theorem customer_any (sg B:Nat) (bv cv tv x1 x2 x3 x4 n:Value) (cs:List PCust) (ys:List ACust) (me:Int) (w:World) (hs:Own w sg [bv,tv,x1,x2,x3,x4,cv,n]) (hB:BookAt w B bv cs ys) (hn:cs.length≤4096):
    Calls Tryz.prog 20 #[.pointer (some ⟨sg,0,none⟩),I me] w (CustP bv cs me w):=by
  have F:=Lib.hid (Find_any bv ys me w (hB.sl (by omega)));unfold findA findE at F;rw [book_found hB] at F;have hbd:=idxOf_bd cs me;have HS:=Lib.hid hs;obtain ⟨a,c,rfl⟩:=book_slice hB
  by_cases h0:idxOf cs me < 0
  · rw [if_pos h0,if_pos h0] at F
    have H0:=Lib.hid h0;have sO:=hs;have sA:=sO.s8;clear sO;clear hs hbd h0;go_enter Tryz.func20,Tryz.ntmps20
    go_wp2_with fail
    refine F.out.mono ?_;rintro e w1 ⟨rfl,k1⟩;clear sA;go_wp2;go_ret2;exact ⟨fun h=>absurd H0.out (by omega),fun _=>⟨rfl,k1⟩⟩
  · rw [if_neg h0,if_neg h0] at F
    obtain ⟨j,hj⟩:=Int.eq_ofNat_of_zero_le (show 0≤idxOf cs me by omega);have hjl:j < cs.length:=by omega
    obtain ⟨g,cap,hv,hg1,hg2⟩:=owns_pos hB.2.1 (by omega);simp only [Value.slice.injEq] at hv;obtain ⟨rfl,-,rfl⟩:=hv;rw [hj] at F;have HJ:=Lib.hid hj;have hj0:(0:Int)≤(j:Int):=by omega
    have hj1:(j:Int) < (cs.length:Int):=by omega
    have sO:=hs;have sA:=sO.s8;clear sO;clear hs hbd h0 hj;go_enter Tryz.func20,Tryz.ntmps20
    go_wp2_with fail
    refine F.out.mono ?_;rintro e w1 ⟨rfl,k1⟩;clear sA;have sO:=HS.out.below k1;have sA:=sO.s8;clear sO;go_wp2;go_ret2;refine ⟨fun _=>⟨g,c,rfl,?_,k1⟩,fun h=>?_⟩
    · rw [HJ.out];rfl
    · have:=HJ.out;omega
/-- the words of an event -/
def evWords (v:AEvent):List Int:=[v.kind,v.meter,v.month,v.bill.id,v.bill.tender,v.bill.debt,v.bill.fee,v.bill.price,v.bill.change,v.bill.units,v.tag,v.debt.owed,v.debt.bp]
def keepsE (xs:List Int) (v:AEvent):Int:=if 120≤(keptL xs).length then 16 else if v.may then appE xs (evWords v) else 5
def keepsL (xs:List Int) (v:AEvent):List AWrite:=if 120≤(keptL xs).length then [] else if v.may then appL xs (evWords v) else []
def KeepsP (xs:List Int) (v:AEvent) (w:World) (e:Ending) (w':World):Prop:=GrewSl2 2 (keepsL xs v).length ((keepsL xs v).flatMap AWrite.cells) (keepsE xs v) w e w'
theorem KeepsP.none {xs:List Int} {v:AEvent} {w w':World} {k:Int} (h:keepsE xs v=k) (hl:keepsL xs v=[]) (hb:Below w.heap.size w w'):KeepsP xs v w (.returned (T2 (.slice none 0 0) (I k))) w':=by
  unfold KeepsP;rw [h,hl];exact ⟨_,rfl,Sl.nil _ _,hb⟩
theorem KeepsP.some {xs:List Int} {v:AEvent} {w w':World} {u:Value} {k:Int} {L:List AWrite} (h:keepsE xs v=k) (hl:keepsL xs v=L) (hS:Sl w' u 2 L.length (L.flatMap AWrite.cells)) (hb:Below w.heap.size w w'):KeepsP xs v w (.returned (T2 u (I k))) w':=by
  unfold KeepsP;rw [h,hl];exact ⟨_,rfl,hS,hb⟩
theorem shopkeep_any (sg:Nat) (bv cv tv x1 x2 x3 x4:Value) (xs:List Int) (ki me mo id te de fe pr ch un ta ow bp:Int) (w:World) (hs:Own w sg [bv,tv,x1,x2,x3,x4,cv,I ((keptL xs).length:Nat)]) (hc:Sl w cv 1 xs.length (xs.map U32)) (hw:∀ x∈xs,W32 x) (h120:(keptL xs).length≤120):
    Calls Tryz.prog 52 #[.pointer (some ⟨sg,0,none⟩),evV ki me mo id te de fe pr ch un ta ow bp] w (KeepsP xs ⟨ki,me,mo,⟨id,te,de,fe,pr,ch,un⟩,ta,⟨ow,bp⟩⟩ w):=by
  have H1:Hid (120≤(keptL xs).length→keepsE xs ⟨ki,me,mo,⟨id,te,de,fe,pr,ch,un⟩,ta,⟨ow,bp⟩⟩=16∧keepsL xs ⟨ki,me,mo,⟨id,te,de,fe,pr,ch,un⟩,ta,⟨ow,bp⟩⟩=[]):=fun h=>⟨by unfold keepsE;rw [if_pos h],by unfold keepsL;rw [if_pos h]⟩
  have H2:Hid (¬ 120≤(keptL xs).length→evMay ki me mo id te de fe pr ch un ta ow bp=false→keepsE xs ⟨ki,me,mo,⟨id,te,de,fe,pr,ch,un⟩,ta,⟨ow,bp⟩⟩=5∧keepsL xs ⟨ki,me,mo,⟨id,te,de,fe,pr,ch,un⟩,ta,⟨ow,bp⟩⟩=[]):=fun h hm=>by
    have hm':AEvent.may ⟨ki,me,mo,⟨id,te,de,fe,pr,ch,un⟩,ta,⟨ow,bp⟩⟩=false:=hm;unfold keepsE keepsL;rw [if_neg h,if_neg h,hm'];exact ⟨rfl,rfl⟩
  have H3:Hid (¬ 120≤(keptL xs).length→evMay ki me mo id te de fe pr ch un ta ow bp=true→keepsE xs ⟨ki,me,mo,⟨id,te,de,fe,pr,ch,un⟩,ta,⟨ow,bp⟩⟩=appE xs [ki,me,mo,id,te,de,fe,pr,ch,un,ta,ow,bp]∧keepsL xs ⟨ki,me,mo,⟨id,te,de,fe,pr,ch,un⟩,ta,⟨ow,bp⟩⟩=appL xs [ki,me,mo,id,te,de,fe,pr,ch,un,ta,ow,bp]):=fun h hm=>by
    have hm':AEvent.may ⟨ki,me,mo,⟨id,te,de,fe,pr,ch,un⟩,ta,⟨ow,bp⟩⟩=true:=hm;unfold keepsE keepsL;rw [if_neg h,if_neg h,hm'];exact ⟨rfl,rfl⟩
  have E:=Lib.hid (fun W=>Encode_any ki me mo id te de fe pr ch un ta ow bp W);have A:=Lib.hid (fun u r W h1 h2=>AppendD_any cv xs u r W h1 hw h2);have kB:=boxed_below w (.cells #[I ki,I me,I mo,I id,I te,I de,I fe,I pr,I ch,I un,I ta,I ow,I bp] 48);have oV:=Own.new (w:=w) rfl [I ki,I me,I mo,I id,I te,I de,I fe,I pr,I ch,I un,I ta,I ow,I bp] 48;have hs1:=hs.below kB;have HS1:=Lib.hid hs1;have KB:=Lib.hid kB;have HC:=Lib.hid hc;obtain ⟨ca,cc,rfl,-⟩:=_root_.id hc;generalize (keptL xs).length=n at *;have nss:¬ sg=w.heap.size:=by have:=hs.lt;omega
  have sO:=hs1;have sA:=sO.s8;clear sO;have vO:=oV;have vA:=vO.s13;clear vO;clear hs hs1 hc hw oV kB
  by_cases hn:120≤n
  · obtain rfl:n=120:=by omega
    have HR:=Lib.hid (H1.out hn);clear hn h120 H1 H2 H3;go_enter Tryz.func52,Tryz.ntmps52;go_wp2;go_ret2;exact KeepsP.none HR.out.1 HR.out.2 KB.out
  · have hn':((n:Int)==120)=false:=by rw [beq_eq_false_iff_ne];omega
    have hn2:¬ (n:Int)=120:=by omega
    cases hm:evMay ki me mo id te de fe pr ch un ta ow bp
    · have HR:=Lib.hid (H2.out hn hm)
      rw [hm] at E;clear hn h120 H1 H2 H3 hm;go_enter Tryz.func52,Tryz.ntmps52
      go_wp2_with fail
      refine (E.out _).mono ?_;rintro e w1 ⟨u,he,hu,k1⟩;have he:e=.returned (T2 u (I 5)):=he;subst he;have kk:=KB.out.trans (k1.mono KB.out.size);obtain ⟨ua,uc,rfl,-⟩:=_root_.id hu;clear hu k1 sA vA;go_wp2;go_ret2;exact KeepsP.none HR.out.1 HR.out.2 kk
    · have HR:=Lib.hid (H3.out hn hm)
      rw [hm] at E;clear hn h120 H1 H2 H3 hm;go_enter Tryz.func52,Tryz.ntmps52
      go_wp2_with fail
      refine (E.out _).mono ?_;rintro e w1 ⟨u,he,hu,k1⟩;have he:e=.returned (T2 u (I 0)):=he;have hu:Sl w1 u 1 13 ([ki,me,mo,id,te,de,fe,pr,ch,un,ta,ow,bp].map U32):=hu;subst he;have kk:=KB.out.trans (k1.mono KB.out.size);have KK:=Lib.hid kk;have P:=Lib.hid (A.out u [ki,me,mo,id,te,de,fe,pr,ch,un,ta,ow,bp] w1 (HC.out.below kk) hu);obtain ⟨ua,uc,rfl,-⟩:=_root_.id hu;clear sA vA;have sO:=HS1.out.below k1;have sA:=sO.s8;clear sO;clear hu k1 A E
      go_wp2_with fail
      refine P.out.mono ?_;rintro e w2 ⟨u,rfl,hu,k2⟩;have kk2:=KK.out.trans (k2.mono KK.out.size);have HU:=Lib.hid hu;obtain ⟨ua,uc,rfl,-⟩:=_root_.id hu;clear hu k2 P sA;go_wp2;go_ret2;exact KeepsP.some HR.out.1 HR.out.2 HU.out kk2
theorem keeps_any (cv:Value) (xs:List Int) (ki me mo id te de fe pr ch un ta ow bp:Int) (w:World) (hc:Sl w cv 1 xs.length (xs.map U32)) (hw:∀ x∈xs,W32 x):
    Calls Tryz.prog 33 #[cv,evV ki me mo id te de fe pr ch un ta ow bp] w (KeepsP xs ⟨ki,me,mo,⟨id,te,de,fe,pr,ch,un⟩,ta,⟨ow,bp⟩⟩ w):=by
  have H1:Hid (120≤(keptL xs).length→keepsE xs ⟨ki,me,mo,⟨id,te,de,fe,pr,ch,un⟩,ta,⟨ow,bp⟩⟩=16∧keepsL xs ⟨ki,me,mo,⟨id,te,de,fe,pr,ch,un⟩,ta,⟨ow,bp⟩⟩=[]):=fun h=>⟨by unfold keepsE;rw [if_pos h],by unfold keepsL;rw [if_pos h]⟩
  have H2:Hid (¬ 120≤(keptL xs).length→evMay ki me mo id te de fe pr ch un ta ow bp=false→keepsE xs ⟨ki,me,mo,⟨id,te,de,fe,pr,ch,un⟩,ta,⟨ow,bp⟩⟩=5∧keepsL xs ⟨ki,me,mo,⟨id,te,de,fe,pr,ch,un⟩,ta,⟨ow,bp⟩⟩=[]):=fun h hm=>by
    have hm':AEvent.may ⟨ki,me,mo,⟨id,te,de,fe,pr,ch,un⟩,ta,⟨ow,bp⟩⟩=false:=hm;unfold keepsE keepsL;rw [if_neg h,if_neg h,hm'];exact ⟨rfl,rfl⟩
  have H3:Hid (¬ 120≤(keptL xs).length→evMay ki me mo id te de fe pr ch un ta ow bp=true→keepsE xs ⟨ki,me,mo,⟨id,te,de,fe,pr,ch,un⟩,ta,⟨ow,bp⟩⟩=appE xs [ki,me,mo,id,te,de,fe,pr,ch,un,ta,ow,bp]∧keepsL xs ⟨ki,me,mo,⟨id,te,de,fe,pr,ch,un⟩,ta,⟨ow,bp⟩⟩=appL xs [ki,me,mo,id,te,de,fe,pr,ch,un,ta,ow,bp]):=fun h hm=>by
    have hm':AEvent.may ⟨ki,me,mo,⟨id,te,de,fe,pr,ch,un⟩,ta,⟨ow,bp⟩⟩=true:=hm;unfold keepsE keepsL;rw [if_neg h,if_neg h,hm'];exact ⟨rfl,rfl⟩
  have E:=Lib.hid (fun W=>Encoded_any ki me mo id te de fe pr ch un ta ow bp W);have A:=Lib.hid (fun u r W h1 h2=>Appended_any cv xs u r W h1 hw h2);have kB:=boxed_below w (.cells #[I ki,I me,I mo,I id,I te,I de,I fe,I pr,I ch,I un,I ta,I ow,I bp] 48);have oV:=Own.new (w:=w) rfl [I ki,I me,I mo,I id,I te,I de,I fe,I pr,I ch,I un,I ta,I ow,I bp] 48;have KP:=Lib.hid (Kept_any cv xs _ (hc.below kB) hw);have KB:=Lib.hid kB;have OV:=Lib.hid oV;have HC:=Lib.hid hc;have hll:=keptL_len xs;obtain ⟨ca,cc,rfl,-⟩:=_root_.id hc;clear hc hw oV kB;go_enter Tryz.func33,Tryz.ntmps33
  go_wp2_with fail
  refine KP.out.mono ?_;rintro e w1 ⟨lv,rfl,hl,k1⟩;generalize keptE xs=ke at *;generalize (keptL xs).length=n at *;have kk:=KB.out.trans (k1.mono KB.out.size);obtain ⟨la,lc,rfl,-⟩:=_root_.id hl
  by_cases hn:120≤n
  · have HR:=Lib.hid (H1.out hn)
    have hn':(120:Int)≤(n:Int):=by omega
    clear hl H1 H2 H3 KP;go_wp2;go_ret2;exact KeepsP.none HR.out.1 HR.out.2 kk
  · have hn':¬ (120:Int)≤(n:Int):=by omega
    have KK:=Lib.hid kk;cases hm:evMay ki me mo id te de fe pr ch un ta ow bp
    · have HR:=Lib.hid (H2.out hn hm)
      rw [hm] at E;have vO:=OV.out.below k1;have vA:=vO.s13;clear vO;clear hn H1 H2 H3 hm k1 hl KP
      go_wp2_with fail
      refine (E.out _).mono ?_;rintro e w2 ⟨u,he,hu,k2⟩;have he:e=.returned (T2 u (I 5)):=he;subst he;have kk2:=KK.out.trans (k2.mono KK.out.size);obtain ⟨ua,uc,rfl,-⟩:=_root_.id hu;clear hu k2 kk vA;go_wp2;go_ret2;exact KeepsP.none HR.out.1 HR.out.2 kk2
    · have HR:=Lib.hid (H3.out hn hm)
      rw [hm] at E;have vO:=OV.out.below k1;have vA:=vO.s13;clear vO;clear hn H1 H2 H3 hm k1 hl KP
      go_wp2_with fail
      refine (E.out _).mono ?_;rintro e w2 ⟨u,he,hu,k2⟩;have he:e=.returned (T2 u (I 0)):=he;have hu:Sl w2 u 1 13 ([ki,me,mo,id,te,de,fe,pr,ch,un,ta,ow,bp].map U32):=hu;subst he;have kk2:=KK.out.trans (k2.mono KK.out.size);have KK2:=Lib.hid kk2;have P:=Lib.hid (A.out u [ki,me,mo,id,te,de,fe,pr,ch,un,ta,ow,bp] w2 (HC.out.below kk2) hu);obtain ⟨ua,uc,rfl,-⟩:=_root_.id hu;clear vA hu k2 A E kk kk2
      go_wp2_with fail
      refine P.out.mono ?_;rintro e w3 ⟨u,rfl,hu,k3⟩;have kk3:=KK2.out.trans (k3.mono KK2.out.size);have HU:=Lib.hid hu;obtain ⟨ua,uc,rfl,-⟩:=_root_.id hu;clear hu k3 P;go_wp2;go_ret2;exact KeepsP.some HR.out.1 HR.out.2 HU.out kk3
end
section
open Go Go.RowKit
def regV (me:Int):AEvent:=⟨1,me,0,⟨0,0,0,0,0,0,0⟩,0,⟨0,0⟩⟩
def regE (t:PTerms) (xs:List Int) (me:Int):Int:=if loadE t xs=0 then (if inB me 0 49 then (if 0≤idxOf (loadC t xs) me then 21 else keepsE xs (regV me)) else 2) else loadE t xs
def regL (t:PTerms) (xs:List Int) (me:Int):List AWrite:=if loadE t xs=0 then (if inB me 0 49 then (if 0≤idxOf (loadC t xs) me then [] else keepsL xs (regV me)) else []) else []
def RegP (t:PTerms) (xs:List Int) (me:Int) (w:World) (e:Ending) (w':World):Prop:=GrewSl2 2 (regL t xs me).length ((regL t xs me).flatMap AWrite.cells) (regE t xs me) w e w'
theorem load_120 {t:PTerms} {xs:List Int} (h:loadE t xs=0):(keptL xs).length≤120:=by
  have hk:=loadE_kept h;unfold loadE at h;rw [if_pos hk] at h;unfold bookR at h
  split at h
  · split at h
    · cases h
    · omega
  · rename_i h1;exact absurd h h1
end
section
open Go.RowKit

def amtOk (c m:Int):Bool:=if c=0 then inB m 1 2097151 else if c=2 then inB m 1 15 else m==0
def tokFault (x:AToken):Int:=if inB x.class_ 0 3 then (if inB x.id 1 1048575&&inB x.tag 0 65535&&amtOk x.class_ x.amount then 0 else 2) else 9
theorem tokFault_zero {x : AToken} (h : tokFault x = 0) : (0 ≤ x.class_ ∧ x.class_ ≤ 3) ∧ (1 ≤ x.id ∧ x.id ≤ 1048575) ∧ (0 ≤ x.tag ∧ x.tag ≤ 65535) ∧ (0 ≤ x.amount ∧ x.amount ≤ 2097151) := by
  unfold tokFault at h
  split at h
  · rename_i h1
    split at h
    · rename_i h2
      simp only [Bool.and_eq_true,inB_true] at h1 h2;refine ⟨h1,h2.1.1,h2.1.2,?_⟩;have h3:=h2.2;unfold amtOk at h3
      split at h3
      · rw [inB_true] at h3;omega
      · split at h3
        · rw [inB_true] at h3;omega
        · rw [beq_iff_eq] at h3;omega
    · omega
  · omega
def boundsL (c:Int):Int:=if c=0 then 1 else if c=2 then 1 else 0
def boundsH (c:Int):Int:=if c=0 then 2097151 else if c=2 then 15 else 0
theorem bounds_any (c:Int) (w:World):Calls Tryz.prog 126 #[I c] w (Pure (.tuple #[I (boundsL c),I (boundsH c),.bool (inB c 0 3)]) w):=by
  by_cases h0:c=0
  · subst h0
    go_enter Tryz.func126,Tryz.ntmps126;go_wp2;go_ret3;exact Pure.intro rfl
  by_cases h1:c=1
  · subst h1
    go_enter Tryz.func126,Tryz.ntmps126;go_wp2;go_ret3;exact Pure.intro rfl
  by_cases h2:c=2
  · subst h2
    go_enter Tryz.func126,Tryz.ntmps126;go_wp2;go_ret3;exact Pure.intro rfl
  by_cases h3:c=3
  · subst h3
    go_enter Tryz.func126,Tryz.ntmps126;go_wp2;go_ret3;exact Pure.intro rfl
  have hL:boundsL c=0:=by simp [boundsL,h0,h2]
  have hH:boundsH c=0:=by simp [boundsH,h0,h2]
  have hB:inB c 0 3=false:=by rw [inB_false];omega
  rw [hL,hH,hB];clear hL hH hB;go_enter Tryz.func126,Tryz.ntmps126;go_wp2;go_ret3;exact Pure.intro rfl
theorem tokFault_by {x : AToken} : tokFault x = if inB x.class_ 0 3 then (if x.id < 1 ∨ x.id > 1048575 ∨ x.amount < boundsL x.class_ ∨ x.amount > boundsH x.class_ ∨ x.tag < 0 ∨ x.tag > 65535 then 2 else 0) else 9 := by
  unfold tokFault;cases hB:inB x.class_ 0 3
  · rfl
  · rw [inB_true] at hB
    simp only [if_true]
    by_cases h:x.id < 1∨x.id > 1048575∨x.amount < boundsL x.class_∨x.amount > boundsH x.class_∨x.tag < 0∨x.tag > 65535
    · rw [if_pos h, if_neg]
      simp only [Bool.and_eq_true,inB_true];intro h2;have h3:=h2.2;unfold amtOk at h3;unfold boundsL boundsH at h
      split at h3
      · rename_i hc
        simp only [hc,if_true] at h;rw [inB_true] at h3;omega
      · rename_i hc
        simp only [hc,if_false] at h
        split at h3
        · rename_i hc2
          simp only [hc2,if_true] at h;rw [inB_true] at h3;omega
        · rename_i hc2
          simp only [hc2,if_false] at h;rw [beq_iff_eq] at h3;omega
    · rw [if_neg h, if_pos]
      simp only [Bool.and_eq_true,inB_true];refine ⟨⟨by omega,by omega⟩,?_⟩;unfold amtOk;unfold boundsL boundsH at h
      split
      · rename_i hc
        simp only [hc,if_true] at h;rw [inB_true];omega
      · rename_i hc
        simp only [hc,if_false] at h
        split
        · rename_i hc2
          simp only [hc2,if_true] at h;rw [inB_true];omega
        · rename_i hc2
          simp only [hc2,if_false] at h;rw [beq_iff_eq];omega
theorem tkfault_any (x:AToken) (w:World):Calls Tryz.prog 83 #[.agg x.cells.toArray] w (Grew (I (tokFault x)) w):=by
  have B:=Lib.hid (fun W=>bounds_any x.class_ W);have HF:=Lib.hid (tokFault_by (x:=x));generalize tokFault x=r at *;obtain ⟨c,i,m,t⟩:=x;simp only at B HF;show Calls Tryz.prog 83 #[.agg #[I c,I i,I m,I t]] w (Grew (I r) w);generalize boundsL c=lo at *;generalize boundsH c=hi at *;cases hb:inB c 0 3
  · rw [hb] at B HF
    have hr:=HF.out;simp only [Bool.false_eq_true,if_false] at hr;subst hr;go_enter Tryz.func83,Tryz.ntmps83
    go_wp2_with fail
    refine (B.out _).mono ?_;rintro e w' ⟨rfl,rfl⟩;go_wp2;go_ret;exact Grew.intro rfl below_auto
  · rw [hb] at B HF
    have hr:=HF.out;simp only [if_true] at hr;have HR:=Lib.hid hr;clear hr HF;go_enter Tryz.func83,Tryz.ntmps83
    go_wp2_with fail
    refine (B.out _).mono ?_;rintro e w' ⟨rfl,rfl⟩;go_wp2
    all_goals
      go_ret;refine Grew.intro (eI ?_) below_auto;rw [HR.out];simp [*]
      try omega
theorem TokenFault_any (x : AToken) (w : World) : Calls Tryz.prog 47 #[.agg x.cells.toArray] w (Grew (I (tokFault x)) w) := by
  have HF:=Lib.hid (show tokFault x=_ from by unfold tokFault amtOk;rfl);generalize tokFault x=r at *;obtain ⟨c,i,m,t⟩:=x;simp only at HF;show Calls Tryz.prog 47 #[.agg #[I c,I i,I m,I t]] w (Grew (I r) w);cases h1:inB c 0 3
  · have hr:=HF.out
    simp only [h1,Bool.false_eq_true,if_false] at hr;subst hr;go_enter Tryz.func47,Tryz.ntmps47
    go_wp2_with (go_at_call 57;refine (In_any _ _ _ _).mono ?_;rintro e w' ⟨rfl,rfl⟩)
    go_ret;exact Grew.intro rfl below_auto
  · obtain ⟨c0, c1⟩ := inB_true.1 h1
    cases h2:inB i 1 1048575
    · have hr:=HF.out
      simp only [h1,h2,Bool.false_eq_true,if_true,if_false,Bool.false_and] at hr;subst hr;go_enter Tryz.func47,Tryz.ntmps47
      go_wp2_with (go_at_call 57;refine (In_any _ _ _ _).mono ?_;rintro e w' ⟨rfl,rfl⟩)
      go_ret;exact Grew.intro rfl below_auto
    · cases h3 : inB t 0 65535
      · have hr:=HF.out
        simp only [h1,h2,h3,Bool.false_eq_true,if_true,if_false,Bool.true_and,Bool.false_and] at hr;subst hr;go_enter Tryz.func47,Tryz.ntmps47
        go_wp2_with (go_at_call 57;refine (In_any _ _ _ _).mono ?_;rintro e w' ⟨rfl,rfl⟩)
        go_ret;exact Grew.intro rfl below_auto
      · have hr := HF.out
        simp only [h1,h2,h3,if_true,Bool.true_and] at hr;have HR:=Lib.hid hr;clear hr HF
        by_cases q0:c=0
        · subst q0
          cases h4:inB m 1 2097151
          all_goals
            have hr:=HR.out;simp only [h4,Bool.false_eq_true,if_true,if_false] at hr;subst hr;clear HR;go_enter Tryz.func47,Tryz.ntmps47
            go_wp2_with (go_at_call 57;refine (In_any _ _ _ _).mono ?_;rintro e w' ⟨rfl,rfl⟩)
            go_ret;exact Grew.intro rfl below_auto
        · by_cases q2:c=2
          · subst q2
            cases h4:inB m 1 15
            all_goals
              have hr:=HR.out;simp only [h4,q0,Bool.false_eq_true,if_true,if_false] at hr;subst hr;clear HR;go_enter Tryz.func47,Tryz.ntmps47
              go_wp2_with (go_at_call 57;refine (In_any _ _ _ _).mono ?_;rintro e w' ⟨rfl,rfl⟩)
              go_ret;exact Grew.intro rfl below_auto
          · have hr:=HR.out
            simp only [q0,q2,if_false] at hr;clear HR
            by_cases hm:m=0
            · have hr2:r=0:=by rw [hr];simp [hm]
              subst hr2;clear hr
              by_cases q1:c=1
              all_goals
                have q3:c=1∨c=3:=by omega
                go_enter Tryz.func47,Tryz.ntmps47
                go_wp2_with (go_at_call 57;refine (In_any _ _ _ _).mono ?_;rintro e w' ⟨rfl,rfl⟩)
                go_ret;exact Grew.intro rfl below_auto
            · have hr2:r=2:=by rw [hr];simp [hm]
              subst hr2;clear hr
              by_cases q1:c=1
              · subst q1
                go_enter Tryz.func47,Tryz.ntmps47
                go_wp2_with (go_at_call 57;refine (In_any _ _ _ _).mono ?_;rintro e w' ⟨rfl,rfl⟩)
                go_ret;exact Grew.intro rfl below_auto
              · have q3:c=3:=by omega
                subst q3;go_enter Tryz.func47,Tryz.ntmps47
                go_wp2_with (go_at_call 57;refine (In_any _ _ _ _).mono ?_;rintro e w' ⟨rfl,rfl⟩)
                go_ret;exact Grew.intro rfl below_auto
theorem or_low (x y k:Nat) (hy:y < 2^k):x*2^k ||| y=x*2^k+y:=by
  rw [Nat.mul_comm,← Nat.two_pow_add_eq_or_of_lt hy]
theorem i64_or_nat (a b:Nat) (ha:a < 9223372036854775808) (hb:b < 9223372036854775808):bits .or .i64 (a:Int) (b:Int)=((a ||| b:Nat):Int):=by
  have hx:a ||| b < 2^63:=Nat.or_lt_two_pow (by omega) (by omega)
  show IntKind.i64.wrap ((BitVec.ofInt 64 (a:Int) ||| BitVec.ofInt 64 (b:Int)).toNat:Int)=_;rw [BitVec.toNat_or,ofInt_u64 a (by omega),ofInt_u64 b (by omega)];generalize a ||| b=n at *
  have e:(n:Int)%2^64=n:=Int.emod_eq_of_lt (by omega) (by omega);simp only [IntKind.wrap,IntKind.bits,IntKind.signed,e];rw [if_neg];simp;omega
theorem or_i64 (x y:Int) (k:Nat) (m:Int) (hm:m=2^k) (hx:0≤x) (hy:0≤y) (hym:y < m) (hmm:m≤9223372036854775808) (hxm:x*m < 9223372036854775808):bits .or .i64 (x*m) y=x*m+y:=by
  subst hm;obtain ⟨x,rfl⟩:=Int.eq_ofNat_of_zero_le hx;obtain ⟨y,rfl⟩:=Int.eq_ofNat_of_zero_le hy;have e:((x:Int))*2^k=((x*2^k:Nat):Int):=by push_cast;rfl
  have hyk:y < 2^k:=by
    have:((2:Int))^k=((2^k:Nat):Int):=by push_cast;rfl
    omega
  rw [e,i64_or_nat _ _ (by omega) (by omega),or_low _ _ _ hyk]
  push_cast;rfl
def bodyN (x:AToken):Int:=x.class_*2199023255552+x.id*2097152+x.amount
def bodyV (x:AToken):Int:=if tokFault x=0 then bodyN x else 0
theorem Body_any (x:AToken) (w:World):Calls Tryz.prog 50 #[.agg x.cells.toArray] w (Grew (T2 (I (bodyV x)) (I (tokFault x))) w):=by
  have B:=Lib.hid (fun W=>tkfault_any x W);have HZ:=Lib.hid (fun h=>tokFault_zero (x:=x) h);have HV:=Lib.hid (show bodyV x=if tokFault x=0 then bodyN x else 0 from rfl);generalize bodyV x=v at *;have HN:=Lib.hid (show bodyN x=_ from by unfold bodyN;rfl);generalize bodyN x=u at *;generalize tokFault x=r at *;obtain ⟨c,i,m,t⟩:=x;simp only at HZ HN;show Calls Tryz.prog 50 #[.agg #[I c,I i,I m,I t]] w _
  by_cases hr:r=0
  · obtain ⟨⟨c0,c1⟩,⟨i0,i1⟩,⟨t0,t1⟩,m0,m1⟩:=HZ.out hr
    have hv:v=u:=by rw [HV.out,if_pos hr]
    subst hr;subst hv;go_enter Tryz.func50,Tryz.ntmps50
    go_wp2_with fail
    refine (B.out _).mono ?_;rintro e w' ⟨rfl,k1⟩;have dO:=(Own.new (w:=w) rfl [I c,I i,I m,I t] 72).below k1;have dA:=dO.s4;clear dO;have k:=below_box k1;clear k1;go_wp2;have hu:=HN.out;have e1:=or_i64 c i 20 1048576 rfl (by omega) (by omega) (by omega) (by decide) (by omega);have e2:wrap64 ((c*1048576+i)*2097152)=(c*1048576+i)*2097152:=(by unfold wrap64;omega);have e3:=or_i64 (c*1048576+i) m 21 2097152 rfl (by omega) (by omega) (by omega) (by decide) (by omega);have e4:(c*1048576+i)*2097152+m=v:=by rw [hu];omega
    rw [e1,e2,e3,e4];go_ret2;exact ⟨rfl,below_auto⟩
  · have hv:v=0:=by rw [HV.out,if_neg hr]
    subst hv;go_enter Tryz.func50,Tryz.ntmps50
    go_wp2_with fail
    refine (B.out _).mono ?_;rintro e w' ⟨rfl,k1⟩;have dO:=(Own.new (w:=w) rfl [I c,I i,I m,I t] 72).below k1;have dA:=dO.s4;clear dO;have k:=below_box k1;clear k1;go_wp2;go_ret2;exact ⟨rfl,below_auto⟩
theorem BodyOf_any (x:AToken) (w:World):Calls Tryz.prog 31 #[.agg x.cells.toArray] w (Grew (T2 (I (bodyV x)) (I (tokFault x))) w):=by
  have B:=Lib.hid (fun W=>TokenFault_any x W);have HZ:=Lib.hid (fun h=>tokFault_zero (x:=x) h);have HV:=Lib.hid (show bodyV x=if tokFault x=0 then bodyN x else 0 from rfl);generalize bodyV x=v at *;have HN:=Lib.hid (show bodyN x=_ from by unfold bodyN;rfl);generalize bodyN x=u at *;generalize tokFault x=r at *;obtain ⟨c,i,m,t⟩:=x;simp only at HZ HN;show Calls Tryz.prog 31 #[.agg #[I c,I i,I m,I t]] w _
  by_cases hr:r=0
  · obtain ⟨⟨c0,c1⟩,⟨i0,i1⟩,⟨t0,t1⟩,m0,m1⟩:=HZ.out hr
    have hv:v=u:=by rw [HV.out,if_pos hr]
    subst hr;subst hv;go_enter Tryz.func31,Tryz.ntmps31
    go_wp2_with fail
    refine (B.out _).mono ?_;rintro e w' ⟨rfl,k1⟩;have dO:=(Own.new (w:=w) rfl [I c,I i,I m,I t] 72).below k1;have dA:=dO.s4;clear dO;have k:=below_box k1;clear k1;go_wp2;have hu:=HN.out;go_ret2;exact ⟨by rw [hu];rfl,below_auto⟩
  · have hv:v=0:=by rw [HV.out,if_neg hr]
    subst hv;go_enter Tryz.func31,Tryz.ntmps31
    go_wp2_with fail
    refine (B.out _).mono ?_;rintro e w' ⟨rfl,k1⟩;have dO:=(Own.new (w:=w) rfl [I c,I i,I m,I t] 72).below k1;have dA:=dO.s4;clear dO;have k:=below_box k1;clear k1;go_wp2;go_ret2;exact ⟨rfl,below_auto⟩
end
end Go.Proofs.YtdjgcenjonegjaaGreat
