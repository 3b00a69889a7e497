/- what an account answers to a sale, an allowance, a change of key; the token that comes of it may be · vend.Sell$1, vend.Grant$1: how an account is worked at · vend.Sell, vend.Grant, vend.Rekey -/
import Derived.Test.YtdjgcenjonegjaaGreatPk46
import Derived.Test.YtdjgcenjonegjaaGreatPk28
import Derived.Test.YtdjgcenjonegjaaGreatVendSell
set_option maxRecDepth 20000
set_option maxHeartbeats 8000000
set_option linter.unusedSimpArgs false
set_option linter.unusedVariables false
namespace Go.Proofs.YtdjgcenjonegjaaGreat
section
open Go Go.RowKit
def askE (t:PTerms) (ki te mo:Int) (x:AAcc) (ds:List ADebt):Int:=if ki=2 then soldE x ds t.ts t.f t.b t.d t.al te mo else if ki=3 then grantE x ds t.ts t.f t.b t.d t.al mo else rekeyE x ds
def askX (t:PTerms) (ki te mo:Int) (x:AAcc) (ds:List ADebt):AAcc:=if ki=2 then soldX x ds t.ts t.f t.b t.d te mo (soldE x ds t.ts t.f t.b t.d t.al te mo) else if ki=3 then grantX x mo (grantE x ds t.ts t.f t.b t.d t.al mo) else rekeyX x ds
def askL (t:PTerms) (ki te mo:Int) (x:AAcc) (ds:List ADebt):List ADebt:=if ki=2 then soldL x ds t.d te mo (soldE x ds t.ts t.f t.b t.d t.al te mo) else if ki=3 then grantL x ds mo (grantE x ds t.ts t.f t.b t.d t.al mo) else rekeyL x ds
def askB (t:PTerms) (ki te mo:Int) (x:AAcc) (ds:List ADebt):ABill:=if ki=2 then soldB x ds t.ts t.f t.b t.d te mo (soldE x ds t.ts t.f t.b t.d t.al te mo) else if ki=3 then grantB x t.al (grantE x ds t.ts t.f t.b t.d t.al mo) else rekeyB x ds
def clsOf (ki:Int):Int:=if ki=4 then 2 else 0
theorem openErr_may {x:AAcc} {ds:List ADebt} {ts:List AStep} {f b d al:Int} (h:openErr x ds ts f b d al=0):accMay x ds=true∧termsE ts f b d al=0:=by
  unfold openErr at h
  split at h
  · exact ⟨by assumption,h⟩
  · cases h
theorem termsE_al {ts:List AStep} {f b d al:Int} (h:termsE ts f b d al=0):0≤al∧al≤2097151:=by
  unfold termsE at h
  split at h
  · split at h
    · rename_i h2
      unfold termsOk at h2;simp only [Bool.and_eq_true,inB_true] at h2;exact h2.2
    · cases h
  · rename_i h1;exact absurd h h1
theorem ask_may {t:PTerms} {ki te mo:Int} {x:AAcc} {ds:List ADebt} (h:askE t ki te mo x ds=0):accMay x ds=true:=by
  unfold askE at h
  split at h
  · unfold soldE at h
    split at h
    · rename_i h1;exact (openErr_may h1).1
    · rename_i h1;exact absurd h h1
  · split at h
    · unfold grantE at h
      split at h
      · rename_i h1;exact (openErr_may h1).1
      · rename_i h1;exact absurd h h1
    · unfold rekeyE at h
      split at h
      · assumption
      · cases h
theorem tokf {cls A id g:Int} (hc:(cls=0∧1≤A∧A≤2097151)∨(cls=2∧1≤A∧A≤15)) (h1:1≤id) (h2:id≤1048575) (g0:0≤g) (g1:g≤65535):tokFault (vtTok cls A id g)=0:=by
  unfold tokFault vtTok amtOk;have i1:inB id 1 1048575=true:=inB_true.2 ⟨h1,h2⟩;have i2:inB g 0 65535=true:=inB_true.2 ⟨g0,g1⟩;rcases hc with ⟨rfl,a0,a1⟩ | ⟨rfl,a0,a1⟩
  · have i3:inB A 1 2097151=true:=inB_true.2 ⟨a0,a1⟩
    simp [i1,i2,i3]
    decide
  · have i3:inB A 1 15=true:=inB_true.2 ⟨a0,a1⟩
    simp [i1,i2,i3]
    decide
theorem tok_ok {t : PTerms} {ki te mo : Int} {x : AAcc} {ds : List ADebt} (hk : ki = 2 ∨ ki = 3 ∨ ki = 4) (h : askE t ki te mo x ds = 0) :
    tokFault (vtTok (clsOf ki) (vtAmt (clsOf ki) (askX t ki te mo x ds).rev (askB t ki te mo x ds).units) (askB t ki te mo x ds).id 0)=0:=by
  have hbd:=accMay_bd (ask_may h);rcases hk with rfl | rfl | rfl
  · have h' : soldE x ds t.ts t.f t.b t.d t.al te mo = 0 := h
    have hu : ¬ sellU (rollL x ds mo) t.ts (rollX x mo).bought te t.f t.b t.d = 0 ∧ ¬ 1048575 < x.next := by
      unfold soldE at h'
      split at h'
      · split at h'
        · unfold sellE at h'
          split at h'
          · split at h'
            · cases h'
            · split at h'
              · cases h'
              · exact ⟨by assumption,by assumption⟩
          · cases h'
        · rename_i h2;exact absurd h' h2
      · rename_i h2;exact absurd h' h2
    have hb:0≤sellU (rollL x ds mo) t.ts (rollX x mo).bought te t.f t.b t.d∧sellU (rollL x ds mo) t.ts (rollX x mo).bought te t.f t.b t.d≤2097151:=by
      unfold sellU
      split
      · have:=most_bd t.ts (rollX x mo).bought (sellR (rollL x ds mo) te t.f t.b t.d)
        exact ⟨this.1,this.2.1⟩
      · decide
    have e1:askB t 2 te mo x ds=soldB x ds t.ts t.f t.b t.d te mo 0:=by
      show soldB x ds t.ts t.f t.b t.d te mo (soldE x ds t.ts t.f t.b t.d t.al te mo)=_;rw [h']
    rw [e1];refine tokf (.inl ⟨rfl,?_,?_⟩) ?_ ?_ (by decide) (by decide)
    · show 1≤sellU (rollL x ds mo) t.ts (rollX x mo).bought te t.f t.b t.d;omega
    · show sellU (rollL x ds mo) t.ts (rollX x mo).bought te t.f t.b t.d≤_;omega
    · show 1≤x.next;omega
    · show x.next≤_;omega
  · have h' : grantE x ds t.ts t.f t.b t.d t.al mo = 0 := h
    have hu : ¬ t.al = 0 ∧ ¬ x.next = 1048576 ∧ 0 ≤ t.al ∧ t.al ≤ 2097151 := by
      unfold grantE at h'
      split at h'
      · rename_i h1
        have:=termsE_al (openErr_may h1).2
        split at h'
        · split at h'
          · cases h'
          · split at h'
            · cases h'
            · split at h'
              · cases h'
              · exact ⟨by assumption,by assumption,this⟩
        · rename_i h2;exact absurd h' h2
      · rename_i h2;exact absurd h' h2
    have e1:askB t 3 te mo x ds=grantB x t.al 0:=by
      show grantB x t.al (grantE x ds t.ts t.f t.b t.d t.al mo)=_;rw [h']
    rw [e1];refine tokf (.inl ⟨rfl,?_,?_⟩) ?_ ?_ (by decide) (by decide)
    · show 1≤t.al;omega
    · show t.al≤_;omega
    · show 1≤x.next;omega
    · show x.next≤_;omega
  · have h':rekeyE x ds=0:=h
    have hu:¬ x.rev=15∧¬ x.next=1048576:=by
      unfold rekeyE at h'
      split at h'
      · split at h'
        · cases h'
        · split at h'
          · cases h'
          · exact ⟨by assumption,by assumption⟩
      · cases h'
    obtain ⟨r1,-,r3,-⟩:=rekey_ok h';have e1:askB t 4 te mo x ds=rekeyB x ds:=rfl;have e2:askX t 4 te mo x ds=rekeyX x ds:=rfl;rw [e1,e2,r1,r3];refine tokf (.inr ⟨rfl,?_,?_⟩) ?_ ?_ (by decide) (by decide)
    · show 1≤x.rev+1;omega
    · show x.rev+1≤_;omega
    · show 1≤x.next;omega
    · show x.next≤_;omega
/-- what a change of key makes of the key's revision -/
theorem ask_rev {t:PTerms} {te mo:Int} {x:AAcc} {ds:List ADebt} (h:askE t 4 te mo x ds=0):(askX t 4 te mo x ds).rev=x.rev+1:=by
  have h':rekeyE x ds=0:=h;obtain ⟨r1,-⟩:=rekey_ok h';have e2:askX t 4 te mo x ds=rekeyX x ds:=rfl;rw [e2,r1]
end
section
open Go Go.RowKit
theorem sellC_any (t:PTerms) (te mo:Int) (x:AAcc) (dv tv:Value) (ds:List ADebt) (g0 g1 g2:Nat) (w:World) (o0:Own w g0 [tv,I t.f,I t.b,I t.d,I t.al]) (o1:Own w g1 [I te]) (o2:Own w g2 [I mo])
    (hS:Sl w dv 2 ds.length (ds.flatMap ADebt.cells)) (hT:Sl w tv 2 t.ts.length (t.ts.flatMap AStep.cells)):
    Calls Tryz.prog 34 #[.agg #[I x.meter,I x.rev,I x.next,I x.month,I x.bought,I x.free,dv],.pointer (some ⟨g0,0,none⟩),.pointer (some ⟨g1,0,none⟩),.pointer (some ⟨g2,0,none⟩)] w (GrewAccB (askX t 2 te mo x ds) (askL t 2 te mo x ds) (askB t 2 te mo x ds) (askE t 2 te mo x ds) w):=by
  obtain ⟨kB,oA,oX,oY⟩:=boxes3 w [I x.meter,I x.rev,I x.next,I x.month,I x.bought,I x.free,dv] 64 [I 0,I 0,I 0,I 0,I 0,I 0,.slice none 0 0] 64 [I 0,I 0,I 0,I 0,I 0,I 0,I 0] 39;have S:=Lib.hid (Sell_any x dv tv ds t.ts t.f t.b t.d t.al te mo _ (hS.below kB) (hT.below kB));unfold GrewAccBF at S;have HX:Hid (soldX x ds t.ts t.f t.b t.d te mo (soldE x ds t.ts t.f t.b t.d t.al te mo)=askX t 2 te mo x ds∧soldL x ds t.d te mo (soldE x ds t.ts t.f t.b t.d t.al te mo)=askL t 2 te mo x ds∧soldB x ds t.ts t.f t.b t.d te mo (soldE x ds t.ts t.f t.b t.d t.al te mo)=askB t 2 te mo x ds∧soldE x ds t.ts t.f t.b t.d t.al te mo=askE t 2 te mo x ds):=Lib.hid ⟨rfl,rfl,rfl,rfl⟩;rw [HX.out.1,HX.out.2.1,HX.out.2.2.1,HX.out.2.2.2] at S;clear HX;generalize askE t 2 te mo x ds=E at *;generalize askX t 2 te mo x ds=X at *;generalize askL t 2 te mo x ds=L at *;generalize askB t 2 te mo x ds=B at *;obtain ⟨X1,X2,X3,X4,X5,X6⟩:=X;obtain ⟨b1,b2,b3,b4,b5,b6,b7⟩:=B;have KB:=Lib.hid kB;have OX:=Lib.hid oX;have OY:=Lib.hid oY;obtain ⟨da,dc,rfl,-⟩:=_root_.id hS;obtain ⟨ta,tc,rfl,-⟩:=_root_.id hT;have cO:=oA;have cA:=cO.s7;clear cO;have tO:=o0.below kB;have tA:=tO.s5;clear tO;have h1:=(o1.below kB).cell 0 (by simp);have h2:=(o2.below kB).cell 0 (by simp);simp only [Nat.zero_add,List.getD_cons_zero] at h1 h2;clear hS hT kB oA oX oY;go_enter Tryz.func34,Tryz.ntmps34
  go_wp2_with fail
  refine S.out.mono ?_;rintro e w4 ⟨u,rfl,hu,k4,hF⟩;have kk:=KB.out.trans (k4.mono KB.out.size);have f1:Far (w.heap.size+1) u:=hF.far (by simp);have f2:Far (w.heap.size+2) u:=hF.far (by simp);have HU:=Lib.hid hu;obtain ⟨ua,uc,rfl,-⟩:=_root_.id hu;have pO:=OX.out.below k4;have pA:=pO.s7;clear pO;have qO:=OY.out.below k4;have qA:=qO.s7;clear qO;have r1:=set_same;have r2:=set_off;have r3:=set_blk;clear hu hF k4 o0 o1 o2 cA tA;go_wp2;exact bodyPost_ret (v:=T3 (.agg #[I X1,I X2,I X3,I X4,I X5,I X6,.slice ua L.length uc]) (.agg #[I b1,I b2,I b3,I b4,I b5,I b6,I b7]) (I E)) (by simp [results,Tryz.results34,go_sem, *];try omega) rfl ⟨_,rfl,by repeat (first | with_reducible exact HU.out | with_reducible refine Sl.set ?_ f1 _ | with_reducible refine Sl.set ?_ f2 _),below_autor⟩
theorem grantC_any (t:PTerms) (mo:Int) (x:AAcc) (dv tv:Value) (ds:List ADebt) (g0 g1:Nat) (w:World) (o0:Own w g0 [tv,I t.f,I t.b,I t.d,I t.al]) (o1:Own w g1 [I mo])
    (hS:Sl w dv 2 ds.length (ds.flatMap ADebt.cells)) (hT:Sl w tv 2 t.ts.length (t.ts.flatMap AStep.cells)):
    Calls Tryz.prog 36 #[.agg #[I x.meter,I x.rev,I x.next,I x.month,I x.bought,I x.free,dv],.pointer (some ⟨g0,0,none⟩),.pointer (some ⟨g1,0,none⟩)] w (GrewAccB (askX t 3 0 mo x ds) (askL t 3 0 mo x ds) (askB t 3 0 mo x ds) (askE t 3 0 mo x ds) w):=by
  obtain ⟨kB,oA,oX,oY⟩:=boxes3 w [I x.meter,I x.rev,I x.next,I x.month,I x.bought,I x.free,dv] 64 [I 0,I 0,I 0,I 0,I 0,I 0,.slice none 0 0] 64 [I 0,I 0,I 0,I 0,I 0,I 0,I 0] 39;have S:=Lib.hid (Grant_any x dv tv ds t.ts t.f t.b t.d t.al mo _ (hS.below kB) (hT.below kB));unfold GrewAccBF at S;have HX:Hid (grantX x mo (grantE x ds t.ts t.f t.b t.d t.al mo)=askX t 3 0 mo x ds∧grantL x ds mo (grantE x ds t.ts t.f t.b t.d t.al mo)=askL t 3 0 mo x ds∧grantB x t.al (grantE x ds t.ts t.f t.b t.d t.al mo)=askB t 3 0 mo x ds∧grantE x ds t.ts t.f t.b t.d t.al mo=askE t 3 0 mo x ds):=Lib.hid ⟨rfl,rfl,rfl,rfl⟩;rw [HX.out.1,HX.out.2.1,HX.out.2.2.1,HX.out.2.2.2] at S;clear HX;generalize askE t 3 0 mo x ds=E at *;generalize askX t 3 0 mo x ds=X at *;generalize askL t 3 0 mo x ds=L at *;generalize askB t 3 0 mo x ds=B at *;obtain ⟨X1,X2,X3,X4,X5,X6⟩:=X;obtain ⟨b1,b2,b3,b4,b5,b6,b7⟩:=B;have KB:=Lib.hid kB;have OX:=Lib.hid oX;have OY:=Lib.hid oY;have o2:=o1;obtain ⟨da,dc,rfl,-⟩:=_root_.id hS;obtain ⟨ta,tc,rfl,-⟩:=_root_.id hT;have cO:=oA;have cA:=cO.s7;clear cO;have tO:=o0.below kB;have tA:=tO.s5;clear tO;have h1:=(o1.below kB).cell 0 (by simp);simp only [Nat.zero_add,List.getD_cons_zero] at h1;clear hS hT kB oA oX oY;go_enter Tryz.func36,Tryz.ntmps36
  go_wp2_with fail
  refine S.out.mono ?_;rintro e w4 ⟨u,rfl,hu,k4,hF⟩;have kk:=KB.out.trans (k4.mono KB.out.size);have f1:Far (w.heap.size+1) u:=hF.far (by simp);have f2:Far (w.heap.size+2) u:=hF.far (by simp);have HU:=Lib.hid hu;obtain ⟨ua,uc,rfl,-⟩:=_root_.id hu;have pO:=OX.out.below k4;have pA:=pO.s7;clear pO;have qO:=OY.out.below k4;have qA:=qO.s7;clear qO;have r1:=set_same;have r2:=set_off;have r3:=set_blk;clear hu hF k4 o0 o1 o2 cA tA;go_wp2;exact bodyPost_ret (v:=T3 (.agg #[I X1,I X2,I X3,I X4,I X5,I X6,.slice ua L.length uc]) (.agg #[I b1,I b2,I b3,I b4,I b5,I b6,I b7]) (I E)) (by simp [results,Tryz.results36,go_sem, *];try omega) rfl ⟨_,rfl,by repeat (first | with_reducible exact HU.out | with_reducible refine Sl.set ?_ f1 _ | with_reducible refine Sl.set ?_ f2 _),below_autor⟩
end
section
open Go Go.RowKit
/-- the program's four results; the oracle's pairs in new memory -/
def Vt4F (O:VOut) (w:World) (e:Ending) (w':World):Prop:=
  ∃ u v,e=.returned (.tuple #[u,.agg #[v],.agg #[I O.rm,I O.b.id,I O.b.tender,I O.b.debt,I O.b.fee,I O.b.price,I O.b.change,I O.b.units,.string O.s],I O.e])∧Sl w' u 2 O.L.length (O.L.flatMap AWrite.cells)∧Sl w' v 4 O.P.length (O.P.flatMap APair.cells)∧Below w.heap.size w w'∧FarB w.heap.size v
theorem Vt4F.intro {O:VOut} {w w':World} {O1 O4 b1 b2 b3 b4 b5 b6 b7:Int} {O2:List AWrite} {O3:List APair} {O6:ByteArray} {u v:Value} (h:O=⟨O1,O2,O3,O4,⟨b1,b2,b3,b4,b5,b6,b7⟩,O6⟩) (hu:Sl w' u 2 O2.length (O2.flatMap AWrite.cells)) (hv:Sl w' v 4 O3.length (O3.flatMap APair.cells)) (hb:Below w.heap.size w w') (hf:FarB w.heap.size v):
    Vt4F O w (.returned (.tuple #[u,.agg #[v],.agg #[I O4,I b1,I b2,I b3,I b4,I b5,I b6,I b7,.string O6],I O1])) w':=by
  subst h;exact ⟨_,_,rfl,hu,hv,hb,hf⟩
theorem VSell_any (t:PTerms) (tv cv ov:Value) (xs:List Int) (ps:List APair) (me te mo draw:Int) (w:World)
    (ht:Sl w tv 2 t.ts.length (t.ts.flatMap AStep.cells)) (hc:Sl w cv 1 xs.length (xs.map U32)) (hw:∀ x∈xs,W32 x) (ho:Sl w ov 4 ps.length (ps.flatMap APair.cells)) (hpw:∀ p∈ps,p.wf):
    Calls Tryz.prog 17 #[.agg #[tv,I t.f,I t.b,I t.d,I t.al],cv,.agg #[ov],I me,I te,I mo,I draw] w (Vt4F (vtO t xs ps 2 me mo 0 draw (askE t 2 te mo) (askX t 2 te mo) (askB t 2 te mo)) w):=by
  have oT:=(((((Own.new (w:=w) (g:=w.heap.size) (by rfl) [tv,I t.f,I t.b,I t.d,I t.al] 24).alloc (.cells #[ov] 35)).alloc (.cells #[I te] 3)).alloc (.cells #[I mo] 3)).alloc (.cells #[.slice none 0 0] 35)).alloc (.cells #[I 0,I 0,I 0,I 0,I 0,I 0,I 0,I 0,.string ⟨#[]⟩] 41);have oO:=((((Own.new (w:=(w.alloc (.cells #[tv,I t.f,I t.b,I t.d,I t.al] 24))) (g:=w.heap.size+1) (by simp) [ov] 35).alloc (.cells #[I te] 3)).alloc (.cells #[I mo] 3)).alloc (.cells #[.slice none 0 0] 35)).alloc (.cells #[I 0,I 0,I 0,I 0,I 0,I 0,I 0,I 0,.string ⟨#[]⟩] 41);have oN:=(((Own.new (w:=((w.alloc (.cells #[tv,I t.f,I t.b,I t.d,I t.al] 24)).alloc (.cells #[ov] 35))) (g:=w.heap.size+2) (by simp) [I te] 3).alloc (.cells #[I mo] 3)).alloc (.cells #[.slice none 0 0] 35)).alloc (.cells #[I 0,I 0,I 0,I 0,I 0,I 0,I 0,I 0,.string ⟨#[]⟩] 41);have oM:=((Own.new (w:=(((w.alloc (.cells #[tv,I t.f,I t.b,I t.d,I t.al] 24)).alloc (.cells #[ov] 35)).alloc (.cells #[I te] 3))) (g:=w.heap.size+3) (by simp) [I mo] 3).alloc (.cells #[.slice none 0 0] 35)).alloc (.cells #[I 0,I 0,I 0,I 0,I 0,I 0,I 0,I 0,.string ⟨#[]⟩] 41);have oZ:=(Own.new (w:=((((w.alloc (.cells #[tv,I t.f,I t.b,I t.d,I t.al] 24)).alloc (.cells #[ov] 35)).alloc (.cells #[I te] 3)).alloc (.cells #[I mo] 3))) (g:=w.heap.size+4) (by simp) [.slice none 0 0] 35).alloc (.cells #[I 0,I 0,I 0,I 0,I 0,I 0,I 0,I 0,.string ⟨#[]⟩] 41);have oY:=Own.new (w:=(((((w.alloc (.cells #[tv,I t.f,I t.b,I t.d,I t.al] 24)).alloc (.cells #[ov] 35)).alloc (.cells #[I te] 3)).alloc (.cells #[I mo] 3)).alloc (.cells #[.slice none 0 0] 35))) (g:=w.heap.size+5) (by simp) [I 0,I 0,I 0,I 0,I 0,I 0,I 0,I 0,.string ⟨#[]⟩] 41;have bx0:=boxed_below w (.cells #[tv,I t.f,I t.b,I t.d,I t.al] 24);have bx1:=bx0.alloc bx0.size (.cells #[ov] 35);have bx2:=bx1.alloc bx1.size (.cells #[I te] 3);have bx3:=bx2.alloc bx2.size (.cells #[I mo] 3);have bx4:=bx3.alloc bx3.size (.cells #[.slice none 0 0] 35);have kB:=bx4.alloc bx4.size (.cells #[I 0,I 0,I 0,I 0,I 0,I 0,I 0,I 0,.string ⟨#[]⟩] 41);clear bx0 bx1 bx2 bx3 bx4
  have hzr:((((((w.alloc (.cells #[tv,I t.f,I t.b,I t.d,I t.al] 24)).alloc (.cells #[ov] 35)).alloc (.cells #[I te] 3)).alloc (.cells #[I mo] 3)).alloc (.cells #[.slice none 0 0] 35)).alloc (.cells #[I 0,I 0,I 0,I 0,I 0,I 0,I 0,I 0,.string ⟨#[]⟩] 41)).heap[w.heap.size+4]?=some (.cells #[.slice none 0 0] 35):=by
    rw [Lib.alloc_old _ _ _ (by simp)];exact zero_at _ _ (by simp) _
  have hyr:((((((w.alloc (.cells #[tv,I t.f,I t.b,I t.d,I t.al] 24)).alloc (.cells #[ov] 35)).alloc (.cells #[I te] 3)).alloc (.cells #[I mo] 3)).alloc (.cells #[.slice none 0 0] 35)).alloc (.cells #[I 0,I 0,I 0,I 0,I 0,I 0,I 0,I 0,.string ⟨#[]⟩] 41)).heap[w.heap.size+5]?=some (.cells #[I 0,I 0,I 0,I 0,I 0,I 0,I 0,I 0,.string ⟨#[]⟩] 41):=zero_at _ _ (by simp) _;have HZ:=Lib.hid (And.intro hzr hyr)
  have S:=Lib.hid (vsell_any 34 #[.pointer (some ⟨w.heap.size,0,none⟩),.pointer (some ⟨w.heap.size+2,0,none⟩),.pointer (some ⟨w.heap.size+3,0,none⟩)] (askE t 2 te mo) (askX t 2 te mo) (askL t 2 te mo) (askB t 2 te mo) (enters_of Tryz.func34 (by kernel_rfl) rfl) (fun x ds h=>ask_may h) t tv cv ov xs ps 2 me mo 0 draw _
    (fun x dv ds W hB hS=>sellC_any t te mo x dv tv ds _ _ _ W (oT.below hB) (oN.below hB) (oM.below hB) hS ((ht.below kB).below hB)) (ht.below kB) (hc.below kB) hw (ho.below kB) hpw)
  unfold VtP at S;obtain ⟨O,hO⟩:∃ O,vtO t xs ps 2 me mo 0 draw (askE t 2 te mo) (askX t 2 te mo) (askB t 2 te mo)=O:=⟨_,rfl⟩;rw [hO] at S;have HOO:=Lib.hid hO;have KB:=Lib.hid kB;have OZ:=Lib.hid oZ;have OY:=Lib.hid oY;have tO:=oT;have tA:=tO.s5;clear tO;have oO:=oO;have oA:=oO.s1;clear oO;have nO:=oN;have nA:=nO.s1;clear nO;have mO:=oM;have mA:=mO.s1;clear mO;obtain ⟨a,cap,rfl,-⟩:=_root_.id hc;obtain ⟨oa,oc,rfl,-⟩:=_root_.id ho;clear hw ht kB oT hc oO oN oM oZ oY ho hpw hzr hyr hO;go_enter Tryz.func17,Tryz.ntmps17
  go_wp2_with fail
  refine S.out.mono ?_;rintro e w1 ⟨u,v,rfl,hu,hv,k1,hf⟩;have kk1:=KB.out.trans (k1.mono KB.out.size);have KK1:=Lib.hid kk1;have hz1:=(k1.block (w.heap.size+4) (by simp)).trans HZ.out.1;have hy1:=(k1.block (w.heap.size+5) (by simp)).trans HZ.out.2;have hs1:w.heap.size+6≤w1.heap.size:=by have:=k1.size;simp at this;omega
  have HFB:=Lib.hid (show FarB w.heap.size v from fun a n c e=>Nat.le_trans KB.out.size (hf a n c e));have hf3:Far (w.heap.size+4) v:=hf.far (by simp);have hf4:Far (w.heap.size+5) v:=hf.far (by simp);obtain ⟨O1,O2,O3,O4,⟨b1,b2,b3,b4,b5,b6,b7⟩,O6⟩:=O;simp only at hu hv HOO;have HF:=Lib.hid (And.intro (fun hn=>far_writes hz1 (by rfl) hu hn) (And.intro (fun hn=>far_writes hy1 (by rfl) hu hn) (And.intro hf3 hf4)));obtain ⟨ua,uc,rfl,-⟩:=_root_.id hu;obtain ⟨va,vc,rfl,-⟩:=_root_.id hv;have kA:=boxed_below w1 (.cells #[.slice ua O2.length uc,.slice va O3.length vc,I O4,I b1,I b2,I b3,I b4,I b5,I b6,I b7,.string O6] 82);have HU:=Lib.hid (hu.below kA);have HV:=Lib.hid (hv.below kA);have KK:=Lib.hid (kk1.trans (kA.mono kk1.size));have rO:=Own.new (w:=w1) rfl [.slice ua O2.length uc,.slice va O3.length vc,I O4,I b1,I b2,I b3,I b4,I b5,I b6,I b7,.string O6] 82;have rA:=rO.s11;clear rO;have zO:=(OZ.out.below k1).below kA;have zA:=zO.s1;clear zO;have yO:=(OY.out.below k1).below kA;have yA:=yO.s9;clear yO;have r1:=set_same;have r2:=set_off;have r3:=set_blk;have n4:¬ w1.heap.size=w.heap.size+4:=by omega
  have n5:¬ w1.heap.size=w.heap.size+5:=by omega
  have n6:¬ w.heap.size+4=w1.heap.size:=by omega
  have n7:¬ w.heap.size+5=w1.heap.size:=by omega
  clear hu hv k1 hf kk1 hz1 hy1 hf3 hf4 kA tA oA nA mA;go_wp2;go_region
  all_goals
    go_wp2
    exact bodyPost_ret (v:=.tuple #[.slice ua O2.length uc,.agg #[.slice va O3.length vc],.agg #[I O4,I b1,I b2,I b3,I b4,I b5,I b6,I b7,.string O6],I O1]) (by simp [results,Tryz.results17,go_sem, *];try omega) rfl (Vt4F.intro HOO.out (by repeat first | with_reducible refine Sl.drew ?_ | with_reducible exact HU.out | with_reducible refine sl_put ?_ HF.out.1 _ | with_reducible refine sl_put ?_ HF.out.2.1 _) (by repeat first | with_reducible refine Sl.drew ?_ | with_reducible exact HV.out | with_reducible refine sl_put ?_ (fun _=>HF.out.2.2.1) _ | with_reducible refine sl_put ?_ (fun _=>HF.out.2.2.2) _) (by
      have:=KK.out;have:=KK.out.drew
      repeat first | with_reducible assumption | with_reducible refine Below.drew ?_ | with_reducible refine Below.setCell ?_ (by first | (show w.heap.size≤w.heap.size+1+1;omega) | (show w.heap.size≤w.heap.size+1+1+1;omega) | (show w.heap.size≤w.heap.size+1+1+1+1;omega) | (show w.heap.size≤w.heap.size+1+1+1+1+1;omega) | (dsimp only;omega)) _) HFB.out)
theorem VGrant_any (t:PTerms) (tv cv ov:Value) (xs:List Int) (ps:List APair) (me mo draw:Int) (w:World)
    (ht:Sl w tv 2 t.ts.length (t.ts.flatMap AStep.cells)) (hc:Sl w cv 1 xs.length (xs.map U32)) (hw:∀ x∈xs,W32 x) (ho:Sl w ov 4 ps.length (ps.flatMap APair.cells)) (hpw:∀ p∈ps,p.wf):
    Calls Tryz.prog 18 #[.agg #[tv,I t.f,I t.b,I t.d,I t.al],cv,.agg #[ov],I me,I mo,I draw] w (Vt4F (vtO t xs ps 3 me mo 0 draw (askE t 3 0 mo) (askX t 3 0 mo) (askB t 3 0 mo)) w):=by
  have oT:=((((Own.new (w:=w) (g:=w.heap.size) (by rfl) [tv,I t.f,I t.b,I t.d,I t.al] 24).alloc (.cells #[ov] 35)).alloc (.cells #[I mo] 3)).alloc (.cells #[.slice none 0 0] 35)).alloc (.cells #[I 0,I 0,I 0,I 0,I 0,I 0,I 0,I 0,.string ⟨#[]⟩] 41);have oO:=(((Own.new (w:=(w.alloc (.cells #[tv,I t.f,I t.b,I t.d,I t.al] 24))) (g:=w.heap.size+1) (by simp) [ov] 35).alloc (.cells #[I mo] 3)).alloc (.cells #[.slice none 0 0] 35)).alloc (.cells #[I 0,I 0,I 0,I 0,I 0,I 0,I 0,I 0,.string ⟨#[]⟩] 41);have oM:=((Own.new (w:=((w.alloc (.cells #[tv,I t.f,I t.b,I t.d,I t.al] 24)).alloc (.cells #[ov] 35))) (g:=w.heap.size+2) (by simp) [I mo] 3).alloc (.cells #[.slice none 0 0] 35)).alloc (.cells #[I 0,I 0,I 0,I 0,I 0,I 0,I 0,I 0,.string ⟨#[]⟩] 41);have oZ:=(Own.new (w:=(((w.alloc (.cells #[tv,I t.f,I t.b,I t.d,I t.al] 24)).alloc (.cells #[ov] 35)).alloc (.cells #[I mo] 3))) (g:=w.heap.size+3) (by simp) [.slice none 0 0] 35).alloc (.cells #[I 0,I 0,I 0,I 0,I 0,I 0,I 0,I 0,.string ⟨#[]⟩] 41);have oY:=Own.new (w:=((((w.alloc (.cells #[tv,I t.f,I t.b,I t.d,I t.al] 24)).alloc (.cells #[ov] 35)).alloc (.cells #[I mo] 3)).alloc (.cells #[.slice none 0 0] 35))) (g:=w.heap.size+4) (by simp) [I 0,I 0,I 0,I 0,I 0,I 0,I 0,I 0,.string ⟨#[]⟩] 41;have bx0:=boxed_below w (.cells #[tv,I t.f,I t.b,I t.d,I t.al] 24);have bx1:=bx0.alloc bx0.size (.cells #[ov] 35);have bx2:=bx1.alloc bx1.size (.cells #[I mo] 3);have bx3:=bx2.alloc bx2.size (.cells #[.slice none 0 0] 35);have kB:=bx3.alloc bx3.size (.cells #[I 0,I 0,I 0,I 0,I 0,I 0,I 0,I 0,.string ⟨#[]⟩] 41);clear bx0 bx1 bx2 bx3
  have hzr:(((((w.alloc (.cells #[tv,I t.f,I t.b,I t.d,I t.al] 24)).alloc (.cells #[ov] 35)).alloc (.cells #[I mo] 3)).alloc (.cells #[.slice none 0 0] 35)).alloc (.cells #[I 0,I 0,I 0,I 0,I 0,I 0,I 0,I 0,.string ⟨#[]⟩] 41)).heap[w.heap.size+3]?=some (.cells #[.slice none 0 0] 35):=by
    rw [Lib.alloc_old _ _ _ (by simp)];exact zero_at _ _ (by simp) _
  have hyr:(((((w.alloc (.cells #[tv,I t.f,I t.b,I t.d,I t.al] 24)).alloc (.cells #[ov] 35)).alloc (.cells #[I mo] 3)).alloc (.cells #[.slice none 0 0] 35)).alloc (.cells #[I 0,I 0,I 0,I 0,I 0,I 0,I 0,I 0,.string ⟨#[]⟩] 41)).heap[w.heap.size+4]?=some (.cells #[I 0,I 0,I 0,I 0,I 0,I 0,I 0,I 0,.string ⟨#[]⟩] 41):=zero_at _ _ (by simp) _;have HZ:=Lib.hid (And.intro hzr hyr)
  have S:=Lib.hid (vsell_any 36 #[.pointer (some ⟨w.heap.size,0,none⟩),.pointer (some ⟨w.heap.size+2,0,none⟩)] (askE t 3 0 mo) (askX t 3 0 mo) (askL t 3 0 mo) (askB t 3 0 mo) (enters_of Tryz.func36 (by kernel_rfl) rfl) (fun x ds h=>ask_may h) t tv cv ov xs ps 3 me mo 0 draw _
    (fun x dv ds W hB hS=>grantC_any t mo x dv tv ds _ _ W (oT.below hB) (oM.below hB) hS ((ht.below kB).below hB)) (ht.below kB) (hc.below kB) hw (ho.below kB) hpw)
  unfold VtP at S;obtain ⟨O,hO⟩:∃ O,vtO t xs ps 3 me mo 0 draw (askE t 3 0 mo) (askX t 3 0 mo) (askB t 3 0 mo)=O:=⟨_,rfl⟩;rw [hO] at S;have HOO:=Lib.hid hO;have KB:=Lib.hid kB;have OZ:=Lib.hid oZ;have OY:=Lib.hid oY;have tO:=oT;have tA:=tO.s5;clear tO;have oO:=oO;have oA:=oO.s1;clear oO;have mO:=oM;have mA:=mO.s1;clear mO;obtain ⟨a,cap,rfl,-⟩:=_root_.id hc;obtain ⟨oa,oc,rfl,-⟩:=_root_.id ho;clear hw ht kB oT hc oO oM oZ oY ho hpw hzr hyr hO;go_enter Tryz.func18,Tryz.ntmps18
  go_wp2_with fail
  refine S.out.mono ?_;rintro e w1 ⟨u,v,rfl,hu,hv,k1,hf⟩;have kk1:=KB.out.trans (k1.mono KB.out.size);have KK1:=Lib.hid kk1;have hz1:=(k1.block (w.heap.size+3) (by simp)).trans HZ.out.1;have hy1:=(k1.block (w.heap.size+4) (by simp)).trans HZ.out.2;have hs1:w.heap.size+5≤w1.heap.size:=by have:=k1.size;simp at this;omega
  have HFB:=Lib.hid (show FarB w.heap.size v from fun a n c e=>Nat.le_trans KB.out.size (hf a n c e));have hf3:Far (w.heap.size+3) v:=hf.far (by simp);have hf4:Far (w.heap.size+4) v:=hf.far (by simp);obtain ⟨O1,O2,O3,O4,⟨b1,b2,b3,b4,b5,b6,b7⟩,O6⟩:=O;simp only at hu hv HOO;have HF:=Lib.hid (And.intro (fun hn=>far_writes hz1 (by rfl) hu hn) (And.intro (fun hn=>far_writes hy1 (by rfl) hu hn) (And.intro hf3 hf4)));obtain ⟨ua,uc,rfl,-⟩:=_root_.id hu;obtain ⟨va,vc,rfl,-⟩:=_root_.id hv;have kA:=boxed_below w1 (.cells #[.slice ua O2.length uc,.slice va O3.length vc,I O4,I b1,I b2,I b3,I b4,I b5,I b6,I b7,.string O6] 82);have HU:=Lib.hid (hu.below kA);have HV:=Lib.hid (hv.below kA);have KK:=Lib.hid (kk1.trans (kA.mono kk1.size));have rO:=Own.new (w:=w1) rfl [.slice ua O2.length uc,.slice va O3.length vc,I O4,I b1,I b2,I b3,I b4,I b5,I b6,I b7,.string O6] 82;have rA:=rO.s11;clear rO;have zO:=(OZ.out.below k1).below kA;have zA:=zO.s1;clear zO;have yO:=(OY.out.below k1).below kA;have yA:=yO.s9;clear yO;have r1:=set_same;have r2:=set_off;have r3:=set_blk;have n4:¬ w1.heap.size=w.heap.size+3:=by omega
  have n5:¬ w1.heap.size=w.heap.size+4:=by omega
  have n6:¬ w.heap.size+3=w1.heap.size:=by omega
  have n7:¬ w.heap.size+4=w1.heap.size:=by omega
  clear hu hv k1 hf kk1 hz1 hy1 hf3 hf4 kA tA oA mA;go_wp2;go_region
  all_goals
    go_wp2
    exact bodyPost_ret (v:=.tuple #[.slice ua O2.length uc,.agg #[.slice va O3.length vc],.agg #[I O4,I b1,I b2,I b3,I b4,I b5,I b6,I b7,.string O6],I O1]) (by simp [results,Tryz.results18,go_sem, *];try omega) rfl (Vt4F.intro HOO.out (by repeat first | with_reducible refine Sl.drew ?_ | with_reducible exact HU.out | with_reducible refine sl_put ?_ HF.out.1 _ | with_reducible refine sl_put ?_ HF.out.2.1 _) (by repeat first | with_reducible refine Sl.drew ?_ | with_reducible exact HV.out | with_reducible refine sl_put ?_ (fun _=>HF.out.2.2.1) _ | with_reducible refine sl_put ?_ (fun _=>HF.out.2.2.2) _) (by
      have:=KK.out;have:=KK.out.drew
      repeat first | with_reducible assumption | with_reducible refine Below.drew ?_ | with_reducible refine Below.setCell ?_ (by first | (show w.heap.size≤w.heap.size+1+1;omega) | (show w.heap.size≤w.heap.size+1+1+1;omega) | (show w.heap.size≤w.heap.size+1+1+1+1;omega) | (show w.heap.size≤w.heap.size+1+1+1+1+1;omega) | (dsimp only;omega)) _) HFB.out)
theorem VRekey_any (t:PTerms) (tv cv ov:Value) (xs:List Int) (ps:List APair) (me draw:Int) (w:World)
    (ht:Sl w tv 2 t.ts.length (t.ts.flatMap AStep.cells)) (hc:Sl w cv 1 xs.length (xs.map U32)) (hw:∀ x∈xs,W32 x) (ho:Sl w ov 4 ps.length (ps.flatMap APair.cells)) (hpw:∀ p∈ps,p.wf):
    Calls Tryz.prog 13 #[.agg #[tv,I t.f,I t.b,I t.d,I t.al],cv,.agg #[ov],I me,I draw] w (Vt4F (vtO t xs ps 4 me 0 2 draw (askE t 4 0 0) (askX t 4 0 0) (askB t 4 0 0)) w):=by
  obtain ⟨kB,oT,oO,oZ,oY⟩:=boxes4 w [tv,I t.f,I t.b,I t.d,I t.al] 24 [ov] 35 [.slice none 0 0] 35 [I 0,I 0,I 0,I 0,I 0,I 0,I 0,I 0,.string ⟨#[]⟩] 41
  have hzr:((((w.alloc (.cells #[tv,I t.f,I t.b,I t.d,I t.al] 24)).alloc (.cells #[ov] 35)).alloc (.cells #[.slice none 0 0] 35)).alloc (.cells #[I 0,I 0,I 0,I 0,I 0,I 0,I 0,I 0,.string ⟨#[]⟩] 41)).heap[w.heap.size+2]?=some (.cells #[.slice none 0 0] 35):=by
    rw [Lib.alloc_old _ _ _ (by simp)];exact zero_at _ _ (by simp) _
  have hyr:((((w.alloc (.cells #[tv,I t.f,I t.b,I t.d,I t.al] 24)).alloc (.cells #[ov] 35)).alloc (.cells #[.slice none 0 0] 35)).alloc (.cells #[I 0,I 0,I 0,I 0,I 0,I 0,I 0,I 0,.string ⟨#[]⟩] 41)).heap[w.heap.size+3]?=some (.cells #[I 0,I 0,I 0,I 0,I 0,I 0,I 0,I 0,.string ⟨#[]⟩] 41):=zero_at _ _ (by simp) _;have HZ:=Lib.hid (And.intro hzr hyr)
  have S:=Lib.hid (vsell_any 27 #[] (askE t 4 0 0) (askX t 4 0 0) (askL t 4 0 0) (askB t 4 0 0) (enters_of Tryz.func27 (by kernel_rfl) rfl) (fun x ds h=>ask_may h) t tv cv ov xs ps 4 me 0 2 draw _
    (fun x dv ds W hB hS=>Rekey_any x dv ds W hS) (ht.below kB) (hc.below kB) hw (ho.below kB) hpw)
  unfold VtP at S;obtain ⟨O,hO⟩:∃ O,vtO t xs ps 4 me 0 2 draw (askE t 4 0 0) (askX t 4 0 0) (askB t 4 0 0)=O:=⟨_,rfl⟩;rw [hO] at S;have HOO:=Lib.hid hO;have KB:=Lib.hid kB;have OZ:=Lib.hid oZ;have OY:=Lib.hid oY;have tO:=oT;have tA:=tO.s5;clear tO;have oO:=oO;have oA:=oO.s1;clear oO;obtain ⟨a,cap,rfl,-⟩:=_root_.id hc;obtain ⟨oa,oc,rfl,-⟩:=_root_.id ho;clear hw ht kB oT hc oO oZ oY ho hpw hzr hyr hO;go_enter Tryz.func13,Tryz.ntmps13
  go_wp2_with fail
  refine S.out.mono ?_;rintro e w1 ⟨u,v,rfl,hu,hv,k1,hf⟩;have kk1:=KB.out.trans (k1.mono KB.out.size);have KK1:=Lib.hid kk1;have hz1:=(k1.block (w.heap.size+2) (by simp)).trans HZ.out.1;have hy1:=(k1.block (w.heap.size+3) (by simp)).trans HZ.out.2;have hs1:w.heap.size+4≤w1.heap.size:=by have:=k1.size;simp at this;omega
  have HFB:=Lib.hid (show FarB w.heap.size v from fun a n c e=>Nat.le_trans KB.out.size (hf a n c e));have hf3:Far (w.heap.size+2) v:=hf.far (by simp);have hf4:Far (w.heap.size+3) v:=hf.far (by simp);obtain ⟨O1,O2,O3,O4,⟨b1,b2,b3,b4,b5,b6,b7⟩,O6⟩:=O;simp only at hu hv HOO;have HF:=Lib.hid (And.intro (fun hn=>far_writes hz1 (by rfl) hu hn) (And.intro (fun hn=>far_writes hy1 (by rfl) hu hn) (And.intro hf3 hf4)));obtain ⟨ua,uc,rfl,-⟩:=_root_.id hu;obtain ⟨va,vc,rfl,-⟩:=_root_.id hv;have kA:=boxed_below w1 (.cells #[.slice ua O2.length uc,.slice va O3.length vc,I O4,I b1,I b2,I b3,I b4,I b5,I b6,I b7,.string O6] 82);have HU:=Lib.hid (hu.below kA);have HV:=Lib.hid (hv.below kA);have KK:=Lib.hid (kk1.trans (kA.mono kk1.size));have rO:=Own.new (w:=w1) rfl [.slice ua O2.length uc,.slice va O3.length vc,I O4,I b1,I b2,I b3,I b4,I b5,I b6,I b7,.string O6] 82;have rA:=rO.s11;clear rO;have zO:=(OZ.out.below k1).below kA;have zA:=zO.s1;clear zO;have yO:=(OY.out.below k1).below kA;have yA:=yO.s9;clear yO;have r1:=set_same;have r2:=set_off;have r3:=set_blk;have n4:¬ w1.heap.size=w.heap.size+2:=by omega
  have n5:¬ w1.heap.size=w.heap.size+3:=by omega
  have n6:¬ w.heap.size+2=w1.heap.size:=by omega
  have n7:¬ w.heap.size+3=w1.heap.size:=by omega
  clear hu hv k1 hf kk1 hz1 hy1 hf3 hf4 kA tA oA;go_wp2;go_region
  all_goals
    go_wp2
    exact bodyPost_ret (v:=.tuple #[.slice ua O2.length uc,.agg #[.slice va O3.length vc],.agg #[I O4,I b1,I b2,I b3,I b4,I b5,I b6,I b7,.string O6],I O1]) (by simp [results,Tryz.results13,go_sem, *];try omega) rfl (Vt4F.intro HOO.out (by repeat first | with_reducible refine Sl.drew ?_ | with_reducible exact HU.out | with_reducible refine sl_put ?_ HF.out.1 _ | with_reducible refine sl_put ?_ HF.out.2.1 _) (by repeat first | with_reducible refine Sl.drew ?_ | with_reducible exact HV.out | with_reducible refine sl_put ?_ (fun _=>HF.out.2.2.1) _ | with_reducible refine sl_put ?_ (fun _=>HF.out.2.2.2) _) (by
      have:=KK.out;have:=KK.out.drew
      repeat first | with_reducible assumption | with_reducible refine Below.drew ?_ | with_reducible refine Below.setCell ?_ (by first | (show w.heap.size≤w.heap.size+1+1;omega) | (show w.heap.size≤w.heap.size+1+1+1;omega) | (show w.heap.size≤w.heap.size+1+1+1+1;omega) | (show w.heap.size≤w.heap.size+1+1+1+1+1;omega) | (dsimp only;omega)) _) HFB.out)
end
end Go.Proofs.YtdjgcenjonegjaaGreat
