/- account.open: a clerk for an account · a region of reads whose last call may write what was read: the reads are taken first under S, which need hold only until call number c has come up -/
import Derived.Test.YtdjgcenjonegjaaGreatPk07
import Derived.Test.YtdjgcenjonegjaaGreatPk08
import Derived.Deep.RegionHeld3
namespace Go.Proofs.YtdjgcenjonegjaaGreat
set_option linter.unusedSimpArgs false
set_option linter.unusedVariables false
open Go.RowKit
set_option maxRecDepth 20000

/-- what is wrong with an account, or with the terms -/
def openErr (x:AAcc) (xs:List ADebt) (ts:List AStep) (f b d al:Int):Int:=if accMay x xs then termsE ts f b d al else 5
def clerkC (x:AAcc) (v tv:Value) (f b d al:Int):List Value:=[I x.meter,I x.rev,I x.next,I x.month,I x.bought,I x.free,v,tv,I f,I b,I d,I al]
def GrewClerk (x:AAcc) (xs:List ADebt) (tv:Value) (f b d al:Int) (w:World) (e:Ending) (w':World):Prop:=
  ∃ g v,e=.returned (T2 (.pointer (some ⟨g,0,none⟩)) (I 0))∧w.heap.size≤g∧Own w' g (clerkC x v tv f b d al)∧Sl w' v 2 xs.length (xs.flatMap ADebt.cells)∧Far g v∧FarB w.heap.size v∧Below w.heap.size w w'
set_option maxHeartbeats 4000000 in
theorem open_bad (x:AAcc) (v tv:Value) (xs:List ADebt) (ts:List AStep) (f b d al:Int) (w:World) (h:Sl w v 2 xs.length (xs.flatMap ADebt.cells)) (ht:Sl w tv 2 ts.length (ts.flatMap AStep.cells)) (hE:openErr x xs ts f b d al≠0):
    Calls Tryz.prog 68 #[.agg #[I x.meter,I x.rev,I x.next,I x.month,I x.bought,I x.free,v],.agg #[tv,I f,I b,I d,I al]] w (Grew (T2 (.pointer none) (I (openErr x xs ts f b d al))) w):=by
  have HEE:=Lib.hid (show openErr x xs ts f b d al=if accMay x xs then termsE ts f b d al else 5 from rfl);generalize openErr x xs ts f b d al=E at *;have M:=Lib.hid (fun W (hW:Sl W v 2 xs.length (xs.flatMap ADebt.cells))=>may_any x v xs W hW);have C:=Lib.hid (fun W (hW:Sl W tv 2 ts.length (ts.flatMap AStep.cells))=>CheckTerms_any tv ts f b d al W hW);obtain ⟨x1,x2,x3,x4,x5,x6⟩:=x;simp only at *;have hb1:=boxed_below w (.cells #[I x1,I x2,I x3,I x4,I x5,I x6,v] 64);have kB:=hb1.alloc hb1.size (.cells #[tv,I f,I b,I d,I al] 24);have hS:=h;have tS:=ht;obtain ⟨ta,tcap,rfl,-⟩:=ht;clear hb1;obtain ⟨a,cap,rfl,-⟩:=h;cases c0:accMay ⟨x1,x2,x3,x4,x5,x6⟩ xs
  · have hr:=HEE.out
    simp only [c0,Bool.false_eq_true,if_false] at hr;subst hr;rw [c0] at M;clear HEE c0 hE C tS;go_enter Tryz.func68,Tryz.ntmps68
    go_wp2_with fail
    refine (M.out _ (hS.below kB)).mono ?_;rintro e w1 ⟨rfl,k1⟩;have oc:=((Own.new (w:=w) rfl [I x1,I x2,I x3,I x4,I x5,I x6,.slice a xs.length cap] 64).alloc (.cells #[.slice ta ts.length tcap,I f,I b,I d,I al] 24)).below k1;have ot:=(Own.new (w:=w.alloc (.cells #[I x1,I x2,I x3,I x4,I x5,I x6,.slice a xs.length cap] 64)) (g:=w.heap.size+1) (by simp) [.slice ta ts.length tcap,I f,I b,I d,I al] 24).below k1;have cO:=oc;have cA:=cO.s7;clear cO;have tO:=ot;have tA:=tO.s5;clear tO;have k:=kB.trans (k1.mono kB.size);have hzw:w.heap.size+2≤w1.heap.size:=by have:=k1.size;simp at this;omega
    clear k1 kB;go_wp2;go_ret2;exact ⟨rfl,k⟩
  · have hr:=HEE.out
    simp only [c0,if_true] at hr;rw [← hr] at C;rw [c0] at M;clear HEE c0 hr;go_enter Tryz.func68,Tryz.ntmps68
    go_wp2_with fail
    refine (M.out _ (hS.below kB)).mono ?_;rintro e w1 ⟨rfl,k1⟩;have oc:=((Own.new (w:=w) rfl [I x1,I x2,I x3,I x4,I x5,I x6,.slice a xs.length cap] 64).alloc (.cells #[.slice ta ts.length tcap,I f,I b,I d,I al] 24)).below k1;have ot:=(Own.new (w:=w.alloc (.cells #[I x1,I x2,I x3,I x4,I x5,I x6,.slice a xs.length cap] 64)) (g:=w.heap.size+1) (by simp) [.slice ta ts.length tcap,I f,I b,I d,I al] 24).below k1;have cO:=oc;have cA:=cO.s7;clear cO;have tO:=ot;have tA:=tO.s5;clear tO;have k:=kB.trans (k1.mono kB.size);have hzw:w.heap.size+2≤w1.heap.size:=by have:=k1.size;simp at this;omega
    clear k1 kB
    go_wp2_with fail
    refine (C.out _ (tS.below k)).mono ?_;rintro e w2 ⟨rfl,k2⟩;have oc2:=oc.below k2;have ot2:=ot.below k2;have kk:=k.trans (k2.mono k.size);have hzw2:w.heap.size+2≤w2.heap.size:=by have:=k2.size;omega
    clear k2 k oc ot cA tA;have cO:=oc2;have cA:=cO.s7;clear cO;have tO:=ot2;have tA:=tO.s5;clear tO;go_wp2;go_ret2;exact ⟨rfl,kk⟩
set_option maxHeartbeats 6000000 in
theorem open_good (x:AAcc) (v tv:Value) (xs:List ADebt) (ts:List AStep) (f b d al:Int) (w:World) (h:Sl w v 2 xs.length (xs.flatMap ADebt.cells)) (ht:Sl w tv 2 ts.length (ts.flatMap AStep.cells)) (hE:openErr x xs ts f b d al=0):
    Calls Tryz.prog 68 #[.agg #[I x.meter,I x.rev,I x.next,I x.month,I x.bought,I x.free,v],.agg #[tv,I f,I b,I d,I al]] w (GrewClerk x xs tv f b d al w):=by
  obtain ⟨i0,hi,hz0,hz1,hz2⟩:=info_parts info_debts;unfold openErr at hE;cases c0:accMay x xs
  · rw [c0] at hE;simp at hE
  rw [c0,if_pos rfl] at hE;have h8:=accMay_len c0;have M:=Lib.hid (fun W (hW:Sl W v 2 xs.length (xs.flatMap ADebt.cells))=>may_any x v xs W hW);have C:=Lib.hid (fun W (hW:Sl W tv 2 ts.length (ts.flatMap AStep.cells))=>CheckTerms_any tv ts f b d al W hW);obtain ⟨x1,x2,x3,x4,x5,x6⟩:=x;simp only at *;have hb1:=boxed_below w (.cells #[I x1,I x2,I x3,I x4,I x5,I x6,v] 64);have kB:=hb1.alloc hb1.size (.cells #[tv,I f,I b,I d,I al] 24);have hS:=h;have tS:=ht;obtain ⟨ta,tcap,rfl,-⟩:=ht;clear hb1;rw [c0] at M;rw [hE] at C;clear c0 hE
  by_cases he:xs=[]
  · subst he
    obtain ⟨a,cap,rfl,-⟩:=h;go_enter Tryz.func68,Tryz.ntmps68
    go_wp2_with fail
    refine (M.out _ (hS.below kB)).mono ?_;rintro e w1 ⟨rfl,k1⟩;have oc:=((Own.new (w:=w) rfl [I x1,I x2,I x3,I x4,I x5,I x6,.slice a ([]:List ADebt).length cap] 64).alloc (.cells #[.slice ta ts.length tcap,I f,I b,I d,I al] 24)).below k1;have ot:=(Own.new (w:=w.alloc (.cells #[I x1,I x2,I x3,I x4,I x5,I x6,.slice a ([]:List ADebt).length cap] 64)) (g:=w.heap.size+1) (by simp) [.slice ta ts.length tcap,I f,I b,I d,I al] 24).below k1;have cO:=oc;have cA:=cO.s7;clear cO;have tO:=ot;have tA:=tO.s5;clear tO;have k:=kB.trans (k1.mono kB.size);have hzw:w.heap.size+2≤w1.heap.size:=by have:=k1.size;simp at this;omega
    clear k1 kB
    go_wp2_with fail
    refine (C.out _ (tS.below k)).mono ?_;rintro e w2 ⟨rfl,k2⟩;have oc2:=oc.below k2;have ot2:=ot.below k2;have kk:=k.trans (k2.mono k.size);have hzw2:w.heap.size+2≤w2.heap.size:=by have:=k2.size;omega
    clear k2 k oc ot cA tA;have cO:=oc2;have cA:=cO.s7;clear cO;have tO:=ot2;have tA:=tO.s5;clear tO;have r1:=set_same;have r2:=set_off;have r3:=set_blk;cases a
    all_goals
      go_wp2;go_ret2;exact ⟨w2.heap.size,.slice none 0 0,rfl,by omega,Own.new (w:=w2.setCell ⟨w.heap.size,6,none⟩ (.slice none 0 0)) (by simp [World.setCell]) [I x1,I x2,I x3,I x4,I x5,I x6,.slice none 0 0,.slice ta ts.length tcap,I f,I b,I d,I al] 149,Sl.nil _ _,Far.nil _ _ _,FarB.nil _ _ _,below_autor⟩
  · have hpos:0 < xs.length:=List.length_pos_iff.2 he
    obtain ⟨a',cap',rfl,hn,hl,h0,hr⟩:=h;obtain ⟨bk,off,rfl,hbl,hcl⟩:=hr.resolve_left (by omega);have hone:=debts_one xs;have Hl:=Lib.hid hl;have Hone:=Lib.hid hone;have hlen:xs.length≤281474976710656:=by omega
    clear h0 hl hcl hone hr;go_enter Tryz.func68,Tryz.ntmps68
    go_wp2_with fail
    refine (M.out _ (hS.below kB)).mono ?_;rintro e w1 ⟨rfl,k1⟩;have oc:=((Own.new (w:=w) rfl [I x1,I x2,I x3,I x4,I x5,I x6,.slice (some ⟨bk,off,none⟩) xs.length cap'] 64).alloc (.cells #[.slice ta ts.length tcap,I f,I b,I d,I al] 24)).below k1;have ot:=(Own.new (w:=w.alloc (.cells #[I x1,I x2,I x3,I x4,I x5,I x6,.slice (some ⟨bk,off,none⟩) xs.length cap'] 64)) (g:=w.heap.size+1) (by simp) [.slice ta ts.length tcap,I f,I b,I d,I al] 24).below k1;have cO:=oc;have cA:=cO.s7;clear cO;have tO:=ot;have tA:=tO.s5;clear tO;have k:=kB.trans (k1.mono kB.size);have hzw:w.heap.size+2≤w1.heap.size:=by have:=k1.size;simp at this;omega
    clear k1 kB
    go_wp2_with fail
    refine (C.out _ (tS.below k)).mono ?_;rintro e w2 ⟨rfl,k2⟩;have oc2:=oc.below k2;have ot2:=ot.below k2;have kk:=k.trans (k2.mono k.size);have hzw2:w.heap.size+2≤w2.heap.size:=by have:=k2.size;omega
    clear k2 k oc ot cA tA;have cO:=oc2;have cA:=cO.s7;clear cO;have tO:=ot2;have tA:=tO.s5;clear tO;have HN:=Lib.hid (Sl.news (hS.below kk));clear hS;have r1:=set_same;have r2:=set_off;have r3:=set_blk
    go_wp2_with
      (at_builtin
       refine wpList_append_lies _ rfl _ _ 62 rfl w2.heap.size 46 i0 (.agg #[.int .i64 0,.int .i64 0]) 2 16 Tryz.underlying62 hi hz0 hz1 hz2 rfl (by decide) (.slice none 0 0) 0 [] rfl (World.ownsRow_nil _ _ _ _) ⟨bk,off,none⟩ xs.length cap' (xs.flatMap ADebt.cells) rfl Hl.out HN.out Hone.out hpos (by unfold maxLen;omega) (by omega) (Nat.le_refl _) _ rfl ?_;intro g2 cap2 w3 hown2 hgrow2 hat2 hlt2;rw [Nat.zero_add,List.nil_append] at hown2;have k2:Below w2.heap.size w2 w3:=Below.grown (B:=w2.heap.size) (Below.refl _ _) hgrow2 (Nat.le_refl _) (fun j hj=>by cases hj);have kB:=kk.trans (k2.mono kk.size);have oc3:=oc2.below k2;have ot3:=ot2.below k2;clear cA tA;have cO:=oc3;have cA:=cO.s7;clear cO;have tO:=ot3;have tA:=tO.s5;clear tO;have hfA:Far w.heap.size (.slice (some ⟨g2,0,none⟩) xs.length cap2):=Far.lit (by rcases hat2 with h | h;(cases h);omega);have hge2:w.heap.size≤g2:=by rcases hat2 with h | h;(cases h);omega
       have HS:=Lib.hid (Sl.of_owns hown2 hlen);have hsz3:=kB.size;clear hat2 hgrow2 hown2 k2 kk)
    have hne2:g2≠w3.heap.size:=by omega
    go_wp2;go_ret2;exact ⟨w3.heap.size,.slice (some ⟨g2,0,none⟩) xs.length cap2,rfl,by omega,Own.new (w:=w3.setCell ⟨w.heap.size,6,none⟩ (.slice (some ⟨g2,0,none⟩) xs.length cap2)) (by simp [World.setCell]) [I x1,I x2,I x3,I x4,I x5,I x6,.slice (some ⟨g2,0,none⟩) xs.length cap2,.slice ta ts.length tcap,I f,I b,I d,I al] 149,(HS.out.set hfA _).below (boxed_below _ _),Far.lit hne2,FarB.lit hge2,below_autor⟩
end Go.Proofs.YtdjgcenjonegjaaGreat
namespace Go.Proofs.YtdjgcenjonegjaaGreat
set_option linter.unusedSimpArgs false
set_option linter.unusedVariables false
open Go
set_option maxRecDepth 20000

section
variable {P:Program} {ops:Array Oper} {Q:Exit→Act→World→Prop} {md:Region.Mode} {S:World→Prop} {c:Nat}

/-- whatever order is picked from here on; S holds behind every operation that comes up before number c -/
def AnyC (P : Program) (md : Region.Mode) (ops : Array Oper) (Q : Exit → Act → World → Prop) (c : Nat) (S : World → Prop) : Nat → Array Bool → Act → World → Prop
  | 0,listed,a,w=>Region.ready md ops listed=[]∧Q .normal a w
  | fuel+1,listed,a,w=>
    (Region.ready md ops listed=[]→Q .normal a w) ∧
    ∀ i∈Region.ready md ops listed,wpOp P ops Q i (fun a' w'=>(i≠c→listed.getD c true=false→S w')∧AnyC P md ops Q c S fuel (listed.setIfInBounds i true) a' w') a w

theorem AnyC.any:∀ (fuel:Nat) (listed:Array Bool) (a:Act) (w:World),AnyC P md ops Q c S fuel listed a w→wpAny P md ops Q fuel listed a w
  | 0,_,_,_,h=>h
  | fuel+1,_,_,_,h=>⟨h.1,fun i hi=>wpOp_mono (fun _ _ h'=>AnyC.any fuel _ _ _ h'.2) (h.2 i hi)⟩

/-- each of D waits for i, or for another of D -/
def waits (md:Region.Mode) (ops:Array Oper) (i:Nat) (D:List Nat):Bool:=
  D.all fun d=>match ops[d]? with | some o=>o.after.any (fun e=>Region.binds md e&&(e.on==i||D.contains e.on)) | none=>false
/-- those that wait for i -/
def behindL (md:Region.Mode) (ops:Array Oper) (i:Nat):List Nat:=
  (List.range ops.size).foldl (fun D d=>match ops[d]? with | some o=>if o.after.any (fun e=>Region.binds md e&&(e.on==i||D.contains e.on)) then D++[d] else D | none=>D) []

theorem waits_not {i j:Nat} {D:List Nat} {listed:Array Bool} (h:waits md ops i D=true) (hi:listed.getD i true=false) (hD:∀ d∈D,listed.getD d true=false)
    (hj:j∈Region.ready md ops listed):j∉D:=by
  intro hjD;have h1:=List.all_eq_true.1 h j hjD;obtain ⟨_,o,ho,hall⟩:=mem_ready.1 hj;rw [ho] at h1;have h1':o.after.any (fun e=>Region.binds md e&&(e.on==i||D.contains e.on))=true:=h1;rw [Array.any_eq_true'] at h1';obtain ⟨e,he,hb⟩:=h1';simp only [Bool.and_eq_true,Bool.or_eq_true,beq_iff_eq,List.contains_iff_mem] at hb;have h2:=hall e he hb.1
  have h3:listed.getD e.on true=false:=by
    rcases hb.2 with h4 | h4
    · rw [h4];exact hi
    · exact hD _ h4
  rcases Nat.lt_or_ge e.on listed.size with h' | h'
  · simp [h'] at h2 h3;rw [h3] at h2;cases h2
  · simp [Array.getElem?_eq_none h'] at h2

theorem AnyC.first {i : Nat} {oi : Oper} {v : Value} {D : List Nat} (hi : ops[i]? = some oi) (hsel : ∀ (j : Nat) (o : Oper) cs b, ops[j]? = some o → o.op ≠ .select cs b)
    (hQ:∀ c a w,Q (.panic c) (a.put oi.dst v) w→Q (.panic c) a w) (hW:waits md ops i D=true) (hc:c∈D):
    ∀ (fuel:Nat) (listed:Array Bool) (a:Act) (w:World),
      (∀ j oj,ops[j]?=some oj→j≠i→listed.getD j true=false→(∀ e∈oj.after,Region.binds md e=true→e.on≠i)→oi.apart ops oj=true) →
      (∀ d∈D,listed.getD d true=false) →
      i∈Region.ready md ops listed→YieldsIf P ops S oi v a→S w →
      AnyC P md ops Q c S fuel (listed.setIfInBounds i true) (a.put oi.dst v) w→AnyC P md ops Q c S (fuel+1) listed a w:=by
  intro fuel
  induction fuel with
  | zero=>
    intro listed a w _ _ hr hy hS H;refine ⟨fun h=>(by rw [h] at hr;cases hr),fun j hj=>?_⟩
    by_cases hji:j=i
    · subst hji;exact hy.wpOp hi hS ⟨fun _ _=>hS,H⟩
    · have:=ready_mono hj hji
      rw [H.1] at this;cases this
  | succ fuel ih=>
    intro listed a w hfree hD hr hy hS H;refine ⟨fun h=>(by rw [h] at hr;cases hr),fun j hj=>?_⟩
    have hil:=(mem_ready.1 hr).1
    by_cases hji:j=i
    · subst hji;exact hy.wpOp hi hS ⟨fun _ _=>hS,H⟩
    · have h1:=H.2 j (ready_mono hj hji)
      obtain ⟨hjun,oj,hoj,hall⟩:=mem_ready.1 hj;have hjD:=waits_not hW hil hD hj;have hiD:=waits_not hW hil hD hr
      have hnot:∀ e∈oj.after,Region.binds md e=true→e.on≠i:=fun e he hb heq=>by
        have h1:=hall e he hb;have h0:=(mem_ready.1 hr).1;rw [heq] at h1;rcases Nat.lt_or_ge i listed.size with h' | h'
        · simp [h'] at h0 h1;rw [h0] at h1;cases h1
        · simp [Array.getElem?_eq_none h'] at h1
      have h2:=wpOp_putIf hoj (hfree j oj hoj hji hjun hnot) (fun cs b=>hsel i oi cs b hi) (fun cs b=>hsel j oj cs b hoj) hQ hy h1
      have hfree':∀ k ok,ops[k]?=some ok→k≠i→(listed.setIfInBounds j true).getD k true=false →
          (∀ e∈ok.after,Region.binds md e=true→e.on≠i)→oi.apart ops ok=true:=fun k ok hk hki hun hno=>by
        refine hfree k ok hk hki ?_ hno
        by_cases hjk:j=k
        · subst hjk;exact hjun
        · rw [Go.getD_set_ne true hjk] at hun;exact hun
      have hD':∀ d∈D,(listed.setIfInBounds j true).getD d true=false:=fun d hd=>by
        rw [Go.getD_set_ne true (show j≠d from fun e=>hjD (by rw [e];exact hd))];exact hD d hd
      have hcl:(listed.setIfInBounds i true).getD c true=false:=by
        rw [Go.getD_set_ne true (show i≠c from fun e=>hiD (by rw [e];exact hc))];exact hD c hc
      refine wpOp_mono (fun a' w' h3=>?_) h2;have hS':S w':=h3.2.1 (fun e=>hjD (by rw [e];exact hc)) hcl;refine ⟨fun _ _=>hS',ih (listed.setIfInBounds j true) a' w' hfree' hD' (ready_mono hr (Ne.symm hji)) h3.1 hS' ?_⟩;rw [Array.setIfInBounds_comm _ _ hji];exact h3.2.2

theorem AnyC.take {i:Nat} {oi:Oper} {v:Value} {fuel:Nat} {listed:Array Bool} {a:Act} {w:World} (hi:ops[i]?=some oi)
    (hs:Region.noSelect ops=true) (hf:Region.free md ops listed i=true) (hr:(Region.ready md ops listed).contains i=true)
    (hW:(waits md ops i (behindL md ops i)&&(behindL md ops i).contains c&&(behindL md ops i).all (fun d=>!listed.getD d true))=true)
    (hQ:∀ c a w,Q (.panic c) (a.put oi.dst v) w→Q (.panic c) a w) (hy:YieldsIf P ops S oi v a) (hS:S w)
    (h:AnyC P md ops Q c S fuel (listed.setIfInBounds i true) (a.put oi.dst v) w):AnyC P md ops Q c S (fuel+1) listed a w:=by
  simp only [Bool.and_eq_true,List.contains_iff_mem] at hW;refine AnyC.first hi (Region.noSelect_spec hs) hQ hW.1.1 hW.1.2 fuel listed a w (Region.free_spec hi hf) (fun d hd=>?_) (by simpa using hr) hy hS h;have:=List.all_eq_true.1 hW.2 d hd;simpa using this

/-- one alone may come up, and it is not c: behind it S is shown -/
theorem AnyC.one {i:Nat} {o:Oper} {fuel:Nat} {listed:Array Bool} {a:Act} {w:World} (hr:Region.ready md ops listed=[i]) (ho:ops[i]?=some o)
    (h:∀ K':Act→World→Prop,Shut (∀ a w,(i≠c→listed.getD c true=false→S w)→(AnyC P md ops Q c S fuel (listed.setIfInBounds i true) a w)→K' a w)→if Region.wanted o (yielded ops a.tmps)=true then Oper.wp P o a w K' Q else K' (a.put o.dst undef) w):
    AnyC P md ops Q c S (fuel+1) listed a w:=by
  refine ⟨fun h0=>(by rw [hr] at h0;cases h0),fun j hj=>?_⟩
  rw [hr] at hj;obtain rfl:=List.mem_singleton.1 hj;exact wpOp_step ho (fun K' hK=>h K' (fun a w hS hW=>hK a w ⟨hS,hW⟩))

theorem AnyC.done {listed:Array Bool} {a:Act} {w:World} (hr:Region.ready md ops listed=[]) (h:Q .normal a w):
    ∀ fuel,AnyC P md ops Q c S fuel listed a w
  | 0=>⟨hr,h⟩
  | _+1=>⟨fun _=>h,by rw [hr];simp⟩

theorem AnyC.begin {id:Nat} {a:Act} {w:World} (c:Nat) (S:World→Prop) (hm:P.follows .mixedOrders=true)
    (h:AnyC P .any ops Q c S ops.size (Array.replicate ops.size false) a w.drew):(Code.region id ops true).wp P Q a w:=
  wp_region_any hm (AnyC.any _ _ _ _ h)
end


section
variable {P:Program} {ops:Array Oper} {Q:Exit→Act→World→Prop} {md:Region.Mode} {S:World→Prop} {c:Nat}
theorem AnyC.two {i j:Nat} {o o':Oper} {fuel:Nat} {listed:Array Bool} {a:Act} {w:World} (hr:Region.ready md ops listed=[i,j]) (ho:ops[i]?=some o) (ho':ops[j]?=some o')
    (h:∀ K':Act→World→Prop,Shut (∀ a w,(i≠c→listed.getD c true=false→S w)→(AnyC P md ops Q c S fuel (listed.setIfInBounds i true) a w)→K' a w)→if Region.wanted o (yielded ops a.tmps)=true then Oper.wp P o a w K' Q else K' (a.put o.dst undef) w)
    (h':∀ K':Act→World→Prop,Shut (∀ a w,(j≠c→listed.getD c true=false→S w)→(AnyC P md ops Q c S fuel (listed.setIfInBounds j true) a w)→K' a w)→if Region.wanted o' (yielded ops a.tmps)=true then Oper.wp P o' a w K' Q else K' (a.put o'.dst undef) w):
    AnyC P md ops Q c S (fuel+1) listed a w:=by
  refine ⟨fun h0=>(by rw [hr] at h0;cases h0),fun k hk=>?_⟩
  rw [hr] at hk;rcases List.mem_cons.1 hk with rfl | hk
  · exact wpOp_step ho (fun K' hK=>h K' (fun a w hS hW=>hK a w ⟨hS,hW⟩))
  · obtain rfl:=List.mem_singleton.1 hk
    exact wpOp_step ho' (fun K' hK=>h' K' (fun a w hS hW=>hK a w ⟨hS,hW⟩))
end


section
variable {P:Program} {ops:Array Oper} {Q:Exit→Act→World→Prop} {md:Region.Mode} {S:World→Prop} {c:Nat}
theorem AnyC.three {i j l:Nat} {o o' o'':Oper} {fuel:Nat} {listed:Array Bool} {a:Act} {w:World} (hr:Region.ready md ops listed=[i,j,l]) (ho:ops[i]?=some o) (ho':ops[j]?=some o') (ho'':ops[l]?=some o'')
    (h:∀ K':Act→World→Prop,Shut (∀ a w,(i≠c→listed.getD c true=false→S w)→(AnyC P md ops Q c S fuel (listed.setIfInBounds i true) a w)→K' a w)→if Region.wanted o (yielded ops a.tmps)=true then Oper.wp P o a w K' Q else K' (a.put o.dst undef) w)
    (h':∀ K':Act→World→Prop,Shut (∀ a w,(j≠c→listed.getD c true=false→S w)→(AnyC P md ops Q c S fuel (listed.setIfInBounds j true) a w)→K' a w)→if Region.wanted o' (yielded ops a.tmps)=true then Oper.wp P o' a w K' Q else K' (a.put o'.dst undef) w)
    (h'':∀ K':Act→World→Prop,Shut (∀ a w,(l≠c→listed.getD c true=false→S w)→(AnyC P md ops Q c S fuel (listed.setIfInBounds l true) a w)→K' a w)→if Region.wanted o'' (yielded ops a.tmps)=true then Oper.wp P o'' a w K' Q else K' (a.put o''.dst undef) w):
    AnyC P md ops Q c S (fuel+1) listed a w:=by
  refine ⟨fun h0=>(by rw [hr] at h0;cases h0),fun k hk=>?_⟩
  rw [hr] at hk;rcases List.mem_cons.1 hk with rfl | hk
  · exact wpOp_step ho (fun K' hK=>h K' (fun a w hS hW=>hK a w ⟨hS,hW⟩))
  · rcases List.mem_cons.1 hk with rfl | hk
    · exact wpOp_step ho' (fun K' hK=>h' K' (fun a w hS hW=>hK a w ⟨hS,hW⟩))
    · obtain rfl:=List.mem_singleton.1 hk
      exact wpOp_step ho'' (fun K' hK=>h'' K' (fun a w hS hW=>hK a w ⟨hS,hW⟩))
end

section
variable {P:Program} {ops:Array Oper} {Q:Exit→Act→World→Prop} {md:Region.Mode} {S:World→Prop} {c:Nat}
theorem AnyC.pures {i : Nat} {oi : Oper} {v : Value} (hi : ops[i]? = some oi) (hic : i ≠ c) (hsel : ∀ (j : Nat) (o : Oper) cs b, ops[j]? = some o → o.op ≠ .select cs b)
    (hQ:∀ c a w,Q (.panic c) (a.put oi.dst v) w→Q (.panic c) a w):
    ∀ (fuel:Nat) (listed:Array Bool) (a:Act) (w:World),
      (∀ j oj,ops[j]?=some oj→j≠i→listed.getD j true=false→(∀ e∈oj.after,Region.binds md e=true→e.on≠i)→oi.apart ops oj=true) →
      i∈Region.ready md ops listed→Yields P ops oi v a→(listed.getD c true=false→S w) →
      AnyC P md ops Q c S fuel (listed.setIfInBounds i true) (a.put oi.dst v) w→AnyC P md ops Q c S (fuel+1) listed a w:=by
  intro fuel
  induction fuel with
  | zero=>
    intro listed a w _ hr hy hS H;refine ⟨fun h=>(by rw [h] at hr;cases hr),fun j hj=>?_⟩
    by_cases hji:j=i
    · subst hji;exact hy.wpOp hi ⟨fun _ h=>hS h,H⟩
    · have:=ready_mono hj hji
      rw [H.1] at this;cases this
  | succ fuel ih=>
    intro listed a w hfree hr hy hS H;refine ⟨fun h=>(by rw [h] at hr;cases hr),fun j hj=>?_⟩
    by_cases hji:j=i
    · subst hji;exact hy.wpOp hi ⟨fun _ h=>hS h,H⟩
    · have h1:=H.2 j (ready_mono hj hji)
      obtain ⟨hjun,oj,hoj,hall⟩:=mem_ready.1 hj
      have hnot:∀ e∈oj.after,Region.binds md e=true→e.on≠i:=fun e he hb heq=>by
        have h1:=hall e he hb;have h0:=(mem_ready.1 hr).1;rw [heq] at h1;rcases Nat.lt_or_ge i listed.size with h' | h'
        · simp [h'] at h0 h1;rw [h0] at h1;cases h1
        · simp [Array.getElem?_eq_none h'] at h1
      have h2:=wpOp_put hoj (hfree j oj hoj hji hjun hnot) (fun cs b=>hsel i oi cs b hi) (fun cs b=>hsel j oj cs b hoj) hQ hy h1
      have hfree':∀ k ok,ops[k]?=some ok→k≠i→(listed.setIfInBounds j true).getD k true=false →
          (∀ e∈ok.after,Region.binds md e=true→e.on≠i)→oi.apart ops ok=true:=fun k ok hk hki hun hno=>by
        refine hfree k ok hk hki ?_ hno
        by_cases hjk:j=k
        · subst hjk;exact hjun
        · rw [Go.getD_set_ne true hjk] at hun;exact hun
      refine wpOp_mono (fun a' w' h3=>?_) h2;have hS':j≠c→listed.getD c true=false→S w':=fun hjc hl=>h3.2.1 hjc (by rw [Go.getD_set_ne true hic];exact hl);refine ⟨hS',ih (listed.setIfInBounds j true) a' w' hfree' (ready_mono hr (Ne.symm hji)) h3.1 (fun hl=>?_) ?_⟩
      · by_cases hjc:j=c
        · subst hjc
          rcases Nat.lt_or_ge j listed.size with h' | h'
          · simp [h'] at hl
          · simp [Array.getElem?_eq_none h'] at hl
        · exact hS' hjc (by rwa [Go.getD_set_ne true hjc] at hl)
      · rw [Array.setIfInBounds_comm _ _ hji]
        exact h3.2.2
theorem AnyC.pure {i:Nat} {oi:Oper} {v:Value} {fuel:Nat} {listed:Array Bool} {a:Act} {w:World} (hi:ops[i]?=some oi) (hic:i≠c)
    (hs:Region.noSelect ops=true) (hf:Region.free md ops listed i=true) (hr:(Region.ready md ops listed).contains i=true)
    (hQ:∀ c a w,Q (.panic c) (a.put oi.dst v) w→Q (.panic c) a w) (hy:Yields P ops oi v a) (hS:listed.getD c true=false→S w)
    (h:AnyC P md ops Q c S fuel (listed.setIfInBounds i true) (a.put oi.dst v) w):AnyC P md ops Q c S (fuel+1) listed a w:=
  AnyC.pures hi hic (Region.noSelect_spec hs) hQ fuel listed a w (Region.free_spec hi hf) (by simpa using hr) hy hS h
/-- take and pure, their side conditions as default arguments -/
theorem AnyC.tk {oi:Oper} {fuel:Nat} {listed:Array Bool} {a:Act} {w:World} (i:Nat) (v:Value) (hS:S w) (hy:∀ w,S w→(execOp a.eval oi).run P w=.ok (.value v) w)
    (h:AnyC P md ops Q c S fuel (listed.setIfInBounds i true) (a.put oi.dst v) w) (hi:ops[i]?=some oi:=by rfl) (hs:Region.noSelect ops=true:=by kernel_rfl) (hf:Region.free md ops listed i=true:=by kernel_rfl)
    (hr:(Region.ready md ops listed).contains i=true:=by kernel_rfl) (hW:(waits md ops i (behindL md ops i)&&(behindL md ops i).contains c&&(behindL md ops i).all (fun d=>!listed.getD d true))=true:=by kernel_rfl)
    (hQ:∀ c a w,Q (.panic c) (a.put oi.dst v) w→Q (.panic c) a w:=by exact fun _ _ _ h=>h) (hw:Region.wanted oi (yielded ops a.tmps)=true:=by rfl):AnyC P md ops Q c S (fuel+1) listed a w:=
  AnyC.take hi hs hf hr hW hQ (Or.inl ⟨hw,hy⟩) hS h
theorem AnyC.pu {oi:Oper} {fuel:Nat} {listed:Array Bool} {a:Act} {w:World} (i:Nat) (v:Value) (hy:∀ w,(execOp a.eval oi).run P w=.ok (.value v) w)
    (h:AnyC P md ops Q c S fuel (listed.setIfInBounds i true) (a.put oi.dst v) w) (hi:ops[i]?=some oi:=by rfl) (hic:i≠c:=by decide) (hs:Region.noSelect ops=true:=by kernel_rfl) (hf:Region.free md ops listed i=true:=by kernel_rfl)
    (hr:(Region.ready md ops listed).contains i=true:=by kernel_rfl) (hQ:∀ c a w,Q (.panic c) (a.put oi.dst v) w→Q (.panic c) a w:=by exact fun _ _ _ h=>h) (hw:Region.wanted oi (yielded ops a.tmps)=true:=by rfl)
    (hS:listed.getD c true=false→S w:=by exact fun h=>absurd h (by decide)):AnyC P md ops Q c S (fuel+1) listed a w:=
  AnyC.pure hi hic hs hf hr hQ (Or.inl ⟨hw,hy⟩) hS h
end

end Go.Proofs.YtdjgcenjonegjaaGreat
