/- (*book.keeper).keep: every event · book.Of's deferred closure · book.Of -/
import Derived.Test.YtdjgcenjonegjaaGreatPk27
import Derived.Test.YtdjgcenjonegjaaGreatPk32
import Derived.Test.YtdjgcenjonegjaaGreatPk02
import Derived.Test.YtdjgcenjonegjaaGreatPk23
import Derived.Test.YtdjgcenjonegjaaGreatPk08
set_option maxRecDepth 20000
set_option maxHeartbeats 8000000
set_option linter.unusedSimpArgs false
set_option linter.unusedVariables false
namespace Go.Proofs.YtdjgcenjonegjaaGreat
section
open Go Go.RowKit
theorem keep_any (t : PTerms) (tv : Value) (A B kb mb : Nat) (cs : List PCust) (v : AEvent) (w : World) (hme : I64 v.meter) (hS : KState w B kb mb t tv cs) (tS : Sl w tv 2 t.ts.length (t.ts.flatMap AStep.cells))
    (hBw:B≤w.heap.size) (hkb:kb < B) (hmb:mb < B) (hne:mb≠kb) (hA1:A≤kb) (hA2:A≤mb) (hlen:cs.length≤200) (hsold:∀ c∈cs,c.sold.length≤1000):
    Calls Tryz.prog 80 #[.pointer (some ⟨kb,0,none⟩),v.v] w (KeepP A B kb mb t tv cs v w):=by
  obtain ⟨bv,ys,oK,oM,hB⟩:=hS
  by_cases hm:v.may=true
  · have hkind:=may_kind hm
    obtain ⟨ki,me,mo,⟨id,te,de,fe,pr,ch,un⟩,ta,⟨ow,bp⟩⟩:=v;have hm':evMay ki me mo id te de fe pr ch un ta ow bp=true:=hm;simp only at hkind hme
    by_cases hk:ki=1
    · subst hk
      by_cases ha:0≤idxOf cs me
      · exact keep_twice t tv bv A B kb mb cs ys me mo id te de fe pr ch un ta ow bp w hm' hme oK oM hB ha
      · obtain ⟨va,vc,rfl⟩:=book_slice hB
        exact keep_new t tv va vc A B kb mb cs ys me mo id te de fe pr ch un ta ow bp w hm' hme oK oM hB ha hBw hkb hmb hne hA1 hA2 hlen
    · by_cases ha:0≤idxOf cs me
      · by_cases h5:ki=5
        · subst h5
          exact keep_charge t tv bv A B kb mb cs ys me mo id te de fe pr ch un ta ow bp w hm' hme oK oM hB ha hBw hkb hmb (by omega)
        · exact keep_sell t tv bv A B kb mb cs ys ki me mo id te de fe pr ch un ta ow bp w hm' hme (by omega) oK oM hB ha tS hBw hkb hmb (by omega) hsold
      · exact keep_none t tv bv A B kb mb cs ys ki me mo id te de fe pr ch un ta ow bp w hm' hme hk oK oM hB ha
  · exact keep_no t tv A B kb mb cs v w (by simpa using hm)
end
section
open Go Go.RowKit

def OfP (g gv:Nat) (k:Int) (u:FrameMode) (w:World) (e:Ending) (u':FrameMode) (w':World):Prop:=
  e=.returned (.tuple #[])∧u'=u∧∃ w1,Below w.heap.size w w1∧w'=if k=0 then w1.setCell ⟨g,0,none⟩ (I k) else (w1.setCell ⟨g,0,none⟩ (I k)).setCell ⟨gv,0,none⟩ (.slice none 0 0)
theorem of_pan (g gv:Nat) (x k:Int) (bv:Value) (older:List PanicEntry) (w:World) (hk:k≠0) (hgv:gv≠g) (hv:Own w gv [bv]) (hg:g < w.heap.size) (hc:w.cell? ⟨g,0,none⟩=some (I x)) (hz:w.frozen? ⟨g,0,none⟩=false):
    CallsD Tryz.prog 79 #[.pointer (some ⟨g,0,none⟩),.pointer (some ⟨gv,0,none⟩)] (.panicking ({ v:=refV k,recovered:=false }::older)) w (OfP g gv k (.panicking ({ v:=refV k,recovered:=true }::older)) w):=by
  refine callsD_of_wpS Tryz.func79 rfl fun c₀ cs hu=>?_
  have C:=Lib.hid (fun W=>caught_ref k x W);apply wpS_seq;refine wpS_draw [[0,1,2,3],[1,0,2,3]] (by kernel_rfl) (by kernel_rfl) fun l hl=>?_
  simp only [List.mem_cons,List.not_mem_nil,or_false] at hl;rcases hl with rfl | rfl
  all_goals
    simp [wpOpsS,go_sem,recoverD,hu,Tryz.ntmps79,hc,hz];refine (C.out _).mono ?_;rintro e w1 ⟨rfl,k1⟩;have kk:Below w.heap.size w w1:=(drewN_below (Below.refl _ w) 1).trans k1;have c1:=(kk.cell (p:=⟨g,0,none⟩) hg).trans hc;have f1:=(kk.frozen (p:=⟨g,0,none⟩) hg).trans hz;simp [go_sem,c1,f1,bodyPostS,results,Tryz.results79,Exit.thenS]
  all_goals
    refine wpS_of_wp ?_;have vO:=hv.below kk;have vA:=vO.s1;clear vO;have r1:=set_same;have r2:=set_off;have r3:=set_blk;have n1:¬ g=gv:=by omega
    have n2:¬ gv=g:=by omega
    simp only [List.size_toArray,List.length_cons,List.length_nil,Array.replicate_succ,Array.replicate_zero,List.push_toArray,List.append_toArray,List.nil_append,List.cons_append,List.setIfInBounds_toArray,List.set_cons_zero,List.set_cons_succ];clear hc hz k1 hv;have hb:(k != 0)=true:=by simp [hk]
    go_wp2;exact ⟨rfl,_,rfl,_,results_none rfl _ _ _,rfl,rfl,w1,kk,by rw [if_neg hk]⟩
theorem of_idle (g gv:Nat) (bv:Value) (w:World) (hgv:gv≠g) (hv:Own w gv [bv]) (hg:g < w.heap.size) (hc:w.cell? ⟨g,0,none⟩=some (I 0)) (hz:w.frozen? ⟨g,0,none⟩=false):
    CallsD Tryz.prog 79 #[.pointer (some ⟨g,0,none⟩),.pointer (some ⟨gv,0,none⟩)] .returning w (OfP g gv 0 .returning w):=by
  refine callsD_of_wpS Tryz.func79 rfl fun c₀ cs hu=>?_
  have C:=Lib.hid (fun W=>caught_nil 0 W);apply wpS_seq;refine wpS_draw [[0,1,2,3],[1,0,2,3]] (by kernel_rfl) (by kernel_rfl) fun l hl=>?_
  simp only [List.mem_cons,List.not_mem_nil,or_false] at hl;rcases hl with rfl | rfl
  all_goals
    simp [wpOpsS,go_sem,recoverD,hu,Tryz.ntmps79,hc,hz];refine (C.out _).mono ?_;rintro e w1 ⟨rfl,k1⟩;have kk:Below w.heap.size w w1:=(drewN_below (Below.refl _ w) 1).trans k1;have c1:=(kk.cell (p:=⟨g,0,none⟩) hg).trans hc;have f1:=(kk.frozen (p:=⟨g,0,none⟩) hg).trans hz;simp [go_sem,c1,f1,bodyPostS,results,Tryz.results79,Exit.thenS]
  all_goals
    refine wpS_of_wp ?_;have vO:=hv.below kk;have vA:=vO.s1;clear vO;have r1:=set_same;have r2:=set_off;have r3:=set_blk;have n1:¬ g=gv:=by omega
    have n2:¬ gv=g:=by omega
    simp only [List.size_toArray,List.length_cons,List.length_nil,Array.replicate_succ,Array.replicate_zero,List.push_toArray,List.append_toArray,List.nil_append,List.cons_append,List.setIfInBounds_toArray,List.set_cons_zero,List.set_cons_succ];clear hc hz k1 hv;go_wp2;exact ⟨rfl,.returning,(by cases c₀;simp_all),_,results_none rfl _ _ _,rfl,rfl,w1,kk,by rw [if_pos rfl]⟩
end
section
open Go Go.RowKit
/-- the loop over the events: M the size behind the first call -/
def ORel (w:World) (M:Nat) (t:PTerms) (tv:Value) (l:List AEvent) (k:Nat) (wr:World):Prop:=
  ∃ cs,cs.length≤k∧(∀ c∈cs,c.sold.length≤k)∧KState wr (M+2) (M+1) M t tv cs∧Own wr (w.heap.size+1) [.slice none 0 0]∧Own wr (w.heap.size+2) [I 0]∧Below w.heap.size w wr∧M+2≤wr.heap.size∧runB t cs (l.drop k) k=bookR t l
theorem Of_bad (t:PTerms) (tv lv:Value) (l:List AEvent) (w:World) (tS:Sl w tv 2 t.ts.length (t.ts.flatMap AStep.cells)) (hE0:t.E≠0):
    Calls Tryz.prog 40 #[t.v tv,lv] w (BookP t l w):=by
  have hR:=Lib.hid (bookR_terms (t:=t) (l:=l) hE0);obtain ⟨ts,f,b,d,al⟩:=t;have F:=Lib.hid (fun W (hW:Sl W tv 2 ts.length (ts.flatMap AStep.cells))=>CheckTerms_any tv ts f b d al W hW);simp only [PTerms.E] at hR hE0;generalize termsE ts f b d al=E at *;have hE':(E != 0)=true:=by simp [hE0]
  obtain ⟨kB,oT,oB,oE⟩:=boxes3 w [tv,I f,I b,I d,I al] 24 [.slice none 0 0] 76 [I 0] 27;have HT:=Lib.hid oT;have HB:=Lib.hid oB;have HE:=Lib.hid oE;have HK:=Lib.hid kB;have TS:=Lib.hid tS;have tO:=oT;have tA:=tO.s5;clear tO;clear oT oB oE kB
  go_enter_defers Tryz.func40,Tryz.ntmps40
  go_wp2_with fail
  refine (F.out _ (TS.out.below HK.out)).mono ?_;rintro e w1 ⟨rfl,k1⟩;have oT1:=HT.out.below k1;have oB1:=HB.out.below k1;have oE1:=HE.out.below k1;have kw:=HK.out.trans (k1.mono HK.out.size);have bO:=oB1;have bfA:=bO.f;have b0:=bO.c0;clear bO;have cO:=oE1;have cf0:=cO.f 0;have c0:=cO.c0;clear cO;have OB:=Lib.hid oB1;have OE:=Lib.hid oE1;have r1:=set_same;have r2:=set_off;have r3:=set_blk;clear k1 tA oT1 oB1 oE1 hE0 HT HB HE HK TS F;go_wp2;have oB2:=(OB.out.set 0 (.slice none 0 0)).other (a:=⟨w.heap.size+1+1,0,none⟩) (by simp) (I E);have oE2:=(OE.out.other (a:=⟨w.heap.size+1,0,none⟩) (by simp) (.slice none 0 0)).set 0 (I E);have kk:=(kw.setCell (p:=⟨w.heap.size+1,0,none⟩) (by simp) (.slice none 0 0)).setCell (p:=⟨w.heap.size+1+1,0,none⟩) (by simp;omega) (I E);clear b0 bfA c0 cf0 r1 r2 r3;generalize (w1.setCell ⟨w.heap.size+1,0,none⟩ (.slice none 0 0)).setCell ⟨w.heap.size+1+1,0,none⟩ (I E)=w9 at *;have bO:=oB2;have bfA:=bO.f;have b0:=bO.c0;clear bO;have cO:=oE2;have cf0:=cO.f 0;have c0:=cO.c0;clear cO;(try simp only [List.set_cons_zero] at b0 c0);simp [bodyPostD,Leaves,settle,results,Tryz.results40,go_sem,b0,c0];exact BookP.bad hR.out kk
theorem Of_size (t:PTerms) (tv:Value) (la:Option Addr) (lcap:Nat) (l:List AEvent) (w:World) (tS:Sl w tv 2 t.ts.length (t.ts.flatMap AStep.cells)) (hE0:t.E=0) (h120:120 < l.length):
    Calls Tryz.prog 40 #[t.v tv,.slice la l.length lcap] w (BookP t l w):=by
  have hR:=Lib.hid (bookR_size (t:=t) (l:=l) hE0 h120);obtain ⟨ts,f,b,d,al⟩:=t;have F:=Lib.hid (fun W (hW:Sl W tv 2 ts.length (ts.flatMap AStep.cells))=>CheckTerms_any tv ts f b d al W hW);simp only [PTerms.E] at hE0;rw [hE0] at F;have h120i:(120:Int) < (l.length:Int):=by omega
  clear hE0 h120;obtain ⟨kB,oT,oB,oE⟩:=boxes3 w [tv,I f,I b,I d,I al] 24 [.slice none 0 0] 76 [I 0] 27;have HT:=Lib.hid oT;have HB:=Lib.hid oB;have HE:=Lib.hid oE;have HK:=Lib.hid kB;have TS:=Lib.hid tS;have tO:=oT;have tA:=tO.s5;clear tO;clear oT oB oE kB
  go_enter_defers Tryz.func40,Tryz.ntmps40
  go_wp2_with fail
  refine (F.out _ (TS.out.below HK.out)).mono ?_;rintro e w1 ⟨rfl,k1⟩;have oT1:=HT.out.below k1;have oB1:=HB.out.below k1;have oE1:=HE.out.below k1;have kw:=HK.out.trans (k1.mono HK.out.size);have bO:=oB1;have bfA:=bO.f;have b0:=bO.c0;clear bO;have cO:=oE1;have cf0:=cO.f 0;have c0:=cO.c0;clear cO;have OB:=Lib.hid oB1;have OE:=Lib.hid oE1;have r1:=set_same;have r2:=set_off;have r3:=set_blk;clear k1 tA oT1 oB1 oE1 HT HB HE HK TS F;go_wp2;have oB2:=(OB.out.set 0 (.slice none 0 0)).other (a:=⟨w.heap.size+1+1,0,none⟩) (by simp) (I 1);have oE2:=(OE.out.other (a:=⟨w.heap.size+1,0,none⟩) (by simp) (.slice none 0 0)).set 0 (I 1);have kk:=(kw.setCell (p:=⟨w.heap.size+1,0,none⟩) (by simp) (.slice none 0 0)).setCell (p:=⟨w.heap.size+1+1,0,none⟩) (by simp;omega) (I 1);clear b0 bfA c0 cf0 r1 r2 r3;generalize (w1.setCell ⟨w.heap.size+1,0,none⟩ (.slice none 0 0)).setCell ⟨w.heap.size+1+1,0,none⟩ (I 1)=w9 at *;have bO:=oB2;have bfA:=bO.f;have b0:=bO.c0;clear bO;have cO:=oE2;have cf0:=cO.f 0;have c0:=cO.c0;clear cO;(try simp only [List.set_cons_zero] at b0 c0);simp [bodyPostD,Leaves,settle,results,Tryz.results40,go_sem,b0,c0];exact BookP.bad (k:=0) hR.out kk
theorem Of_loop (t : PTerms) (tv : Value) (la : Option Addr) (lcap : Nat) (l : List AEvent) (w : World) (h120 : l.length ≤ 120) (tS : Sl w tv 2 t.ts.length (t.ts.flatMap AStep.cells))
    (hlr:l.length=0∨∃ b off,la=some ⟨b,off,none⟩∧b < w.heap.size∧∀ j,j < (l.flatMap AEvent.cells).length→w.cell? ⟨b,off+j,none⟩=some ((l.flatMap AEvent.cells).getD j undef)) (hI0:∀ v∈l,I64 v.meter) (hE0:t.E=0):
    Calls Tryz.prog 40 #[.agg #[tv,I t.f,I t.b,I t.d,I t.al],.slice la l.length lcap] w (BookP t l w):=by
  have HR0:=Lib.hid (bookR_run hE0 (show ¬ 120 < l.length by omega));have F:=Lib.hid (fun W (hW:Sl W tv 2 t.ts.length (t.ts.flatMap AStep.cells))=>CheckTerms_any tv t.ts t.f t.b t.d t.al W hW);have KP:=Lib.hid (fun (M B:Nat) (cs:List PCust) (v:AEvent) (W:World) h1 h2 h3 h4 h5 h6 h7 h8 h9 h10 h11=>keep_any t tv M B (M+1) M cs v W h1 h2 h3 h4 h5 h6 h7 h8 h9 h10 h11);unfold PTerms.E at hE0;rw [hE0] at F;have HI:=Lib.hid hI0;have hmm:=@run_makeMap Tryz.prog;have h120i:¬ (120:Int) < (l.length:Int):=by omega
  have hmf:∀ (fn:Fn) (first cap:Array Value) (w:World),(Instr.makeFunc fn first cap).run Tryz.prog w=.ok (.func fn first cap) w:=fun _ _ _ _=>rfl;clear hE0 hI0;obtain ⟨kB,oT,oB,oE⟩:=boxes3 w [tv,I t.f,I t.b,I t.d,I t.al] 24 [.slice none 0 0] 76 [I 0] 27;have HT:=Lib.hid oT;have HB:=Lib.hid oB;have HE:=Lib.hid oE;have HK:=Lib.hid kB;have TS:=Lib.hid tS;have tO:=oT;have tA:=tO.s5;clear tO;clear oT oB oE kB tS
  go_enter_defers Tryz.func40,Tryz.ntmps40
  go_wp2_with fail
  refine (F.out _ (TS.out.below HK.out)).mono ?_;rintro e w1 ⟨rfl,k1⟩;have oT1:=HT.out.below k1;have oB1:=HB.out.below k1;have oE1:=HE.out.below k1;have kw:=HK.out.trans (k1.mono HK.out.size);have hs1:w.heap.size+3≤w1.heap.size:=by have:=k1.size;simp at this;omega
  have km:=boxed_below w1 (.map #[] 0);have kk:=km.alloc km.size (.cells #[.slice none 0 0,tv,I t.f,I t.b,I t.d,I t.al,.map (some w1.heap.size)] 163)
  have hK0:Hid (KState ((w1.alloc (.map #[] 0)).alloc (.cells #[.slice none 0 0,tv,I t.f,I t.b,I t.d,I t.al,.map (some w1.heap.size)] 163)) (w1.heap.size+2) (w1.heap.size+1) w1.heap.size t tv []):=
    ⟨_,[],Own.new (by simp) _ _,(OwnIdx.new w1).below (boxed_below _ _),BookAt.nil _ _⟩
  have hD0:Hid (ORel w w1.heap.size t tv l 0 ((w1.alloc (.map #[] 0)).alloc (.cells #[.slice none 0 0,tv,I t.f,I t.b,I t.d,I t.al,.map (some w1.heap.size)] 163))):=
    ⟨[],Nat.le_refl _,fun c hc=>absurd hc (by simp),hK0.out,oB1.below kk,oE1.below kk,kw.trans (kk.mono kw.size),by simp,by rw [List.drop_zero];exact HR0.out.symm⟩
  have KW1:=Lib.hid kw;have tO:=oT1;have tA:=tO.s5;clear tO;clear hK0 kk km kw oB1 oE1 oT1 k1 HT HB HE HK F HR0;generalize hM:w1.heap.size=M at *;go_wp2;clear tA
  go_loopw [5,9,10,28] (fun _ _ _ i wr=>∃ k:Nat,k≤l.length∧i=I k∧Hid (ORel w M t tv l k wr)) (fun _ _ _ i _=>l.length-(intOf i).toNat)
  case atStart=>exact ⟨0,Nat.zero_le _,rfl,hD0⟩
  case round=>
    obtain ⟨k,hk,rfl,hD⟩:=hrel;obtain ⟨cs,c1,c2,hKS,oB,oE,kw,hsz,hrun⟩:=hD.out;clear hD0 hD
    by_cases hlt:k < l.length
    · obtain ⟨b,off,rfl,hb,hcell⟩:=hlr.resolve_left (by omega)
      have hx:=elEv hb hcell kw k hlt;have hrun':=hrun;rw [drop_at hlt] at hrun';have hI:=HI.out _ (getD_mem (α:=AEvent) hlt);generalize l.getD k default=v at *;obtain ⟨ki,me,mo,⟨id,te,de,fe,pr,ch,un⟩,ta,⟨ow,bp⟩⟩:=v;have hx0:=hx 0 (by decide);have hx1:=hx 1 (by decide);have hx2:=hx 2 (by decide);have hx3:=hx 3 (by decide);have hx4:=hx 4 (by decide);have hx5:=hx 5 (by decide);have hx6:=hx 6 (by decide);have hx7:=hx 7 (by decide);have hx8:=hx 8 (by decide);have hx9:=hx 9 (by decide);have hx10:=hx 10 (by decide);have hx11:=hx 11 (by decide);have hx12:=hx 12 (by decide);simp only [AEvent.cells,List.getD_cons_zero,List.getD_cons_succ,Nat.add_zero] at hx0 hx1 hx2 hx3 hx4 hx5 hx6 hx7 hx8 hx9 hx10 hx11 hx12;clear hx hcell;have hi0:(0:Int)≤(k:Int):=by omega
      have hi1:(k:Int) < (l.length:Int):=by omega
      have kv:=boxed_below wr (.cells #[I ki,I me,I mo,I id,I te,I de,I fe,I pr,I ch,I un,I ta,I ow,I bp] 48);have oV:=Own.new (w:=wr) rfl [I ki,I me,I mo,I id,I te,I de,I fe,I pr,I ch,I un,I ta,I ow,I bp] 48;obtain ⟨bv,ys,q1,q2,q3⟩:=hKS;have hKS2:KState (wr.alloc (.cells #[I ki,I me,I mo,I id,I te,I de,I fe,I pr,I ch,I un,I ta,I ow,I bp] 48)) (M+2) (M+1) M t tv cs:=⟨bv,ys,q1.below kv,q2.below kv,q3.below kv⟩;have kw2:=kw.trans (kv.mono kw.size);have K:=Lib.hid (KP.out M (M+2) cs ⟨ki,me,mo,⟨id,te,de,fe,pr,ch,un⟩,ta,⟨ow,bp⟩⟩ _ hI hKS2 (TS.out.below kw2) (Nat.le_trans hsz kv.size) (by omega) (by omega) (by omega) (by omega) (Nat.le_refl _) (by omega) (fun c hc=>by have:=c2 c hc;omega));have OB:=Lib.hid (oB.below kv);have OE:=Lib.hid (oE.below kv);have KW:=Lib.hid kw2;have C2:=Lib.hid c2;have HRUN:=Lib.hid hrun';have sz2:M+2≤(wr.alloc (.cells #[I ki,I me,I mo,I id,I te,I de,I fe,I pr,I ch,I un,I ta,I ow,I bp] 48)).heap.size:=Nat.le_trans hsz kv.size;clear KP q1 q2 q3 hKS2 kw2 kw oB oE hrun hrun' c2 hI;have vO:=oV;have vfA:=vO.f;have v0:=vO.c0;have v1:=vO.c1;have v2:=vO.c2;have v3:=vO.c3;have v4:=vO.c4;have v5:=vO.c5;have v6:=vO.c6;have v7:=vO.c7;have v8:=vO.c8;have v9:=vO.c9;have v10:=vO.c10;have v11:=vO.c11;have v12:=vO.c12;clear vO;clear oV kv
      go_wp2_with fail
      refine K.out.mono ?_;rintro e w2 hP;unfold KeepP at hP;have hlB:w.heap.size+1 < M:=by omega
      have hlE:w.heap.size+2 < M:=by omega
      by_cases h0:evE t cs ⟨ki,me,mo,⟨id,te,de,fe,pr,ch,un⟩,ta,⟨ow,bp⟩⟩=0
      · obtain ⟨rfl,hK3,q3⟩:=hP.1 h0
        have hN:Hid (ORel w M t tv l (k+1) w2):=by
          refine ⟨_,Nat.le_trans (evC_len t cs _) (by omega),evC_sold C2.out,hK3,?_,?_,KW.out.trans (q3.mono (by omega)),Nat.le_trans sz2 q3.size,?_⟩
          · obtain ⟨cur,e,h1,h2⟩:=OB.out
            exact ⟨cur,e,(q3.block _ hlB).trans h1,h2⟩
          · obtain ⟨cur,e,h1,h2⟩:=OE.out
            exact ⟨cur,e,(q3.block _ hlE).trans h1,h2⟩
          · rw [← runB_go h0];exact HRUN.out
        clear hP h0 hK3 q3 v0 v1 v2 v3 v4 v5 v6 v7 v8 v9 v10 v11 v12 vfA K;go_wp2;exact ⟨⟨k+1,by omega,by go_num,hN⟩,by simp [intOf];omega⟩
      · obtain ⟨rfl,q3⟩:=hP.2 h0
        have hR:Hid (bookR t l=(evE t cs ⟨ki,me,mo,⟨id,te,de,fe,pr,ch,un⟩,ta,⟨ow,bp⟩⟩,k,[])):=by
          unfold Hid;rw [← HRUN.out,runB_bad h0]
        generalize evE t cs ⟨ki,me,mo,⟨id,te,de,fe,pr,ch,un⟩,ta,⟨ow,bp⟩⟩=E at *;have hB2:=OB.out.below q3;have hE2:=OE.out.below q3;have kk:=KW.out.trans (q3.mono KW.out.size);have hg:=hE2.lt;clear hP q3 v0 v1 v2 v3 v4 v5 v6 v7 v8 v9 v10 v11 v12 vfA K;have cO:=hE2;have cf0:=cO.f 0;have c0:=cO.c0;clear cO;refine leaves_cons (f:=79) (args:=#[.pointer (some ⟨w.heap.size+2,0,none⟩),.pointer (some ⟨w.heap.size+1,0,none⟩)]) (by simp) (by simp [go_sem]) ?_;refine (of_pan (w.heap.size+2) (w.heap.size+1) 0 E _ [] _ h0 (by omega) hB2 hg c0 cf0).mono ?_;rintro e u' w'' ⟨rfl,rfl,w8,k8,rfl⟩;rw [if_neg h0];have hE8:=((hE2.below k8).set 0 (I E)).other (a:=⟨w.heap.size+1,0,none⟩) (by simp) (.slice none 0 0);have hB8:=((hB2.below k8).other (a:=⟨w.heap.size+2,0,none⟩) (by simp) (I E)).set 0 (.slice none 0 0);have kf:=((kk.trans (k8.mono kk.size)).setCell (p:=⟨w.heap.size+2,0,none⟩) (by simp) (I E)).setCell (p:=⟨w.heap.size+1,0,none⟩) (by simp) (.slice none 0 0);generalize (w8.setCell ⟨w.heap.size+2,0,none⟩ (I E)).setCell ⟨w.heap.size+1,0,none⟩ (.slice none 0 0)=w9 at *;clear k8 c0 cf0 hE2 hB2;have cO:=hE8;have cf0:=cO.f 0;have c0:=cO.c0;clear cO;have vO:=hB8;have vfA:=vO.f;have v0:=vO.c0;clear vO;(try simp only [List.set_cons_zero,List.getD_cons_zero] at c0 v0);simp [Leaves,settle,results,Tryz.results40,go_sem,c0,v0];exact BookP.bad hR.out kf
    · obtain rfl:k=l.length:=by omega
      obtain ⟨bv,ys,q1,q2,q3⟩:=hKS
      have hR:Hid (bookR t l=(0,0,cs)):=by
        unfold Hid;rw [← hrun,List.drop_length]
        rfl
      have HBK:=Lib.hid q3;have HM3:=Lib.hid hsz;have OB:=Lib.hid oB;have OE:=Lib.hid oE;have KW:=Lib.hid kw;obtain ⟨va,vc,rfl⟩:=book_slice q3;have hwM:w.heap.size+3≤M:=hs1;have r1:=set_same;have r2:=set_off;have r3:=set_blk;have bO:=oB;have bA:=bO.s1;clear bO;have cO:=oE;have cf0:=cO.f 0;have c0:=cO.c0;clear cO;have kO:=q1;have kA:=kO.s7;clear kO;clear KP HI TS hlr hrun c1 c2 q1 q2 q3 oB oE kw hsz;go_wp2;have hB2:=(OB.out.set 0 (.slice va cs.length vc)).other (a:=⟨w.heap.size+1+1,0,none⟩) (by simp) (I 0);have hE2:=(OE.out.other (a:=⟨w.heap.size+1,0,none⟩) (by simp) (.slice va cs.length vc)).set 0 (I 0);have kk:=(KW.out.setCell (p:=⟨w.heap.size+1,0,none⟩) (by simp) (.slice va cs.length vc)).setCell (p:=⟨w.heap.size+1+1,0,none⟩) (by simp;omega) (I 0);have hbk:=(HBK.out.low (z:=w.heap.size+1) (by omega) 0 (.slice va cs.length vc)).low (z:=w.heap.size+1+1) (by omega) 0 (I 0);clear bA c0 cf0 r1 r2 r3 kA;generalize (wr.setCell ⟨w.heap.size+1,0,none⟩ (.slice va cs.length vc)).setCell ⟨w.heap.size+1+1,0,none⟩ (I 0)=w7 at *;(try simp only [List.set_cons_zero] at hB2 hE2);have hg:=hE2.lt;have cO:=hE2;have cf0:=cO.f 0;have c0:=cO.c0;clear cO;refine leaves_cons (f:=79) (args:=#[.pointer (some ⟨w.heap.size+2,0,none⟩),.pointer (some ⟨w.heap.size+1,0,none⟩)]) (by simp) (by simp [go_sem]) ?_;refine (of_idle (w.heap.size+2) (w.heap.size+1) _ _ (by omega) hB2 hg c0 cf0).mono ?_;rintro e u' w'' ⟨rfl,rfl,w8,k8,rfl⟩;rw [if_pos rfl];have hE8:=(hE2.below k8).set 0 (I 0);have hB8:=(hB2.below k8).other (a:=⟨w.heap.size+2,0,none⟩) (by simp) (I 0);have kf:=(kk.trans (k8.mono kk.size)).setCell (p:=⟨w.heap.size+2,0,none⟩) (by simp) (I 0);have hbk8:=(hbk.below k8).low (z:=w.heap.size+2) (by omega) 0 (I 0);generalize w8.setCell ⟨w.heap.size+2,0,none⟩ (I 0)=w9 at *;clear k8 c0 cf0 hE2 hB2;have cO:=hE8;have cf0:=cO.f 0;have c0:=cO.c0;clear cO;have vO:=hB8;have vfA:=vO.f;have v0:=vO.c0;clear vO;(try simp only [List.set_cons_zero,List.getD_cons_zero] at c0 v0);simp [Leaves,settle,results,Tryz.results40,go_sem,c0,v0];exact BookP.good hR.out hbk8 (by omega) kf
theorem Of_any (t:PTerms) (tv lv:Value) (l:List AEvent) (w:World) (hI:∀ v∈l,I64 v.meter) (tS:Sl w tv 2 t.ts.length (t.ts.flatMap AStep.cells)) (lS:Sl w lv 13 l.length (l.flatMap AEvent.cells)):
    Calls Tryz.prog 40 #[t.v tv,lv] w (BookP t l w):=by
  by_cases hE:t.E=0
  · obtain ⟨la,lcap,rfl,hn,hl,h0,hlr⟩:=lS
    by_cases h120:120 < l.length
    · exact Of_size t tv la lcap l w tS hE h120
    · exact Of_loop t tv la lcap l w (by omega) tS hlr hI hE
  · exact Of_bad t tv lv l w tS hE
end
end Go.Proofs.YtdjgcenjonegjaaGreat
