/- vend.open · ref.happens at a sale (printed by wip/bin/gen_hap.py) -/
import Derived.Test.YtdjgcenjonegjaaGreatPk25
import Derived.Test.YtdjgcenjonegjaaGreatPk24
import Derived.Test.YtdjgcenjonegjaaGreatPk26
import Derived.Test.YtdjgcenjonegjaaGreatPk33
import Derived.Test.YtdjgcenjonegjaaGreatPk22
import Derived.Deep.RegionLaw
import Derived.Deep.AppendLies
import Derived.Deep.DeepCutAuto
set_option maxRecDepth 20000
set_option maxHeartbeats 8000000
set_option linter.unusedSimpArgs false
set_option linter.unusedVariables false
namespace Go.Proofs.YtdjgcenjonegjaaGreat
section
open Go Go.RowKit
/-- a shop is opened: its book in new memory; or what was wrong -/
def OpenP (t:PTerms) (tv cv:Value) (xs:List Int) (w:World) (e:Ending) (w':World):Prop:=
  (loadE t xs=0→∃ sg bv ys,e=.returned (T2 (.pointer (some ⟨sg,0,none⟩)) (I 0))∧Own w' sg [bv,tv,I t.f,I t.b,I t.d,I t.al,cv,I ((keptL xs).length:Nat)]∧BookAt w' w.heap.size bv (loadC t xs) ys∧Below w.heap.size w w') ∧
  (loadE t xs≠0→e=.returned (T2 (.pointer none) (I (loadE t xs)))∧Below w.heap.size w w')
theorem OpenP.bad {t:PTerms} {tv cv:Value} {xs:List Int} {w w':World} {k:Int} (h:loadE t xs=k) (hk:k≠0) (hb:Below w.heap.size w w'):OpenP t tv cv xs w (.returned (T2 (.pointer none) (I k))) w':=by
  subst h;exact ⟨fun h=>absurd h hk,fun _=>⟨rfl,hb⟩⟩
theorem OpenP.good {t:PTerms} {tv cv:Value} {xs:List Int} {w w':World} {sg:Nat} {bv:Value} {ys:List ACust} {B:Nat} {cs:List PCust} {n:Int} (h:loadE t xs=0) (hc:loadC t xs=cs) (hn:n=((keptL xs).length:Nat)) (hs:Own w' sg [bv,tv,I t.f,I t.b,I t.d,I t.al,cv,I n]) (hB:BookAt w' B bv cs ys) (hw:w.heap.size≤B) (hb:Below w.heap.size w w'):
    OpenP t tv cv xs w (.returned (T2 (.pointer (some ⟨sg,0,none⟩)) (I 0))) w':=by
  subst hn hc;exact ⟨fun _=>⟨sg,bv,ys,rfl,hs,hB.mono hw,hb⟩,fun hk=>absurd h hk⟩
theorem load_kept {t:PTerms} {xs:List Int} {k:Int} (h:keptE xs=k) (hk:k≠0):loadE t xs=k:=by unfold loadE;rw [h,if_neg hk]
theorem load_book {t:PTerms} {xs:List Int} {l:List AEvent} (h:keptR xs=(0,l)):loadE t xs=(bookR t l).1∧loadC t xs=(bookR t l).2.2:=by
  unfold loadE loadC keptE keptL;rw [h];exact ⟨rfl,rfl⟩
theorem open_any (t : PTerms) (tv cv : Value) (xs : List Int) (w : World) (ht : Sl w tv 2 t.ts.length (t.ts.flatMap AStep.cells)) (hc : Sl w cv 1 xs.length (xs.map U32)) (hw : ∀ x ∈ xs, W32 x) :
    Calls Tryz.prog 19 #[.agg #[tv,I t.f,I t.b,I t.d,I t.al],cv] w (OpenP t tv cv xs w):=by
  obtain ⟨i0,hi,hz0,hz1,hz2⟩:=info_parts info_events;have kB:=boxed_below w (.cells #[tv,I t.f,I t.b,I t.d,I t.al] 24);have oT:=Own.new (w:=w) rfl [tv,I t.f,I t.b,I t.d,I t.al] 24;have R:=Lib.hid (Replay_any cv xs _ (hc.below kB) hw);have D:=Lib.hid (fun u r W (hS:Sl W u 1 r.length (r.map U32)) (hr:∀ x∈r,W32 x)=>Decode_any u r W hr hS);have OF:=Lib.hid (fun lv l W hI h1 h2=>Of_any t tv lv l W hI h1 h2);have HW:=Lib.hid (recT_w32 hw (xs.length+1) 0);have HM:=Lib.hid (keptL_meter hw);have HT:=Lib.hid ht;have KB:=Lib.hid kB;have OT:=Lib.hid oT;obtain ⟨a,cap,rfl,-⟩:=hc;clear hw kB oT ht;go_enter Tryz.func19,Tryz.ntmps19
  go_wp2_with fail
  refine R.out.mono ?_;rintro e w1 ⟨rv,us,rfl,hR,k1⟩;have KW1:=Lib.hid (KB.out.trans (k1.mono KB.out.size));have OT1:=Lib.hid (OT.out.below k1);have hw1:w.heap.size < w1.heap.size:=OT1.out.lt;clear R KB OT
  by_cases hE:tapeE xs=0
  · have hrun:=Lib.hid (keptR_run hE)
    have hlen:=recR_len hE;have hrec:recsOf xs=recR xs:=by unfold recsOf;rw [if_pos hE]
    rw [hrec] at hR;rw [hE];generalize tapeA xs=p at *
    obtain ⟨ra,rc,rfl⟩:∃ a c,rv=.slice a (recR xs).length c:=by
      rcases owns_cases hR.2.1 with ⟨h,hn⟩ | ⟨g,c,h,_⟩
      · exact ⟨none,0,by rw [h,hn]⟩
      · exact ⟨_,c,h⟩
    have hD0:Hid (KptRel w1 xs 0 (.slice none 0 0) [] w1):=⟨World.ownsRow_nil _ _ _ _,rfl,Below.refl _ _,Nat.le_refl _⟩;have HR1:=Lib.hid hR;clear hE hrec hR k1;go_wp2
    go_loopw [9,27] (fun v i wr=>∃ (k:Nat) (l:List AEvent),k≤(recR xs).length∧i=I k∧Hid (KptRel w1 xs k v l wr)) (fun _ i _=>(recR xs).length-(intOf i).toNat)
    case atStart=>exact ⟨0,[],Nat.zero_le _,rfl,hD0⟩
    case round =>
      obtain ⟨k,l,hk,rfl,hD⟩:=hrel;obtain ⟨hown,hacc,hbw,hlk⟩:=hD.out;have hRr:=HR1.out.below hbw
      by_cases hlt:k < (recR xs).length
      · obtain ⟨g, cap2, hv, hg1, hg2⟩ := owns_pos hRr.2.1 (by omega)
        simp only [Value.slice.injEq] at hv;obtain ⟨rfl,-,rfl⟩:=hv;have hO:=Own.of_owns hRr.2.1;have e0:=hO.cell k (by rw [hRr.1];exact hlt);rw [Nat.zero_add] at e0;have hrec:=(hRr.2.2 k hlt).sl
        have hr32:=HW.out _ (by
          have:(recR xs).getD k []∈recR xs:=by
            rw [List.getD_eq_getElem?_getD,List.getElem?_eq_getElem hlt];exact List.getElem_mem hlt
          exact this)
        rw [drop_recs hlt] at hacc;have hi0:(0:Int)≤(k:Int):=by omega
        have hi1:(k:Int) < ((recR xs).length:Int):=by omega
        have HD:=Lib.hid (D.out (us.getD k undef) ((recR xs).getD k []) wr hrec hr32);generalize us.getD k undef=u at *;generalize (recR xs).getD k []=r at *;clear hO hrec hr32 hRr D HW OF
        go_wp2_with fail
        refine (HD.out).mono ?_;rintro e w2 ⟨rfl,k2⟩;have kw2:=hbw.trans (k2.mono hbw.size);have hown2:=owns_below hown k2;have hbs2:w1.heap.size≤w2.heap.size:=kw2.size
        by_cases h0:decE r=0
        · rw [runK_go h0] at hacc
          have HACC:=Lib.hid hacc;rw [h0];have HOWN:=Lib.hid hown2;have KW2:=Lib.hid kw2;have hdec:=Lib.hid (show decVal r=(decEv r).v from rfl);rw [hdec.out];generalize decEv r=ev at *;obtain ⟨ki,me,mo,⟨id,te,de,fe,pr,ch,un⟩,ta,⟨ow,bp⟩⟩:=ev;have hll:l.length < 2100:=by omega
          clear hacc h0 hown hown2 hdec kw2 k2 HD hD hbw hD0
          go_wp2_with
            (at_builtin
             refine wpList_append_lies _ rfl _ _ 104 rfl w1.heap.size 48 i0 (.agg #[.int .i64 0,.int .i64 0,.int .i64 0,.int .i64 0,.int .i64 0,.int .i64 0,.int .i64 0,.int .i64 0,.int .i64 0,.int .i64 0,.int .i64 0,.int .i64 0,.int .i64 0]) 13 104 Tryz.underlying104 hi hz0 hz1 hz2 rfl (by decide) _ l.length (l.flatMap AEvent.cells) rfl (owns_below HOWN.out below_autor) ⟨w2.heap.size+1,0,none⟩ 1 1 [I ki,I me,I mo,I id,I te,I de,I fe,I pr,I ch,I un,I ta,I ow,I bp] rfl rfl (news_own (Own.new (by simp) _ 48)) (oneCells_lit rfl) (by omega) (by unfold maxLen;omega) (by omega) (by simp;omega) _ rfl ?_;intro gg cap3 w5 hown' hgrow hat hlt1;have hbP:Below w2.heap.size w2 ((w2.alloc (.cells #[I ki,I me,I mo,I id,I te,I de,I fe,I pr,I ch,I un,I ta,I ow,I bp] 48)).alloc (.cells #[I ki,I me,I mo,I id,I te,I de,I fe,I pr,I ch,I un,I ta,I ow,I bp] 48)):=below_autor;have hG:=grown_pre hgrow hbP
             have hN:Hid (KptRel w1 xs (k+1) (.slice (some ⟨gg,0,none⟩) (l.length+1) cap3) (l++[⟨ki,me,mo,⟨id,te,de,fe,pr,ch,un⟩,ta,⟨ow,bp⟩⟩]) w5):=by
               refine ⟨?_,HACC.out,Below.grown (B:=w1.heap.size) KW2.out hG hbs2 (fun z hz=>(HOWN.out.lt z hz).1),by simp;omega⟩;simpa [List.flatMap_append,AEvent.cells] using hown'
             clear hown' hgrow hat hG hbP)
          exact ⟨⟨k+1,_,by omega,by go_num,hN⟩,by simp [intOf];omega⟩
        · rw [runK_bad h0] at hacc
          have hb:(decE r != 0)=true:=by simp [h0]
          have hr:=hrun.out.trans hacc.symm;have HL:=Lib.hid (load_kept (t:=t) (xs:=xs) (k:=decE r) (by unfold keptE;rw [hr]) h0);have H0:=Lib.hid h0;have kk:=KW1.out.trans (kw2.mono KW1.out.size);clear hacc h0 hown hown2 hrun k2 HD hD hbw hD0 kw2 hr;rw [decVal_ev];generalize decEv r=ev at *;obtain ⟨ki,me,mo,⟨id,te,de,fe,pr,ch,un⟩,ta,⟨ow,bp⟩⟩:=ev;generalize decE r=E at *;go_wp2;go_ret2;exact OpenP.bad HL.out H0.out below_auto
      · have hS:=Sl.of_owns hown (by omega)
        rw [drop_nil_at hlt] at hacc;have hr:keptR xs=(0,l):=hrun.out.trans hacc.symm;have hld:=load_book (t:=t) hr;have hll:keptL xs=l:=by unfold keptL;rw [hr]
        have hI:∀ v∈l,I64 v.meter:=by rw [← hll];exact HM.out
        have hge:((recR xs).length:Int)≤(k:Int):=by omega
        have kk:=KW1.out.trans (hbw.mono KW1.out.size);have oT2:=OT1.out.below hbw;have P0:=OF.out _ l wr hI (HT.out.below kk) hS;unfold BookP at P0;have P:=Lib.hid P0;clear P0;have HLL:=Lib.hid hll;have HLD:=Lib.hid hld;obtain ⟨la,lc,rfl,-⟩:=id hS;have KK:=Lib.hid kk;have OT2:=Lib.hid oT2;have tO:=oT2;have tA:=tO.s5;clear tO;clear hacc hown hRr hD hD0 hS hbw hr hld hll hI HM OF D HW HT kk oT2
        go_wp2_with fail
        (with_reducible refine P.out.mono ?_);rintro e w5 ⟨bv,ys,rfl,hb5,k5⟩;have kk5:=KK.out.trans (k5.mono KK.out.size);have oT5:=OT2.out.below k5;have hwr:=KK.out.size;have kA:=boxed_below w5 (.cells #[bv] 76);have oA:=Own.new (w:=w5) rfl [bv] 76;have oT6:=oT5.below kA;have hb6:=hb5.below kA;have kk6:=kk5.trans (kA.mono kk5.size);have H6:=Lib.hid hb6;have KK6:=Lib.hid kk6;have n6:¬ w.heap.size=w5.heap.size:=by have:=oT5.lt;omega
        clear tA k5 P hb5;have tO:=oT6;have tA:=tO.s5;clear tO;have bO:=oA;have bA:=bO.s1;clear bO;clear oT5 oT6 oA kk5 kA hb6 kk6;obtain ⟨ba,bc,rfl⟩:=book_slice H6.out
        by_cases hF:(bookR t l).1=0
        · have HL0:=Lib.hid (HLD.out.1.trans hF)
          rw [hF];generalize (bookR t l).2.1=pl at *;go_wp2;go_ret2;have kX:=boxed_below (w5.alloc (.cells #[.slice ba (bookR t l).2.2.length bc] 76)) (.cells #[.slice ba (bookR t l).2.2.length bc,tv,I t.f,I t.b,I t.d,I t.al,.slice a xs.length cap,I (l.length:Nat)] 110);exact OpenP.good HL0.out HLD.out.2 (by rw [HLL.out]) (Own.new (by simp) _ _) (H6.out.below kX) hwr (KK6.out.trans (kX.mono KK6.out.size))
        · have hb:((bookR t l).1 != 0)=true:=by simp [hF]
          have HL0:=Lib.hid HLD.out.1;have HF:=Lib.hid hF;generalize (bookR t l).2.1=pl at *;generalize (bookR t l).1=E at *;clear hF;go_wp2;go_ret2;exact OpenP.bad HL0.out HF.out KK6.out
  · have hr:=keptR_tape hE
    have HL:=Lib.hid (load_kept (t:=t) (xs:=xs) (k:=tapeE xs) (by unfold keptE;rw [hr]) hE);have HE:=Lib.hid hE;have hb:(tapeE xs != 0)=true:=by simp [hE]
    clear hR hE hr k1 OF D HW HM HT;generalize tapeE xs=E at *;generalize tapeA xs=p at *;go_wp2;go_ret2;exact OpenP.bad HL.out HE.out KW1.out
end
section
open Go Go.RowKit
theorem hap_sale (x1 x2 x3 x4 x5 x6 me mo id te de fe pr ch un ta ow bp f b d al E : Int) (da sa : Option Addr) (dc sc : Nat) (xs L : List ADebt) (ss : List ASold) (ts : List AStep) (tv : Value) (X : AAcc) (Bl : ABill) (B : Nat) (w : World)
    (A:Hid (∀ W,Sl W (.slice da xs.length dc) 2 xs.length (xs.flatMap ADebt.cells)→Sl W tv 2 ts.length (ts.flatMap AStep.cells)→Calls Tryz.prog 28 #[.agg #[I x1,I x2,I x3,I x4,I x5,I x6,.slice da xs.length dc],.agg #[tv,I f,I b,I d,I al],I te,I mo] W (GrewAccBF X L Bl E W)))
    (hS:Sl w (.slice da xs.length dc) 2 xs.length (xs.flatMap ADebt.cells)) (tS:Sl w tv 2 ts.length (ts.flatMap AStep.cells)) (hso:w.ownsRow B 69 5 (.slice sa ss.length sc) ss.length (ss.flatMap ASold.cells)) (hBw:B≤w.heap.size) (hlen:ss.length≤1000) (F:Int)
    (HF:Hid (F=if E=0 then (if eqE7 Bl.id Bl.tender Bl.debt Bl.fee Bl.price Bl.change Bl.units id te de fe pr ch un then 0 else 8) else E)):
    Calls Tryz.prog 99 #[.agg #[tv,I f,I b,I d,I al],custV x1 x2 x3 x4 x5 x6 (.slice da xs.length dc) (.slice sa ss.length sc),evV 2 me mo id te de fe pr ch un ta ow bp] w (HapQ B F ⟨X,L,ss++[⟨id,0,un,ta,x2⟩]⟩ (Value.slice sa ss.length sc).ownBlock w):=by
  have hso':=hso;have oT:=((((((Own.new (w:=w) (g:=w.heap.size) (by rfl) [tv,I f,I b,I d,I al] 24).alloc (.cells #[I x1,I x2,I x3,I x4,I x5,I x6,.slice da xs.length dc,.slice sa ss.length sc] 67)).alloc (.cells #[I 2,I me,I mo,I id,I te,I de,I fe,I pr,I ch,I un,I ta,I ow,I bp] 48)).alloc (.cells #[I 0,I 0,I 0,I 0,I 0,I 0,.slice none 0 0,.slice none 0 0] 67)).alloc (.cells #[I id,I 0,I un,I ta,I x2] 69)).alloc (.cells #[I 0,I 0,I 0,I 0,I 0,I 0,.slice none 0 0] 64)).alloc (.cells #[I 0,I 0,I 0,I 0,I 0,I 0,I 0] 39);have oC:=(((((Own.new (w:=(w.alloc (.cells #[tv,I f,I b,I d,I al] 24))) (g:=w.heap.size+1) (by simp) [I x1,I x2,I x3,I x4,I x5,I x6,.slice da xs.length dc,.slice sa ss.length sc] 67).alloc (.cells #[I 2,I me,I mo,I id,I te,I de,I fe,I pr,I ch,I un,I ta,I ow,I bp] 48)).alloc (.cells #[I 0,I 0,I 0,I 0,I 0,I 0,.slice none 0 0,.slice none 0 0] 67)).alloc (.cells #[I id,I 0,I un,I ta,I x2] 69)).alloc (.cells #[I 0,I 0,I 0,I 0,I 0,I 0,.slice none 0 0] 64)).alloc (.cells #[I 0,I 0,I 0,I 0,I 0,I 0,I 0] 39);have oV:=((((Own.new (w:=((w.alloc (.cells #[tv,I f,I b,I d,I al] 24)).alloc (.cells #[I x1,I x2,I x3,I x4,I x5,I x6,.slice da xs.length dc,.slice sa ss.length sc] 67))) (g:=w.heap.size+2) (by simp) [I 2,I me,I mo,I id,I te,I de,I fe,I pr,I ch,I un,I ta,I ow,I bp] 48).alloc (.cells #[I 0,I 0,I 0,I 0,I 0,I 0,.slice none 0 0,.slice none 0 0] 67)).alloc (.cells #[I id,I 0,I un,I ta,I x2] 69)).alloc (.cells #[I 0,I 0,I 0,I 0,I 0,I 0,.slice none 0 0] 64)).alloc (.cells #[I 0,I 0,I 0,I 0,I 0,I 0,I 0] 39);have oZ:=(((Own.new (w:=(((w.alloc (.cells #[tv,I f,I b,I d,I al] 24)).alloc (.cells #[I x1,I x2,I x3,I x4,I x5,I x6,.slice da xs.length dc,.slice sa ss.length sc] 67)).alloc (.cells #[I 2,I me,I mo,I id,I te,I de,I fe,I pr,I ch,I un,I ta,I ow,I bp] 48))) (g:=w.heap.size+3) (by simp) [I 0,I 0,I 0,I 0,I 0,I 0,.slice none 0 0,.slice none 0 0] 67).alloc (.cells #[I id,I 0,I un,I ta,I x2] 69)).alloc (.cells #[I 0,I 0,I 0,I 0,I 0,I 0,.slice none 0 0] 64)).alloc (.cells #[I 0,I 0,I 0,I 0,I 0,I 0,I 0] 39);have oS:=((Own.new (w:=((((w.alloc (.cells #[tv,I f,I b,I d,I al] 24)).alloc (.cells #[I x1,I x2,I x3,I x4,I x5,I x6,.slice da xs.length dc,.slice sa ss.length sc] 67)).alloc (.cells #[I 2,I me,I mo,I id,I te,I de,I fe,I pr,I ch,I un,I ta,I ow,I bp] 48)).alloc (.cells #[I 0,I 0,I 0,I 0,I 0,I 0,.slice none 0 0,.slice none 0 0] 67))) (g:=w.heap.size+4) (by simp) [I id,I 0,I un,I ta,I x2] 69).alloc (.cells #[I 0,I 0,I 0,I 0,I 0,I 0,.slice none 0 0] 64)).alloc (.cells #[I 0,I 0,I 0,I 0,I 0,I 0,I 0] 39);have oA:=(Own.new (w:=(((((w.alloc (.cells #[tv,I f,I b,I d,I al] 24)).alloc (.cells #[I x1,I x2,I x3,I x4,I x5,I x6,.slice da xs.length dc,.slice sa ss.length sc] 67)).alloc (.cells #[I 2,I me,I mo,I id,I te,I de,I fe,I pr,I ch,I un,I ta,I ow,I bp] 48)).alloc (.cells #[I 0,I 0,I 0,I 0,I 0,I 0,.slice none 0 0,.slice none 0 0] 67)).alloc (.cells #[I id,I 0,I un,I ta,I x2] 69))) (g:=w.heap.size+5) (by simp) [I 0,I 0,I 0,I 0,I 0,I 0,.slice none 0 0] 64).alloc (.cells #[I 0,I 0,I 0,I 0,I 0,I 0,I 0] 39);have oB:=Own.new (w:=((((((w.alloc (.cells #[tv,I f,I b,I d,I al] 24)).alloc (.cells #[I x1,I x2,I x3,I x4,I x5,I x6,.slice da xs.length dc,.slice sa ss.length sc] 67)).alloc (.cells #[I 2,I me,I mo,I id,I te,I de,I fe,I pr,I ch,I un,I ta,I ow,I bp] 48)).alloc (.cells #[I 0,I 0,I 0,I 0,I 0,I 0,.slice none 0 0,.slice none 0 0] 67)).alloc (.cells #[I id,I 0,I un,I ta,I x2] 69)).alloc (.cells #[I 0,I 0,I 0,I 0,I 0,I 0,.slice none 0 0] 64))) (g:=w.heap.size+6) (by simp) [I 0,I 0,I 0,I 0,I 0,I 0,I 0] 39;have bx0:=boxed_below w (.cells #[tv,I f,I b,I d,I al] 24);have bx1:=bx0.alloc bx0.size (.cells #[I x1,I x2,I x3,I x4,I x5,I x6,.slice da xs.length dc,.slice sa ss.length sc] 67);have bx2:=bx1.alloc bx1.size (.cells #[I 2,I me,I mo,I id,I te,I de,I fe,I pr,I ch,I un,I ta,I ow,I bp] 48);have bx3:=bx2.alloc bx2.size (.cells #[I 0,I 0,I 0,I 0,I 0,I 0,.slice none 0 0,.slice none 0 0] 67);have bx4:=bx3.alloc bx3.size (.cells #[I id,I 0,I un,I ta,I x2] 69);have bx5:=bx4.alloc bx4.size (.cells #[I 0,I 0,I 0,I 0,I 0,I 0,.slice none 0 0] 64);have kB:=bx5.alloc bx5.size (.cells #[I 0,I 0,I 0,I 0,I 0,I 0,I 0] 39);clear bx0 bx1 bx2 bx3 bx4 bx5;obtain ⟨X1,X2,X3,X4,X5,X6⟩:=X;obtain ⟨B1,B2,B3,B4,B5,B6,B7⟩:=Bl;simp only at *;go_enter Tryz.func99,Tryz.ntmps99
  go_upto_if 44 with fail
  go_cut [13] (fun s13 wx=>∃ ua uc,s13=I E∧Own wx (w.heap.size+1) [I x1,I x2,I x3,I x4,I x5,I x6,.slice da xs.length dc,.slice sa ss.length sc]∧Own wx (w.heap.size+2) [I 2,I me,I mo,I id,I te,I de,I fe,I pr,I ch,I un,I ta,I ow,I bp]∧Own wx (w.heap.size+3) [I 0,I 0,I 0,I 0,I 0,I 0,.slice none 0 0,.slice none 0 0]∧Own wx (w.heap.size+4) [I id,I 0,I un,I ta,I x2]∧Own wx (w.heap.size+5) [I X1,I X2,I X3,I X4,I X5,I X6,.slice ua L.length uc]∧Own wx (w.heap.size+6) [I B1,I B2,I B3,I B4,I B5,I B6,I B7]∧Sl wx (.slice ua L.length uc) 2 L.length (L.flatMap ADebt.cells)∧FarB (w.heap.size+7) (.slice ua L.length uc)∧Below w.heap.size w wx∧w.heap.size+7≤wx.heap.size)
  case first=>
    go_wp2_with fail
    refine (A.out _ (hS.below kB) (tS.below kB)).mono ?_;rintro e w1 ⟨u,rfl,hu,k1,hFu⟩;obtain ⟨ua,uc,rfl,-⟩:=_root_.id hu;have oC1:=oC.below k1;have oV1:=oV.below k1;have oZ1:=oZ.below k1;have oS1:=oS.below k1;have oA1:=oA.below k1;have oB1:=oB.below k1;have kw:=kB.trans (k1.mono kB.size);have hs1:w.heap.size+7≤w1.heap.size:=by have:=k1.size;simp at this;omega
    have hFu2:FarB (w.heap.size+7) (.slice ua L.length uc):=hFu.mono (by simp);have hf5:Far (w.heap.size+5) (.slice ua L.length uc):=hFu2.far (by omega);have hf6:Far (w.heap.size+6) (.slice ua L.length uc):=hFu2.far (by omega);have hf4:Far (w.heap.size+4) (.slice ua L.length uc):=hFu2.far (by omega);have aO:=oA1;have aA:=aO.s7;clear aO;have bO:=oB1;have bA:=bO.s7;clear bO;have sO:=oS1;have sA:=sO.s5;clear sO;have r1:=set_same;have r2:=set_off;have r3:=set_blk;have OC:=Lib.hid oC1;have OV:=Lib.hid oV1;have OZ:=Lib.hid oZ1;have OS:=Lib.hid oS1;have OA:=Lib.hid oA1;have OB:=Lib.hid oB1;have HU:=Lib.hid hu;have KW:=Lib.hid kw;have HFB:=Lib.hid hFu2;have HF5:=Lib.hid hf5;have HF6:=Lib.hid hf6;have HF4:=Lib.hid hf4;clear oC oV oZ oS oA oB oT k1 hFu hu kB kw oC1 oV1 oZ1 oS1 oA1 oB1 hFu2 hf5 hf6 hf4;go_wp2;go_meet;refine ⟨_,_,rfl,?_,?_,?_,?_,?_,?_,?_,HFB.out,?_,?_⟩
    · repeat (first | with_reducible exact OC.out | refine Own.other ?_ (by simp<;>omega) _ | fail)
    · repeat (first | with_reducible exact OV.out | refine Own.other ?_ (by simp<;>omega) _ | fail)
    · repeat (first | with_reducible exact OZ.out | refine Own.other ?_ (by simp<;>omega) _ | fail)
    · skip
      repeat (first | with_reducible exact OS.out | refine Own.other ?_ (by simp<;>omega) _ | fail)
    · have hA:=OA.out.set7 (I X1) (I X2) (I X3) (I X4) (I X5) (I X6) (.slice ua L.length uc)
      repeat (first | with_reducible exact hA | refine Own.other ?_ (by simp<;>omega) _ | fail)
    · skip
      refine Own.set7 (?_:Own _ _ [I 0,I 0,I 0,I 0,I 0,I 0,I 0]) _ _ _ _ _ _ _
      repeat (first | with_reducible exact OB.out | refine Own.other ?_ (by simp<;>omega) _ | fail)
    · repeat (first | with_reducible exact HU.out | with_reducible refine Sl.set ?_ HF5.out _ | with_reducible refine Sl.set ?_ HF6.out _ | with_reducible refine Sl.set ?_ HF4.out _ | with_reducible refine Sl.drew ?_ | fail)
    · have kk:=KW.out
      exact below_autor
    · simp
      omega
  case rest =>
    obtain ⟨ua,uc,rfl,oC,oV,oZ,oS,oA,oB,hu,hF,kw,hsz⟩:=hcut;have q1:=set_same;have q2:=set_off;have q3:=set_blk;have NE:=neqBill2
    by_cases hE:E=0
    · subst hE
      cases hb:eqE7 B1 B2 B3 B4 B5 B6 B7 id te de fe pr ch un
      · have hF8:=Lib.hid (show F=8 by rw [HF.out,hb];rfl)
        clear HF;have vO:=oV;have vA:=vO.s13;clear vO;have zO:=oZ;have zA:=zO.s8;clear zO;have bO:=oB;have bA:=bO.s7;clear bO;clear oV oZ oB oC oS oA hu hF A hS tS hso hso';go_wp2;exact bodyPost_ret (v:=T2 (custV 0 0 0 0 0 0 (.slice none 0 0) (.slice none 0 0)) (I 8)) (by simp [results,Tryz.results99,go_sem, *];try omega) rfl (HapQ.bad hF8.out (by decide) below_autor)
      · have hF0 := Lib.hid (show F = 0 by rw [HF.out, hb]; rfl)
        clear HF;obtain ⟨i0,hi,hz0,hz1,hz2⟩:=info_parts info_solds;have hro:∀ z,(Value.slice sa ss.length sc).ownBlock=some z→B≤z∧z < w.heap.size:=fun z hz=>hso'.lt z hz;have HRO:=Lib.hid hro;have HOW:=Lib.hid (owns_below hso' kw);have HU:=Lib.hid hu;have HFB:=Lib.hid hF;have OA:=Lib.hid oA;have OZ:=Lib.hid oZ;have KW:=Lib.hid kw;have vO:=oV;have vA:=vO.s13;clear vO;have zO:=oZ;have zA:=zO.s8;clear zO;have bO:=oB;have bA:=bO.s7;clear bO;have aO:=oA;have aA:=aO.s7;clear aO;have sO:=oS;have sA:=sO.s5;clear sO;have cO:=oC;have cA:=cO.s8;clear cO;clear oV oZ oB oC oS oA hu hF A hS tS hso hso' hro;have ra:∀ (o:Obj) (g j:Nat),g < wc.heap.size→(wc.alloc o).cell? ⟨g,j,none⟩=wc.cell? ⟨g,j,none⟩:=fun o g j h=>(boxed_below wc o).cell (p:=⟨g,j,none⟩) h;have rb:∀ (o:Obj) (g j:Nat),g < wc.heap.size→(wc.alloc o).frozen? ⟨g,j,none⟩=wc.frozen? ⟨g,j,none⟩:=fun o g j h=>(boxed_below wc o).frozen (p:=⟨g,j,none⟩) h;have hl1:w.heap.size+1 < wc.heap.size:=by omega
        have hl4:w.heap.size+4 < wc.heap.size:=by omega
        have hl5:w.heap.size+5 < wc.heap.size:=by omega
        go_upto_region 20 with fail
        go_region_law
          (first
            | (refine step_append_lies _ (by rfl) _ _ _ (by rfl) B 69 i0 (.agg #[.int .i64 0, .int .i64 0, .int .i64 0, .int .i64 0, .int .i64 0]) 5 40 Tryz.underlying65 hi hz0 hz1 hz2 rfl (by decide) (.slice sa ss.length sc) ss.length (ss.flatMap ASold.cells) (by rfl) (owns_below HOW.out below_autor) ⟨wc.heap.size, 0, none⟩ 1 1 [I id, I 0, I un, I ta, I x2] (by rfl) (by rfl) (news_lit _ _ _) (oneCells_lit rfl) (by omega) (by unfold maxLen; omega) (by omega) (by first | omega | (simp; done) | (simp; omega)) _ rfl ?_; intro gg cap2 w5 hown' hgrow hat hlt1
               have hG2:=grown_pre (W:=wc) hgrow below_autor;have hG1:=grown_pre2 (Nat.le_refl _) KW.out hG2;have oA5:=OA.out.grown hG2 (fun e=>by have:=(HRO.out _ e.symm).2;omega);have oZ5:=OZ.out.grown hG2 (fun e=>by have:=(HRO.out _ e.symm).2;omega)
               have hgs:(Value.slice sa ss.length sc).ownBlock=some gg∨(w.heap.size≤gg∧wc.heap.size≤gg):=by
                 rcases hat with h | h
                 · exact .inl h
                 · right
                   simp at h;omega
               have hg3:gg≠w.heap.size+3:=by
                 rcases hgs with h | h
                 · have:=(HRO.out _ h).2;omega
                 · omega
               have HG:=Lib.hid (hapG_of (c:=⟨⟨X1,X2,X3,X4,X5,X6⟩,L,ss++[⟨id,0,un,ta,x2⟩]⟩) (S:=ss) (s:=⟨id,0,un,ta,x2⟩) (w:=w) (wc:=wc) HU.out (HFB.out.mono (by omega)) hown' rfl rfl hG1 hG2 (fun z hz=>(HRO.out z hz).2) hgs);have hx0:w.heap.size≤w.heap.size+3:=by omega
               have hx1:=Lib.hid (show dBlk (ofCust ⟨⟨X1,X2,X3,X4,X5,X6⟩,L,ss++[⟨id,0,un,ta,x2⟩]⟩ ua uc (some ⟨gg,0,none⟩) cap2)≠some (w.heap.size+3) from fun e=>by
                 unfold dBlk ofCust at e;simp only at e
                 split at e
                 · cases ua with
                   | none=>cases e
                   | some ad=>
                     injection e with e
                     have e:ad.block=w.heap.size+3:=e;have h7:=HFB.out ad _ _ rfl;omega
                 · cases e)
               have hx2:=Lib.hid (show sBlk (ofCust ⟨⟨X1,X2,X3,X4,X5,X6⟩,L,ss++[⟨id,0,un,ta,x2⟩]⟩ ua uc (some ⟨gg,0,none⟩) cap2)≠some (w.heap.size+3) from fun e=>by
                 have e:gg=w.heap.size+3:=by injection e
                 exact hg3 e)
               have mO:=oA5;have mA:=mO.s7;clear mO;have nO:=oZ5;have nA:=nO.s8;clear nO;clear oA5 oZ5 hown' hgrow hat hgs hG1 hG2)
            | fail)
        all_goals
          go_wp2;exact bodyPost_ret (v:=T2 (custV X1 X2 X3 X4 X5 X6 (.slice ua L.length uc) (.slice (some ⟨gg,0,none⟩) (ss.length+1) cap2)) (I 0)) (by simp [results,Tryz.results99,go_sem, *];try omega) rfl (retG hF0.out (by repeat (first | with_reducible exact HG.out | with_reducible refine HapG.store ?_ (by assumption) hx1.out hx2.out | with_reducible refine HapG.drew ?_)))
    · have hFE:=Lib.hid (show F=E by rw [HF.out,if_neg hE])
      clear HF;have hE':(E != 0)=true:=by simp [hE]
      have HE:=Lib.hid hE;have vO:=oV;have vA:=vO.s13;clear vO;have zO:=oZ;have zA:=zO.s8;clear zO;clear oV oZ oB oC oS oA hu hF A hS tS hso hE hso';go_wp2;exact bodyPost_ret (v:=T2 (custV 0 0 0 0 0 0 (.slice none 0 0) (.slice none 0 0)) (I E)) (by simp [results,Tryz.results99,go_sem, *];try omega) rfl (HapQ.bad hFE.out HE.out below_autor)
end
end Go.Proofs.YtdjgcenjonegjaaGreat
