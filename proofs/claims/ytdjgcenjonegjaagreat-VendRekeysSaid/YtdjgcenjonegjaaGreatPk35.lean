/- ref.happens at a grant (printed by wip/bin/gen_hap.py) · ref.happens at a rekey (printed by wip/bin/gen_hap.py) · ref.happens at a charge · ref.happens at every event -/
import Derived.Test.YtdjgcenjonegjaaGreatPk22
import Derived.Deep.RegionLaw
import Derived.Deep.AppendLies
import Derived.Deep.DeepCutAuto
import Derived.Test.YtdjgcenjonegjaaGreatPk23
import Derived.Test.YtdjgcenjonegjaaGreatPk34
import Derived.Test.YtdjgcenjonegjaaGreatPk18
set_option maxRecDepth 20000
set_option maxHeartbeats 8000000
set_option linter.unusedSimpArgs false
set_option linter.unusedVariables false
namespace Go.Proofs.YtdjgcenjonegjaaGreat
section
open Go Go.RowKit
theorem hap_grant (x1 x2 x3 x4 x5 x6 me mo id te de fe pr ch un ta ow bp f b d al E : Int) (da sa : Option Addr) (dc sc : Nat) (xs L : List ADebt) (ss : List ASold) (ts : List AStep) (tv : Value) (X : AAcc) (Bl : ABill) (B : Nat) (w : World)
    (A:Hid (∀ W,Sl W (.slice da xs.length dc) 2 xs.length (xs.flatMap ADebt.cells)→Sl W tv 2 ts.length (ts.flatMap AStep.cells)→Calls Tryz.prog 29 #[.agg #[I x1,I x2,I x3,I x4,I x5,I x6,.slice da xs.length dc],.agg #[tv,I f,I b,I d,I al],I mo] W (GrewAccBF X L Bl E W)))
    (hS:Sl w (.slice da xs.length dc) 2 xs.length (xs.flatMap ADebt.cells)) (tS:Sl w tv 2 ts.length (ts.flatMap AStep.cells)) (hso:w.ownsRow B 69 5 (.slice sa ss.length sc) ss.length (ss.flatMap ASold.cells)) (hBw:B≤w.heap.size) (hlen:ss.length≤1000) (F:Int)
    (HF:Hid (F=if E=0 then (if eqE7 Bl.id Bl.tender Bl.debt Bl.fee Bl.price Bl.change Bl.units id te de fe pr ch un then 0 else 8) else E)):
    Calls Tryz.prog 99 #[.agg #[tv,I f,I b,I d,I al],custV x1 x2 x3 x4 x5 x6 (.slice da xs.length dc) (.slice sa ss.length sc),evV 3 me mo id te de fe pr ch un ta ow bp] w (HapQ B F ⟨X,L,ss++[⟨id,0,un,ta,x2⟩]⟩ (Value.slice sa ss.length sc).ownBlock w):=by
  have hso':=hso;have oT:=((((((Own.new (w:=w) (g:=w.heap.size) (by rfl) [tv,I f,I b,I d,I al] 24).alloc (.cells #[I x1,I x2,I x3,I x4,I x5,I x6,.slice da xs.length dc,.slice sa ss.length sc] 67)).alloc (.cells #[I 3,I me,I mo,I id,I te,I de,I fe,I pr,I ch,I un,I ta,I ow,I bp] 48)).alloc (.cells #[I 0,I 0,I 0,I 0,I 0,I 0,.slice none 0 0,.slice none 0 0] 67)).alloc (.cells #[I id,I 0,I un,I ta,I x2] 69)).alloc (.cells #[I 0,I 0,I 0,I 0,I 0,I 0,.slice none 0 0] 64)).alloc (.cells #[I 0,I 0,I 0,I 0,I 0,I 0,I 0] 39);have oC:=(((((Own.new (w:=(w.alloc (.cells #[tv,I f,I b,I d,I al] 24))) (g:=w.heap.size+1) (by simp) [I x1,I x2,I x3,I x4,I x5,I x6,.slice da xs.length dc,.slice sa ss.length sc] 67).alloc (.cells #[I 3,I me,I mo,I id,I te,I de,I fe,I pr,I ch,I un,I ta,I ow,I bp] 48)).alloc (.cells #[I 0,I 0,I 0,I 0,I 0,I 0,.slice none 0 0,.slice none 0 0] 67)).alloc (.cells #[I id,I 0,I un,I ta,I x2] 69)).alloc (.cells #[I 0,I 0,I 0,I 0,I 0,I 0,.slice none 0 0] 64)).alloc (.cells #[I 0,I 0,I 0,I 0,I 0,I 0,I 0] 39);have oV:=((((Own.new (w:=((w.alloc (.cells #[tv,I f,I b,I d,I al] 24)).alloc (.cells #[I x1,I x2,I x3,I x4,I x5,I x6,.slice da xs.length dc,.slice sa ss.length sc] 67))) (g:=w.heap.size+2) (by simp) [I 3,I me,I mo,I id,I te,I de,I fe,I pr,I ch,I un,I ta,I ow,I bp] 48).alloc (.cells #[I 0,I 0,I 0,I 0,I 0,I 0,.slice none 0 0,.slice none 0 0] 67)).alloc (.cells #[I id,I 0,I un,I ta,I x2] 69)).alloc (.cells #[I 0,I 0,I 0,I 0,I 0,I 0,.slice none 0 0] 64)).alloc (.cells #[I 0,I 0,I 0,I 0,I 0,I 0,I 0] 39);have oZ:=(((Own.new (w:=(((w.alloc (.cells #[tv,I f,I b,I d,I al] 24)).alloc (.cells #[I x1,I x2,I x3,I x4,I x5,I x6,.slice da xs.length dc,.slice sa ss.length sc] 67)).alloc (.cells #[I 3,I me,I mo,I id,I te,I de,I fe,I pr,I ch,I un,I ta,I ow,I bp] 48))) (g:=w.heap.size+3) (by simp) [I 0,I 0,I 0,I 0,I 0,I 0,.slice none 0 0,.slice none 0 0] 67).alloc (.cells #[I id,I 0,I un,I ta,I x2] 69)).alloc (.cells #[I 0,I 0,I 0,I 0,I 0,I 0,.slice none 0 0] 64)).alloc (.cells #[I 0,I 0,I 0,I 0,I 0,I 0,I 0] 39);have oS:=((Own.new (w:=((((w.alloc (.cells #[tv,I f,I b,I d,I al] 24)).alloc (.cells #[I x1,I x2,I x3,I x4,I x5,I x6,.slice da xs.length dc,.slice sa ss.length sc] 67)).alloc (.cells #[I 3,I me,I mo,I id,I te,I de,I fe,I pr,I ch,I un,I ta,I ow,I bp] 48)).alloc (.cells #[I 0,I 0,I 0,I 0,I 0,I 0,.slice none 0 0,.slice none 0 0] 67))) (g:=w.heap.size+4) (by simp) [I id,I 0,I un,I ta,I x2] 69).alloc (.cells #[I 0,I 0,I 0,I 0,I 0,I 0,.slice none 0 0] 64)).alloc (.cells #[I 0,I 0,I 0,I 0,I 0,I 0,I 0] 39);have oA:=(Own.new (w:=(((((w.alloc (.cells #[tv,I f,I b,I d,I al] 24)).alloc (.cells #[I x1,I x2,I x3,I x4,I x5,I x6,.slice da xs.length dc,.slice sa ss.length sc] 67)).alloc (.cells #[I 3,I me,I mo,I id,I te,I de,I fe,I pr,I ch,I un,I ta,I ow,I bp] 48)).alloc (.cells #[I 0,I 0,I 0,I 0,I 0,I 0,.slice none 0 0,.slice none 0 0] 67)).alloc (.cells #[I id,I 0,I un,I ta,I x2] 69))) (g:=w.heap.size+5) (by simp) [I 0,I 0,I 0,I 0,I 0,I 0,.slice none 0 0] 64).alloc (.cells #[I 0,I 0,I 0,I 0,I 0,I 0,I 0] 39);have oB:=Own.new (w:=((((((w.alloc (.cells #[tv,I f,I b,I d,I al] 24)).alloc (.cells #[I x1,I x2,I x3,I x4,I x5,I x6,.slice da xs.length dc,.slice sa ss.length sc] 67)).alloc (.cells #[I 3,I me,I mo,I id,I te,I de,I fe,I pr,I ch,I un,I ta,I ow,I bp] 48)).alloc (.cells #[I 0,I 0,I 0,I 0,I 0,I 0,.slice none 0 0,.slice none 0 0] 67)).alloc (.cells #[I id,I 0,I un,I ta,I x2] 69)).alloc (.cells #[I 0,I 0,I 0,I 0,I 0,I 0,.slice none 0 0] 64))) (g:=w.heap.size+6) (by simp) [I 0,I 0,I 0,I 0,I 0,I 0,I 0] 39;have bx0:=boxed_below w (.cells #[tv,I f,I b,I d,I al] 24);have bx1:=bx0.alloc bx0.size (.cells #[I x1,I x2,I x3,I x4,I x5,I x6,.slice da xs.length dc,.slice sa ss.length sc] 67);have bx2:=bx1.alloc bx1.size (.cells #[I 3,I me,I mo,I id,I te,I de,I fe,I pr,I ch,I un,I ta,I ow,I bp] 48);have bx3:=bx2.alloc bx2.size (.cells #[I 0,I 0,I 0,I 0,I 0,I 0,.slice none 0 0,.slice none 0 0] 67);have bx4:=bx3.alloc bx3.size (.cells #[I id,I 0,I un,I ta,I x2] 69);have bx5:=bx4.alloc bx4.size (.cells #[I 0,I 0,I 0,I 0,I 0,I 0,.slice none 0 0] 64);have kB:=bx5.alloc bx5.size (.cells #[I 0,I 0,I 0,I 0,I 0,I 0,I 0] 39);clear bx0 bx1 bx2 bx3 bx4 bx5;obtain ⟨X1,X2,X3,X4,X5,X6⟩:=X;obtain ⟨B1,B2,B3,B4,B5,B6,B7⟩:=Bl;simp only at *;go_enter Tryz.func99,Tryz.ntmps99
  go_upto_if 60 with fail
  go_cut [13] (fun s13 wx=>∃ ua uc,s13=I E∧Own wx (w.heap.size+1) [I x1,I x2,I x3,I x4,I x5,I x6,.slice da xs.length dc,.slice sa ss.length sc]∧Own wx (w.heap.size+2) [I 3,I me,I mo,I id,I te,I de,I fe,I pr,I ch,I un,I ta,I ow,I bp]∧Own wx (w.heap.size+3) [I 0,I 0,I 0,I 0,I 0,I 0,.slice none 0 0,.slice none 0 0]∧Own wx (w.heap.size+4) [I id,I 0,I un,I ta,I x2]∧Own wx (w.heap.size+5) [I X1,I X2,I X3,I X4,I X5,I X6,.slice ua L.length uc]∧Own wx (w.heap.size+6) [I B1,I B2,I B3,I B4,I B5,I B6,I B7]∧Sl wx (.slice ua L.length uc) 2 L.length (L.flatMap ADebt.cells)∧FarB (w.heap.size+7) (.slice ua L.length uc)∧Below w.heap.size w wx∧w.heap.size+7≤wx.heap.size)
  case first=>
    go_wp2_with fail
    refine (A.out _ (hS.below kB) (tS.below kB)).mono ?_;rintro e w1 ⟨u,rfl,hu,k1,hFu⟩;obtain ⟨ua,uc,rfl,-⟩:=_root_.id hu;have oC1:=oC.below k1;have oV1:=oV.below k1;have oZ1:=oZ.below k1;have oS1:=oS.below k1;have oA1:=oA.below k1;have oB1:=oB.below k1;have kw:=kB.trans (k1.mono kB.size);have hs1:w.heap.size+7≤w1.heap.size:=by have:=k1.size;simp at this;omega
    have hFu2:FarB (w.heap.size+7) (.slice ua L.length uc):=hFu.mono (by simp);have hf5:Far (w.heap.size+5) (.slice ua L.length uc):=hFu2.far (by omega);have hf6:Far (w.heap.size+6) (.slice ua L.length uc):=hFu2.far (by omega);have hf4:Far (w.heap.size+4) (.slice ua L.length uc):=hFu2.far (by omega);have aO:=oA1;have aA:=aO.s7;clear aO;have bO:=oB1;have bA:=bO.s7;clear bO;have sO:=oS1;have sA:=sO.s5;clear sO;have r1:=set_same;have r2:=set_off;have r3:=set_blk;have OC:=Lib.hid oC1;have OV:=Lib.hid oV1;have OZ:=Lib.hid oZ1;have OS:=Lib.hid oS1;have OA:=Lib.hid oA1;have OB:=Lib.hid oB1;have HU:=Lib.hid hu;have KW:=Lib.hid kw;have HFB:=Lib.hid hFu2;have HF5:=Lib.hid hf5;have HF6:=Lib.hid hf6;have HF4:=Lib.hid hf4;clear oC oV oZ oS oA oB oT k1 hFu hu kB kw oC1 oV1 oZ1 oS1 oA1 oB1 hFu2 hf5 hf6 hf4;go_wp2;go_meet;refine ⟨_,_,rfl,?_,?_,?_,?_,?_,?_,?_,HFB.out,?_,?_⟩
    · repeat (first | with_reducible exact OC.out | refine Own.other ?_ (by simp<;>omega) _ | fail)
    · repeat (first | with_reducible exact OV.out | refine Own.other ?_ (by simp<;>omega) _ | fail)
    · repeat (first | with_reducible exact OZ.out | refine Own.other ?_ (by simp<;>omega) _ | fail)
    · skip
      repeat (first | with_reducible exact OS.out | refine Own.other ?_ (by simp<;>omega) _ | fail)
    · have hA:=OA.out.set7 (I X1) (I X2) (I X3) (I X4) (I X5) (I X6) (.slice ua L.length uc)
      repeat (first | with_reducible exact hA | refine Own.other ?_ (by simp<;>omega) _ | fail)
    · skip
      refine Own.set7 (?_:Own _ _ [I 0,I 0,I 0,I 0,I 0,I 0,I 0]) _ _ _ _ _ _ _
      repeat (first | with_reducible exact OB.out | refine Own.other ?_ (by simp<;>omega) _ | fail)
    · repeat (first | with_reducible exact HU.out | with_reducible refine Sl.set ?_ HF5.out _ | with_reducible refine Sl.set ?_ HF6.out _ | with_reducible refine Sl.set ?_ HF4.out _ | with_reducible refine Sl.drew ?_ | fail)
    · have kk:=KW.out
      exact below_autor
    · simp
      omega
  case rest =>
    obtain ⟨ua,uc,rfl,oC,oV,oZ,oS,oA,oB,hu,hF,kw,hsz⟩:=hcut;have q1:=set_same;have q2:=set_off;have q3:=set_blk;have NE:=neqBill2
    by_cases hE:E=0
    · subst hE
      cases hb:eqE7 B1 B2 B3 B4 B5 B6 B7 id te de fe pr ch un
      · have hF8:=Lib.hid (show F=8 by rw [HF.out,hb];rfl)
        clear HF;have vO:=oV;have vA:=vO.s13;clear vO;have zO:=oZ;have zA:=zO.s8;clear zO;have bO:=oB;have bA:=bO.s7;clear bO;clear oV oZ oB oC oS oA hu hF A hS tS hso hso';go_wp2;exact bodyPost_ret (v:=T2 (custV 0 0 0 0 0 0 (.slice none 0 0) (.slice none 0 0)) (I 8)) (by simp [results,Tryz.results99,go_sem, *];try omega) rfl (HapQ.bad hF8.out (by decide) below_autor)
      · have hF0 := Lib.hid (show F = 0 by rw [HF.out, hb]; rfl)
        clear HF;obtain ⟨i0,hi,hz0,hz1,hz2⟩:=info_parts info_solds;have hro:∀ z,(Value.slice sa ss.length sc).ownBlock=some z→B≤z∧z < w.heap.size:=fun z hz=>hso'.lt z hz;have HRO:=Lib.hid hro;have HOW:=Lib.hid (owns_below hso' kw);have HU:=Lib.hid hu;have HFB:=Lib.hid hF;have OA:=Lib.hid oA;have OZ:=Lib.hid oZ;have KW:=Lib.hid kw;have vO:=oV;have vA:=vO.s13;clear vO;have zO:=oZ;have zA:=zO.s8;clear zO;have bO:=oB;have bA:=bO.s7;clear bO;have aO:=oA;have aA:=aO.s7;clear aO;have sO:=oS;have sA:=sO.s5;clear sO;have cO:=oC;have cA:=cO.s8;clear cO;clear oV oZ oB oC oS oA hu hF A hS tS hso hso' hro;have ra:∀ (o:Obj) (g j:Nat),g < wc.heap.size→(wc.alloc o).cell? ⟨g,j,none⟩=wc.cell? ⟨g,j,none⟩:=fun o g j h=>(boxed_below wc o).cell (p:=⟨g,j,none⟩) h;have rb:∀ (o:Obj) (g j:Nat),g < wc.heap.size→(wc.alloc o).frozen? ⟨g,j,none⟩=wc.frozen? ⟨g,j,none⟩:=fun o g j h=>(boxed_below wc o).frozen (p:=⟨g,j,none⟩) h;have hl1:w.heap.size+1 < wc.heap.size:=by omega
        have hl4:w.heap.size+4 < wc.heap.size:=by omega
        have hl5:w.heap.size+5 < wc.heap.size:=by omega
        go_upto_region 20 with fail
        go_region_law
          (first
            | (refine step_append_lies _ (by rfl) _ _ _ (by rfl) B 69 i0 (.agg #[.int .i64 0, .int .i64 0, .int .i64 0, .int .i64 0, .int .i64 0]) 5 40 Tryz.underlying65 hi hz0 hz1 hz2 rfl (by decide) (.slice sa ss.length sc) ss.length (ss.flatMap ASold.cells) (by rfl) (owns_below HOW.out below_autor) ⟨wc.heap.size, 0, none⟩ 1 1 [I id, I 0, I un, I ta, I x2] (by rfl) (by rfl) (news_lit _ _ _) (oneCells_lit rfl) (by omega) (by unfold maxLen; omega) (by omega) (by first | omega | (simp; done) | (simp; omega)) _ rfl ?_; intro gg cap2 w5 hown' hgrow hat hlt1
               have hG2:=grown_pre (W:=wc) hgrow below_autor;have hG1:=grown_pre2 (Nat.le_refl _) KW.out hG2;have oA5:=OA.out.grown hG2 (fun e=>by have:=(HRO.out _ e.symm).2;omega);have oZ5:=OZ.out.grown hG2 (fun e=>by have:=(HRO.out _ e.symm).2;omega)
               have hgs:(Value.slice sa ss.length sc).ownBlock=some gg∨(w.heap.size≤gg∧wc.heap.size≤gg):=by
                 rcases hat with h | h
                 · exact .inl h
                 · right
                   simp at h;omega
               have hg3:gg≠w.heap.size+3:=by
                 rcases hgs with h | h
                 · have:=(HRO.out _ h).2;omega
                 · omega
               have HG:=Lib.hid (hapG_of (c:=⟨⟨X1,X2,X3,X4,X5,X6⟩,L,ss++[⟨id,0,un,ta,x2⟩]⟩) (S:=ss) (s:=⟨id,0,un,ta,x2⟩) (w:=w) (wc:=wc) HU.out (HFB.out.mono (by omega)) hown' rfl rfl hG1 hG2 (fun z hz=>(HRO.out z hz).2) hgs);have hx0:w.heap.size≤w.heap.size+3:=by omega
               have hx1:=Lib.hid (show dBlk (ofCust ⟨⟨X1,X2,X3,X4,X5,X6⟩,L,ss++[⟨id,0,un,ta,x2⟩]⟩ ua uc (some ⟨gg,0,none⟩) cap2)≠some (w.heap.size+3) from fun e=>by
                 unfold dBlk ofCust at e;simp only at e
                 split at e
                 · cases ua with
                   | none=>cases e
                   | some ad=>
                     injection e with e
                     have e:ad.block=w.heap.size+3:=e;have h7:=HFB.out ad _ _ rfl;omega
                 · cases e)
               have hx2:=Lib.hid (show sBlk (ofCust ⟨⟨X1,X2,X3,X4,X5,X6⟩,L,ss++[⟨id,0,un,ta,x2⟩]⟩ ua uc (some ⟨gg,0,none⟩) cap2)≠some (w.heap.size+3) from fun e=>by
                 have e:gg=w.heap.size+3:=by injection e
                 exact hg3 e)
               have mO:=oA5;have mA:=mO.s7;clear mO;have nO:=oZ5;have nA:=nO.s8;clear nO;clear oA5 oZ5 hown' hgrow hat hgs hG1 hG2)
            | fail)
        all_goals
          go_wp2;exact bodyPost_ret (v:=T2 (custV X1 X2 X3 X4 X5 X6 (.slice ua L.length uc) (.slice (some ⟨gg,0,none⟩) (ss.length+1) cap2)) (I 0)) (by simp [results,Tryz.results99,go_sem, *];try omega) rfl (retG hF0.out (by repeat (first | with_reducible exact HG.out | with_reducible refine HapG.store ?_ (by assumption) hx1.out hx2.out | with_reducible refine HapG.drew ?_)))
    · have hFE:=Lib.hid (show F=E by rw [HF.out,if_neg hE])
      clear HF;have hE':(E != 0)=true:=by simp [hE]
      have HE:=Lib.hid hE;have vO:=oV;have vA:=vO.s13;clear vO;have zO:=oZ;have zA:=zO.s8;clear zO;clear oV oZ oB oC oS oA hu hF A hS tS hso hE hso';go_wp2;exact bodyPost_ret (v:=T2 (custV 0 0 0 0 0 0 (.slice none 0 0) (.slice none 0 0)) (I E)) (by simp [results,Tryz.results99,go_sem, *];try omega) rfl (HapQ.bad hFE.out HE.out below_autor)
end
section
open Go Go.RowKit
theorem hap_rekey (x1 x2 x3 x4 x5 x6 me mo id te de fe pr ch un ta ow bp f b d al E Q : Int) (da sa : Option Addr) (dc sc : Nat) (xs L : List ADebt) (ss : List ASold) (ts : List AStep) (tv : Value) (X : AAcc) (Bl : ABill) (B : Nat) (w : World)
    (A:Hid (∀ W,Sl W (.slice da xs.length dc) 2 xs.length (xs.flatMap ADebt.cells)→Calls Tryz.prog 30 #[.agg #[I x1,I x2,I x3,I x4,I x5,I x6,.slice da xs.length dc]] W (GrewAccBF X L Bl E W)))
    (hS:Sl w (.slice da xs.length dc) 2 xs.length (xs.flatMap ADebt.cells)) (tS:Sl w tv 2 ts.length (ts.flatMap AStep.cells)) (hso:w.ownsRow B 69 5 (.slice sa ss.length sc) ss.length (ss.flatMap ASold.cells)) (hBw:B≤w.heap.size) (hlen:ss.length≤1000) (F:Int)
    (HF:Hid (F=if E=0 then (if eqE7 Bl.id Bl.tender Bl.debt Bl.fee Bl.price Bl.change Bl.units id te de fe pr ch un then 0 else 8) else E)) (hQ:IntKind.i64.wrap (x2+1)=Q):
    Calls Tryz.prog 99 #[.agg #[tv,I f,I b,I d,I al],custV x1 x2 x3 x4 x5 x6 (.slice da xs.length dc) (.slice sa ss.length sc),evV 4 me mo id te de fe pr ch un ta ow bp] w (HapQ B F ⟨X,L,ss++[⟨id,2,Q,ta,x2⟩]⟩ (Value.slice sa ss.length sc).ownBlock w):=by
  have hso':=hso;have oT:=((((((Own.new (w:=w) (g:=w.heap.size) (by rfl) [tv,I f,I b,I d,I al] 24).alloc (.cells #[I x1,I x2,I x3,I x4,I x5,I x6,.slice da xs.length dc,.slice sa ss.length sc] 67)).alloc (.cells #[I 4,I me,I mo,I id,I te,I de,I fe,I pr,I ch,I un,I ta,I ow,I bp] 48)).alloc (.cells #[I 0,I 0,I 0,I 0,I 0,I 0,.slice none 0 0,.slice none 0 0] 67)).alloc (.cells #[I id,I 0,I un,I ta,I x2] 69)).alloc (.cells #[I 0,I 0,I 0,I 0,I 0,I 0,.slice none 0 0] 64)).alloc (.cells #[I 0,I 0,I 0,I 0,I 0,I 0,I 0] 39);have oC:=(((((Own.new (w:=(w.alloc (.cells #[tv,I f,I b,I d,I al] 24))) (g:=w.heap.size+1) (by simp) [I x1,I x2,I x3,I x4,I x5,I x6,.slice da xs.length dc,.slice sa ss.length sc] 67).alloc (.cells #[I 4,I me,I mo,I id,I te,I de,I fe,I pr,I ch,I un,I ta,I ow,I bp] 48)).alloc (.cells #[I 0,I 0,I 0,I 0,I 0,I 0,.slice none 0 0,.slice none 0 0] 67)).alloc (.cells #[I id,I 0,I un,I ta,I x2] 69)).alloc (.cells #[I 0,I 0,I 0,I 0,I 0,I 0,.slice none 0 0] 64)).alloc (.cells #[I 0,I 0,I 0,I 0,I 0,I 0,I 0] 39);have oV:=((((Own.new (w:=((w.alloc (.cells #[tv,I f,I b,I d,I al] 24)).alloc (.cells #[I x1,I x2,I x3,I x4,I x5,I x6,.slice da xs.length dc,.slice sa ss.length sc] 67))) (g:=w.heap.size+2) (by simp) [I 4,I me,I mo,I id,I te,I de,I fe,I pr,I ch,I un,I ta,I ow,I bp] 48).alloc (.cells #[I 0,I 0,I 0,I 0,I 0,I 0,.slice none 0 0,.slice none 0 0] 67)).alloc (.cells #[I id,I 0,I un,I ta,I x2] 69)).alloc (.cells #[I 0,I 0,I 0,I 0,I 0,I 0,.slice none 0 0] 64)).alloc (.cells #[I 0,I 0,I 0,I 0,I 0,I 0,I 0] 39);have oZ:=(((Own.new (w:=(((w.alloc (.cells #[tv,I f,I b,I d,I al] 24)).alloc (.cells #[I x1,I x2,I x3,I x4,I x5,I x6,.slice da xs.length dc,.slice sa ss.length sc] 67)).alloc (.cells #[I 4,I me,I mo,I id,I te,I de,I fe,I pr,I ch,I un,I ta,I ow,I bp] 48))) (g:=w.heap.size+3) (by simp) [I 0,I 0,I 0,I 0,I 0,I 0,.slice none 0 0,.slice none 0 0] 67).alloc (.cells #[I id,I 0,I un,I ta,I x2] 69)).alloc (.cells #[I 0,I 0,I 0,I 0,I 0,I 0,.slice none 0 0] 64)).alloc (.cells #[I 0,I 0,I 0,I 0,I 0,I 0,I 0] 39);have oS:=((Own.new (w:=((((w.alloc (.cells #[tv,I f,I b,I d,I al] 24)).alloc (.cells #[I x1,I x2,I x3,I x4,I x5,I x6,.slice da xs.length dc,.slice sa ss.length sc] 67)).alloc (.cells #[I 4,I me,I mo,I id,I te,I de,I fe,I pr,I ch,I un,I ta,I ow,I bp] 48)).alloc (.cells #[I 0,I 0,I 0,I 0,I 0,I 0,.slice none 0 0,.slice none 0 0] 67))) (g:=w.heap.size+4) (by simp) [I id,I 0,I un,I ta,I x2] 69).alloc (.cells #[I 0,I 0,I 0,I 0,I 0,I 0,.slice none 0 0] 64)).alloc (.cells #[I 0,I 0,I 0,I 0,I 0,I 0,I 0] 39);have oA:=(Own.new (w:=(((((w.alloc (.cells #[tv,I f,I b,I d,I al] 24)).alloc (.cells #[I x1,I x2,I x3,I x4,I x5,I x6,.slice da xs.length dc,.slice sa ss.length sc] 67)).alloc (.cells #[I 4,I me,I mo,I id,I te,I de,I fe,I pr,I ch,I un,I ta,I ow,I bp] 48)).alloc (.cells #[I 0,I 0,I 0,I 0,I 0,I 0,.slice none 0 0,.slice none 0 0] 67)).alloc (.cells #[I id,I 0,I un,I ta,I x2] 69))) (g:=w.heap.size+5) (by simp) [I 0,I 0,I 0,I 0,I 0,I 0,.slice none 0 0] 64).alloc (.cells #[I 0,I 0,I 0,I 0,I 0,I 0,I 0] 39);have oB:=Own.new (w:=((((((w.alloc (.cells #[tv,I f,I b,I d,I al] 24)).alloc (.cells #[I x1,I x2,I x3,I x4,I x5,I x6,.slice da xs.length dc,.slice sa ss.length sc] 67)).alloc (.cells #[I 4,I me,I mo,I id,I te,I de,I fe,I pr,I ch,I un,I ta,I ow,I bp] 48)).alloc (.cells #[I 0,I 0,I 0,I 0,I 0,I 0,.slice none 0 0,.slice none 0 0] 67)).alloc (.cells #[I id,I 0,I un,I ta,I x2] 69)).alloc (.cells #[I 0,I 0,I 0,I 0,I 0,I 0,.slice none 0 0] 64))) (g:=w.heap.size+6) (by simp) [I 0,I 0,I 0,I 0,I 0,I 0,I 0] 39;have bx0:=boxed_below w (.cells #[tv,I f,I b,I d,I al] 24);have bx1:=bx0.alloc bx0.size (.cells #[I x1,I x2,I x3,I x4,I x5,I x6,.slice da xs.length dc,.slice sa ss.length sc] 67);have bx2:=bx1.alloc bx1.size (.cells #[I 4,I me,I mo,I id,I te,I de,I fe,I pr,I ch,I un,I ta,I ow,I bp] 48);have bx3:=bx2.alloc bx2.size (.cells #[I 0,I 0,I 0,I 0,I 0,I 0,.slice none 0 0,.slice none 0 0] 67);have bx4:=bx3.alloc bx3.size (.cells #[I id,I 0,I un,I ta,I x2] 69);have bx5:=bx4.alloc bx4.size (.cells #[I 0,I 0,I 0,I 0,I 0,I 0,.slice none 0 0] 64);have kB:=bx5.alloc bx5.size (.cells #[I 0,I 0,I 0,I 0,I 0,I 0,I 0] 39);clear bx0 bx1 bx2 bx3 bx4 bx5;obtain ⟨X1,X2,X3,X4,X5,X6⟩:=X;obtain ⟨B1,B2,B3,B4,B5,B6,B7⟩:=Bl;simp only at *;go_enter Tryz.func99,Tryz.ntmps99
  go_upto_if 73 with fail
  go_cut [13] (fun s13 wx=>∃ ua uc,s13=I E∧Own wx (w.heap.size+1) [I x1,I x2,I x3,I x4,I x5,I x6,.slice da xs.length dc,.slice sa ss.length sc]∧Own wx (w.heap.size+2) [I 4,I me,I mo,I id,I te,I de,I fe,I pr,I ch,I un,I ta,I ow,I bp]∧Own wx (w.heap.size+3) [I 0,I 0,I 0,I 0,I 0,I 0,.slice none 0 0,.slice none 0 0]∧Own wx (w.heap.size+4) [I id,I 2,I Q,I ta,I x2]∧Own wx (w.heap.size+5) [I X1,I X2,I X3,I X4,I X5,I X6,.slice ua L.length uc]∧Own wx (w.heap.size+6) [I B1,I B2,I B3,I B4,I B5,I B6,I B7]∧Sl wx (.slice ua L.length uc) 2 L.length (L.flatMap ADebt.cells)∧FarB (w.heap.size+7) (.slice ua L.length uc)∧Below w.heap.size w wx∧w.heap.size+7≤wx.heap.size)
  case first=>
    go_wp2_with fail
    refine (A.out _ (hS.below kB)).mono ?_;rintro e w1 ⟨u,rfl,hu,k1,hFu⟩;obtain ⟨ua,uc,rfl,-⟩:=_root_.id hu;have oC1:=oC.below k1;have oV1:=oV.below k1;have oZ1:=oZ.below k1;have oS1:=oS.below k1;have oA1:=oA.below k1;have oB1:=oB.below k1;have kw:=kB.trans (k1.mono kB.size);have hs1:w.heap.size+7≤w1.heap.size:=by have:=k1.size;simp at this;omega
    have hFu2:FarB (w.heap.size+7) (.slice ua L.length uc):=hFu.mono (by simp);have hf5:Far (w.heap.size+5) (.slice ua L.length uc):=hFu2.far (by omega);have hf6:Far (w.heap.size+6) (.slice ua L.length uc):=hFu2.far (by omega);have hf4:Far (w.heap.size+4) (.slice ua L.length uc):=hFu2.far (by omega);have aO:=oA1;have aA:=aO.s7;clear aO;have bO:=oB1;have bA:=bO.s7;clear bO;have sO:=oS1;have sA:=sO.s5;clear sO;have r1:=set_same;have r2:=set_off;have r3:=set_blk;have OC:=Lib.hid oC1;have OV:=Lib.hid oV1;have OZ:=Lib.hid oZ1;have OS:=Lib.hid oS1;have OA:=Lib.hid oA1;have OB:=Lib.hid oB1;have HU:=Lib.hid hu;have KW:=Lib.hid kw;have HFB:=Lib.hid hFu2;have HF5:=Lib.hid hf5;have HF6:=Lib.hid hf6;have HF4:=Lib.hid hf4;clear oC oV oZ oS oA oB oT k1 hFu hu kB kw oC1 oV1 oZ1 oS1 oA1 oB1 hFu2 hf5 hf6 hf4;have cO:=OC.out;have cA:=cO.s8;clear cO;go_wp2;go_meet;refine ⟨_,_,rfl,?_,?_,?_,?_,?_,?_,?_,HFB.out,?_,?_⟩
    · repeat (first | with_reducible exact OC.out | refine Own.other ?_ (by simp<;>omega) _ | fail)
    · repeat (first | with_reducible exact OV.out | refine Own.other ?_ (by simp<;>omega) _ | fail)
    · repeat (first | with_reducible exact OZ.out | refine Own.other ?_ (by simp<;>omega) _ | fail)
    · refine Own.set12 (?_:Own _ _ [I id,I 0,I un,I ta,I x2]) _ _
      repeat (first | with_reducible exact OS.out | refine Own.other ?_ (by simp<;>omega) _ | fail)
    · have hA:=OA.out.set7 (I X1) (I X2) (I X3) (I X4) (I X5) (I X6) (.slice ua L.length uc)
      repeat (first | with_reducible exact hA | refine Own.other ?_ (by simp<;>omega) _ | fail)
    · refine Own.other (Own.other ?_ (by simp<;>omega) _) (by simp<;>omega) _
      refine Own.set7 (?_:Own _ _ [I 0,I 0,I 0,I 0,I 0,I 0,I 0]) _ _ _ _ _ _ _
      repeat (first | with_reducible exact OB.out | refine Own.other ?_ (by simp<;>omega) _ | fail)
    · repeat (first | with_reducible exact HU.out | with_reducible refine Sl.set ?_ HF5.out _ | with_reducible refine Sl.set ?_ HF6.out _ | with_reducible refine Sl.set ?_ HF4.out _ | with_reducible refine Sl.drew ?_ | fail)
    · have kk:=KW.out
      exact below_autor
    · simp
      omega
  case rest =>
    obtain ⟨ua,uc,rfl,oC,oV,oZ,oS,oA,oB,hu,hF,kw,hsz⟩:=hcut;have q1:=set_same;have q2:=set_off;have q3:=set_blk;have NE:=neqBill2
    by_cases hE:E=0
    · subst hE
      cases hb:eqE7 B1 B2 B3 B4 B5 B6 B7 id te de fe pr ch un
      · have hF8:=Lib.hid (show F=8 by rw [HF.out,hb];rfl)
        clear HF;have vO:=oV;have vA:=vO.s13;clear vO;have zO:=oZ;have zA:=zO.s8;clear zO;have bO:=oB;have bA:=bO.s7;clear bO;clear oV oZ oB oC oS oA hu hF A hS tS hso hso';go_wp2;exact bodyPost_ret (v:=T2 (custV 0 0 0 0 0 0 (.slice none 0 0) (.slice none 0 0)) (I 8)) (by simp [results,Tryz.results99,go_sem, *];try omega) rfl (HapQ.bad hF8.out (by decide) below_autor)
      · have hF0 := Lib.hid (show F = 0 by rw [HF.out, hb]; rfl)
        clear HF;obtain ⟨i0,hi,hz0,hz1,hz2⟩:=info_parts info_solds;have hro:∀ z,(Value.slice sa ss.length sc).ownBlock=some z→B≤z∧z < w.heap.size:=fun z hz=>hso'.lt z hz;have HRO:=Lib.hid hro;have HOW:=Lib.hid (owns_below hso' kw);have HU:=Lib.hid hu;have HFB:=Lib.hid hF;have OA:=Lib.hid oA;have OZ:=Lib.hid oZ;have KW:=Lib.hid kw;have vO:=oV;have vA:=vO.s13;clear vO;have zO:=oZ;have zA:=zO.s8;clear zO;have bO:=oB;have bA:=bO.s7;clear bO;have aO:=oA;have aA:=aO.s7;clear aO;have sO:=oS;have sA:=sO.s5;clear sO;have cO:=oC;have cA:=cO.s8;clear cO;clear oV oZ oB oC oS oA hu hF A hS tS hso hso' hro;have ra:∀ (o:Obj) (g j:Nat),g < wc.heap.size→(wc.alloc o).cell? ⟨g,j,none⟩=wc.cell? ⟨g,j,none⟩:=fun o g j h=>(boxed_below wc o).cell (p:=⟨g,j,none⟩) h;have rb:∀ (o:Obj) (g j:Nat),g < wc.heap.size→(wc.alloc o).frozen? ⟨g,j,none⟩=wc.frozen? ⟨g,j,none⟩:=fun o g j h=>(boxed_below wc o).frozen (p:=⟨g,j,none⟩) h;have hl1:w.heap.size+1 < wc.heap.size:=by omega
        have hl4:w.heap.size+4 < wc.heap.size:=by omega
        have hl5:w.heap.size+5 < wc.heap.size:=by omega
        go_upto_region 20 with fail
        go_region_law
          (first
            | (refine step_append_lies _ (by rfl) _ _ _ (by rfl) B 69 i0 (.agg #[.int .i64 0, .int .i64 0, .int .i64 0, .int .i64 0, .int .i64 0]) 5 40 Tryz.underlying65 hi hz0 hz1 hz2 rfl (by decide) (.slice sa ss.length sc) ss.length (ss.flatMap ASold.cells) (by rfl) (owns_below HOW.out below_autor) ⟨wc.heap.size, 0, none⟩ 1 1 [I id, I 2, I Q, I ta, I x2] (by rfl) (by rfl) (news_lit _ _ _) (oneCells_lit rfl) (by omega) (by unfold maxLen; omega) (by omega) (by first | omega | (simp; done) | (simp; omega)) _ rfl ?_; intro gg cap2 w5 hown' hgrow hat hlt1
               have hG2:=grown_pre (W:=wc) hgrow below_autor;have hG1:=grown_pre2 (Nat.le_refl _) KW.out hG2;have oA5:=OA.out.grown hG2 (fun e=>by have:=(HRO.out _ e.symm).2;omega);have oZ5:=OZ.out.grown hG2 (fun e=>by have:=(HRO.out _ e.symm).2;omega)
               have hgs:(Value.slice sa ss.length sc).ownBlock=some gg∨(w.heap.size≤gg∧wc.heap.size≤gg):=by
                 rcases hat with h | h
                 · exact .inl h
                 · right
                   simp at h;omega
               have hg3:gg≠w.heap.size+3:=by
                 rcases hgs with h | h
                 · have:=(HRO.out _ h).2;omega
                 · omega
               have HG:=Lib.hid (hapG_of (c:=⟨⟨X1,X2,X3,X4,X5,X6⟩,L,ss++[⟨id,2,Q,ta,x2⟩]⟩) (S:=ss) (s:=⟨id,2,Q,ta,x2⟩) (w:=w) (wc:=wc) HU.out (HFB.out.mono (by omega)) hown' rfl rfl hG1 hG2 (fun z hz=>(HRO.out z hz).2) hgs);have hx0:w.heap.size≤w.heap.size+3:=by omega
               have hx1:=Lib.hid (show dBlk (ofCust ⟨⟨X1,X2,X3,X4,X5,X6⟩,L,ss++[⟨id,2,Q,ta,x2⟩]⟩ ua uc (some ⟨gg,0,none⟩) cap2)≠some (w.heap.size+3) from fun e=>by
                 unfold dBlk ofCust at e;simp only at e
                 split at e
                 · cases ua with
                   | none=>cases e
                   | some ad=>
                     injection e with e
                     have e:ad.block=w.heap.size+3:=e;have h7:=HFB.out ad _ _ rfl;omega
                 · cases e)
               have hx2:=Lib.hid (show sBlk (ofCust ⟨⟨X1,X2,X3,X4,X5,X6⟩,L,ss++[⟨id,2,Q,ta,x2⟩]⟩ ua uc (some ⟨gg,0,none⟩) cap2)≠some (w.heap.size+3) from fun e=>by
                 have e:gg=w.heap.size+3:=by injection e
                 exact hg3 e)
               have mO:=oA5;have mA:=mO.s7;clear mO;have nO:=oZ5;have nA:=nO.s8;clear nO;clear oA5 oZ5 hown' hgrow hat hgs hG1 hG2)
            | fail)
        all_goals
          go_wp2;exact bodyPost_ret (v:=T2 (custV X1 X2 X3 X4 X5 X6 (.slice ua L.length uc) (.slice (some ⟨gg,0,none⟩) (ss.length+1) cap2)) (I 0)) (by simp [results,Tryz.results99,go_sem, *];try omega) rfl (retG hF0.out (by repeat (first | with_reducible exact HG.out | with_reducible refine HapG.store ?_ (by assumption) hx1.out hx2.out | with_reducible refine HapG.drew ?_)))
    · have hFE:=Lib.hid (show F=E by rw [HF.out,if_neg hE])
      clear HF;have hE':(E != 0)=true:=by simp [hE]
      have HE:=Lib.hid hE;have vO:=oV;have vA:=vO.s13;clear vO;have zO:=oZ;have zA:=zO.s8;clear zO;clear oV oZ oB oC oS oA hu hF A hS tS hso hE hso';go_wp2;exact bodyPost_ret (v:=T2 (custV 0 0 0 0 0 0 (.slice none 0 0) (.slice none 0 0)) (I E)) (by simp [results,Tryz.results99,go_sem, *];try omega) rfl (HapQ.bad hFE.out HE.out below_autor)
end
section
open Go Go.RowKit
theorem hap_charge (x1 x2 x3 x4 x5 x6 me mo id te de fe pr ch un ta ow bp f b d al F : Int) (da sa : Option Addr) (dc sc : Nat) (xs L : List ADebt) (ss : List ASold) (tv : Value) (X : AAcc) (B : Nat) (w : World)
    (A:Hid (∀ W,Sl W (.slice da xs.length dc) 2 xs.length (xs.flatMap ADebt.cells)→Calls Tryz.prog 139 #[.agg #[I x1,I x2,I x3,I x4,I x5,I x6,.slice da xs.length dc],.agg #[I ow,I bp]] W (GrewAccF X L F W)))
    (hS:Sl w (.slice da xs.length dc) 2 xs.length (xs.flatMap ADebt.cells)) (hso:w.ownsRow B 69 5 (.slice sa ss.length sc) ss.length (ss.flatMap ASold.cells)):
    Calls Tryz.prog 99 #[.agg #[tv,I f,I b,I d,I al],custV x1 x2 x3 x4 x5 x6 (.slice da xs.length dc) (.slice sa ss.length sc),evV 5 me mo id te de fe pr ch un ta ow bp] w (HapQ B F ⟨X,L,ss⟩ (Value.slice sa ss.length sc).ownBlock w):=by
  obtain ⟨kB,oT,oC,oV,oZ⟩:=boxes4 w [tv,I f,I b,I d,I al] 24 [I x1,I x2,I x3,I x4,I x5,I x6,.slice da xs.length dc,.slice sa ss.length sc] 67 [I 5,I me,I mo,I id,I te,I de,I fe,I pr,I ch,I un,I ta,I ow,I bp] 48 [I 0,I 0,I 0,I 0,I 0,I 0,.slice none 0 0,.slice none 0 0] 67;obtain ⟨X1,X2,X3,X4,X5,X6⟩:=X;go_enter Tryz.func99,Tryz.ntmps99
  go_wp2_with fail
  refine (A.out _ (hS.below kB)).mono ?_;rintro e w1 ⟨u,rfl,hu,k1,hFu⟩;obtain ⟨ua,uc,rfl,-⟩:=_root_.id hu;have kw:=kB.trans (k1.mono kB.size);have hs1:w.heap.size+4≤w1.heap.size:=by have:=k1.size;simp at this;omega
  have hFu2:FarB w.heap.size (.slice ua L.length uc):=hFu.mono (by simp;omega)
  have hfz:dBlk (ofCust ⟨⟨X1,X2,X3,X4,X5,X6⟩,L,ss⟩ ua uc sa sc)≠some (w.heap.size+3):=fun e=>by
    unfold dBlk ofCust at e;simp only at e
    split at e
    · cases ua with
      | none=>cases e
      | some a=>
        injection e with e
        have e:a.block=w.heap.size+3:=e;have:=hFu a _ _ rfl;simp at this;omega
    · cases e
  have hsz:sBlk (ofCust ⟨⟨X1,X2,X3,X4,X5,X6⟩,L,ss⟩ ua uc sa sc)≠some (w.heap.size+3):=fun e=>by
    cases sa with
    | none=>cases e
    | some a=>
      have:=(hso.lt (w.heap.size+3) (by exact e)).2;omega
  have HG:=Lib.hid (hapG_owe (X:=⟨X1,X2,X3,X4,X5,X6⟩) hu hFu2 hso kw);have HX1:=Lib.hid hfz;have HX2:=Lib.hid hsz;have hx0:w.heap.size≤w.heap.size+3:=by omega
  have ra:∀ (o:Obj) (g j:Nat),g < w1.heap.size→(w1.alloc o).cell? ⟨g,j,none⟩=w1.cell? ⟨g,j,none⟩:=fun o g j h=>(boxed_below w1 o).cell (p:=⟨g,j,none⟩) h;have rb:∀ (o:Obj) (g j:Nat),g < w1.heap.size→(w1.alloc o).frozen? ⟨g,j,none⟩=w1.frozen? ⟨g,j,none⟩:=fun o g j h=>(boxed_below w1 o).frozen (p:=⟨g,j,none⟩) h;have hl1:w.heap.size+1 < w1.heap.size:=by omega
  have hl3:w.heap.size+3 < w1.heap.size:=by omega
  have r1:=set_same;have r2:=set_off;have r3:=set_blk;have cO:=oC.below k1;have cA:=cO.s8;clear cO;have zO:=oZ.below k1;have zA:=zO.s8;clear zO;clear oC oV oZ oT k1 hFu hu kB kw hFu2 hfz hsz A hS hso;go_wp2;exact bodyPost_ret (v:=T2 (custV X1 X2 X3 X4 X5 X6 (.slice ua L.length uc) (.slice sa ss.length sc)) (I F)) (by simp [results,Tryz.results99,go_sem, *];try omega) rfl (HapQ.mk' (X:=⟨X1,X2,X3,X4,X5,X6⟩) (HapG.post (by repeat (first | with_reducible exact HG.out | with_reducible refine HapG.store ?_ (by assumption) HX1.out HX2.out | with_reducible refine HapG.drew ?_)) (boxed_below _ _)))
end
section
open Go Go.RowKit
theorem happens_any (t:PTerms) (c:PCust) (v:AEvent) (da sa:Option Addr) (dc sc:Nat) (tv:Value) (B:Nat) (w:World) (hv:v.kind=2∨v.kind=3∨v.kind=4∨v.kind=5)
    (hS:Sl w (.slice da c.debts.length dc) 2 c.debts.length (c.debts.flatMap ADebt.cells)) (tS:Sl w tv 2 t.ts.length (t.ts.flatMap AStep.cells)) (hso:w.ownsRow B 69 5 (.slice sa c.sold.length sc) c.sold.length (c.sold.flatMap ASold.cells)) (hBw:B≤w.heap.size) (hlen:c.sold.length≤1000):
    Calls Tryz.prog 99 #[t.v tv,custV c.acc.meter c.acc.rev c.acc.next c.acc.month c.acc.bought c.acc.free (.slice da c.debts.length dc) (.slice sa c.sold.length sc),v.v] w (HapQ B (hapE t c v) (hapC t c v) (Value.slice sa c.sold.length sc).ownBlock w):=by
  have hq:=sells_eq t c v;obtain ⟨ki,me,mo,⟨id,te,de,fe,pr,ch,un⟩,ta,⟨ow,bp⟩⟩:=v;obtain ⟨⟨x1,x2,x3,x4,x5,x6⟩,xs,ss⟩:=c;obtain ⟨ts,f,b,d,al⟩:=t;simp only at hv hS tS hso hlen hq ⊢;rcases hv with rfl | rfl | rfl | rfl
  · exact (hap_sale x1 x2 x3 x4 x5 x6 me mo id te de fe pr ch un ta ow bp f b d al _ da sa dc sc xs _ ss ts tv _ _ B w (Lib.hid fun W h1 h2=>SoldFor_f ⟨x1,x2,x3,x4,x5,x6⟩ _ tv xs ts f b d al te mo W h1 h2) hS tS hso hBw hlen _ (Lib.hid hq)).mono fun e w' h=>h.congr fun _=>rfl
  · exact (hap_grant x1 x2 x3 x4 x5 x6 me mo id te de fe pr ch un ta ow bp f b d al _ da sa dc sc xs _ ss ts tv _ _ B w (Lib.hid fun W h1 h2=>Granted_f ⟨x1,x2,x3,x4,x5,x6⟩ _ tv xs ts f b d al mo W h1 h2) hS tS hso hBw hlen _ (Lib.hid hq)).mono fun e w' h=>h.congr fun _=>rfl
  · exact (hap_rekey x1 x2 x3 x4 x5 x6 me mo id te de fe pr ch un ta ow bp f b d al _ _ da sa dc sc xs _ ss ts tv _ _ B w (Lib.hid fun W h1=>Rekeyed_f ⟨x1,x2,x3,x4,x5,x6⟩ _ xs W h1) hS tS hso hBw hlen _ (Lib.hid hq) rfl).mono fun e w' h=>h.congr fun h0=>by
      have h1:rekeyE ⟨x1,x2,x3,x4,x5,x6⟩ xs=0:=sells_zero (v:=⟨4,me,mo,⟨id,te,de,fe,pr,ch,un⟩,ta,⟨ow,bp⟩⟩) (t:=⟨ts,f,b,d,al⟩) (c:=⟨⟨x1,x2,x3,x4,x5,x6⟩,xs,ss⟩) h0;rw [rekey_wrap h1]
      rfl
  · exact (hap_charge x1 x2 x3 x4 x5 x6 me mo id te de fe pr ch un ta ow bp f b d al _ da sa dc sc xs _ ss tv _ B w (Lib.hid fun W h1=>Owes_f ⟨x1,x2,x3,x4,x5,x6⟩ _ xs ⟨ow,bp⟩ W h1) hS hso).mono fun e w' h=>h.congr fun _=>rfl
end
end Go.Proofs.YtdjgcenjonegjaaGreat
