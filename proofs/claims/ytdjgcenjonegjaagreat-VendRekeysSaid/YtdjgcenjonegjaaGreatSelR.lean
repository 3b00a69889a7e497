/- (*book.keeper).sell at a rekey (printed by wip/bin/gen_sellp.py) -/
import Derived.Test.YtdjgcenjonegjaaGreatPk28
set_option maxRecDepth 20000
set_option maxHeartbeats 8000000
set_option linter.unusedSimpArgs false
set_option linter.unusedVariables false
namespace Go.Proofs.YtdjgcenjonegjaaGreat
open Go Go.RowKit
theorem sel_rekey (x1 x2 x3 x4 x5 x6 me mo id te de fe pr ch un ta ow bp f b d al E X1 X2 X3 X4 X5 X6 B1 B2 B3 B4 B5 B6 B7 : Int) (da sa : Option Addr) (dc sc g cap j kb mb : Nat) (ds L : List ADebt) (ss : List ASold) (ts : List AStep) (tv : Value) (cs : List PCust) (ys : List ACust) (B : Nat) (w : World)
    (A:Hid (∀ W,Sl W (.slice da ds.length dc) 2 ds.length (ds.flatMap ADebt.cells)→Calls Tryz.prog 27 #[.agg #[I x1,I x2,I x3,I x4,I x5,I x6,.slice da ds.length dc]] W (GrewAccBF ⟨X1,X2,X3,X4,X5,X6⟩ L ⟨B1,B2,B3,B4,B5,B6,B7⟩ E W)))
    (hB:BookAt w B (.slice (some ⟨g,0,none⟩) cs.length cap) cs ys) (hj:j < cs.length) (hx:ys.getD j default=⟨x1,x2,x3,x4,x5,x6,da,ds.length,dc,sa,ss.length,sc⟩) (hS:Sl w (.slice da ds.length dc) 2 ds.length (ds.flatMap ADebt.cells)) (hso:w.ownsRow B 69 5 (.slice sa ss.length sc) ss.length (ss.flatMap ASold.cells))
    (oK:Own w kb [.slice (some ⟨g,0,none⟩) cs.length cap,tv,I f,I b,I d,I al,.map (some mb)]) (hkb:kb < B) (hBw:B≤w.heap.size) (tS:Sl w tv 2 ts.length (ts.flatMap AStep.cells)) (hlen:ss.length≤1000) (F:Int)
    (HF:Hid (F=if E=0 then (if eqE7 B1 B2 B3 B4 B5 B6 B7 id te de fe pr ch un then 0 else 8) else E)):
    Calls Tryz.prog 124 #[.pointer (some ⟨kb,0,none⟩),.pointer (some ⟨g,j*8,none⟩),evV 4 me mo id te de fe pr ch un ta ow bp] w (SellP B F (.slice (some ⟨g,0,none⟩) cs.length cap) (cs.set j ⟨⟨X1,X2,X3,X4,X5,X6⟩,L,ss++[⟨id,2,X2,ta,x2⟩]⟩) w):=by
  have hjx:j < ys.length:=by rw [hB.1];exact hj
  have hrow:=row_cells (Own.of_owns hB.2.1) hjx;rw [hx] at hrow;have HX:=Lib.hid hx;have hgB:=hB.2.1.lt g rfl;have HB:=Lib.hid hB;have HSd:=Lib.hid hS;have HSo:=Lib.hid hso;have HTs:=Lib.hid tS;have HR0:=Lib.hid hrow;have HK0:=Lib.hid oK;obtain ⟨kB,oV,oA,oB⟩:=boxes3 w [I 4,I me,I mo,I id,I te,I de,I fe,I pr,I ch,I un,I ta,I ow,I bp] 48 [I 0,I 0,I 0,I 0,I 0,I 0,.slice none 0 0] 64 [I 0,I 0,I 0,I 0,I 0,I 0,I 0] 39;have HSS:(fun W=>Own W w.heap.size [I 4,I me,I mo,I id,I te,I de,I fe,I pr,I ch,I un,I ta,I ow,I bp]∧W.cell? ⟨g,j*8+1,none⟩=some (I x2)) (World.drew (((w.alloc (.cells #[I 4,I me,I mo,I id,I te,I de,I fe,I pr,I ch,I un,I ta,I ow,I bp] 48)).alloc (.cells #[I 0,I 0,I 0,I 0,I 0,I 0,.slice none 0 0] 64)).alloc (.cells #[I 0,I 0,I 0,I 0,I 0,I 0,I 0] 39))):=⟨oV,(kB.cell (p:=⟨g,j*8+1,none⟩) hgB.2).trans (hrow 1 (by decide)).1⟩;have OV0:=Lib.hid oV;have OA0:=Lib.hid oA;have OB0:=Lib.hid oB;have KB0:=Lib.hid kB;clear hB hS hso tS hrow oK hx oV oA oB kB;go_enter Tryz.func124,Tryz.ntmps124;go_upto_region 4 with fail
  go_cut [9] (fun s9 wx=>s9=.pointer (some ⟨w.heap.size+3,0,none⟩)∧Own wx w.heap.size [I 4,I me,I mo,I id,I te,I de,I fe,I pr,I ch,I un,I ta,I ow,I bp]∧Own wx (w.heap.size+1) [I 0,I 0,I 0,I 0,I 0,I 0,.slice none 0 0]∧Own wx (w.heap.size+2) [I 0,I 0,I 0,I 0,I 0,I 0,I 0]∧Own wx (w.heap.size+3) [I id,I 0,I un,I ta,I x2]∧Below w.heap.size w wx∧w.heap.size+4≤wx.heap.size)
  case first=>
    have HF:=fun (W:World) (h:(fun W=>Own W w.heap.size [I 4,I me,I mo,I id,I te,I de,I fe,I pr,I ch,I un,I ta,I ow,I bp]∧W.cell? ⟨g,j*8+1,none⟩=some (I x2)) W)=>(And.intro (h.2) (Own.t13 h.1));refine AnyC.begin 15 (fun W=>Own W w.heap.size [I 4,I me,I mo,I id,I te,I de,I fe,I pr,I ch,I un,I ta,I ow,I bp]∧W.cell? ⟨g,j*8+1,none⟩=some (I x2)) (by kernel_rfl) ?_;refine AnyC.tk 0 ?_ HSS ?_ ?_;rotate_left
    · (intro W hSw;have hf:=HF W hSw;clear hSw;first | (go_simp;done) | (go_simp;with_reducible rfl))
    (try simp only [Act.put]);(try simp only [List.setIfInBounds_toArray]);refine AnyC.tk 1 ?_ HSS ?_ ?_;rotate_left
    · (intro W hSw;have hf:=HF W hSw;clear hSw;first | (go_simp;done) | (go_simp;with_reducible rfl))
    (try simp only [Act.put]);refine AnyC.tk 2 ?_ HSS ?_ ?_;rotate_left
    · (intro W hSw;have hf:=HF W hSw;clear hSw;first | (go_simp;done) | (go_simp;with_reducible rfl))
    (try simp only [Act.put]);refine AnyC.tk 3 ?_ HSS ?_ ?_;rotate_left
    · (intro W hSw;have hf:=HF W hSw;clear hSw;first | (go_simp;done) | (go_simp;with_reducible rfl))
    (try simp only [Act.put]);refine AnyC.tk 4 ?_ HSS ?_ ?_;rotate_left
    · (intro W hSw;have hf:=HF W hSw;clear hSw;first | (go_simp;done) | (go_simp;with_reducible rfl))
    (try simp only [Act.put]);refine AnyC.tk 5 ?_ HSS ?_ ?_;rotate_left
    · (intro W hSw;have hf:=HF W hSw;clear hSw;first | (go_simp;done) | (go_simp;with_reducible rfl))
    (try simp only [Act.put]);refine AnyC.tk 6 ?_ HSS ?_ ?_;rotate_left
    · (intro W hSw;have hf:=HF W hSw;clear hSw;first | (go_simp;done) | (go_simp;with_reducible rfl))
    (try simp only [Act.put]);refine AnyC.tk 7 ?_ HSS ?_ ?_;rotate_left
    · (intro W hSw;have hf:=HF W hSw;clear hSw;first | (go_simp;done) | (go_simp;with_reducible rfl))
    (try simp only [Act.put]);refine AnyC.tk 8 ?_ HSS ?_ ?_;rotate_left
    · (intro W hSw;have hf:=HF W hSw;clear hSw;first | (go_simp;done) | (go_simp;with_reducible rfl))
    (try simp only [Act.put]);refine AnyC.tk 9 ?_ HSS ?_ ?_;rotate_left
    · (intro W hSw;have hf:=HF W hSw;clear hSw;first | (go_simp;done) | (go_simp;with_reducible rfl))
    (try simp only [Act.put]);refine AnyC.tk 10 ?_ HSS ?_ ?_;rotate_left
    · (intro W hSw;have hf:=HF W hSw;clear hSw;first | (go_simp;done) | (go_simp;with_reducible rfl))
    (try simp only [Act.put]);refine AnyC.tk 11 ?_ HSS ?_ ?_;rotate_left
    · (intro W hSw;have hf:=HF W hSw;clear hSw;first | (go_simp;done) | (go_simp;with_reducible rfl))
    (try simp only [Act.put]);refine AnyC.tk 12 ?_ HSS ?_ ?_;rotate_left
    · (intro W hSw;have hf:=HF W hSw;clear hSw;first | (go_simp;done) | (go_simp;with_reducible rfl))
    (try simp only [Act.put]);refine AnyC.tk 13 ?_ HSS ?_ ?_;rotate_left
    · (intro W hSw;have hf:=HF W hSw;clear hSw;first | (go_simp;done) | (go_simp;with_reducible rfl))
    (try simp only [Act.put]);have kP:=(boxed_below (((w.alloc (.cells #[I 4,I me,I mo,I id,I te,I de,I fe,I pr,I ch,I un,I ta,I ow,I bp] 48)).alloc (.cells #[I 0,I 0,I 0,I 0,I 0,I 0,.slice none 0 0] 64)).alloc (.cells #[I 0,I 0,I 0,I 0,I 0,I 0,I 0] 39)) (.cells #[I id,I 0,I un,I ta,I x2] 69)).drew;have oP:Own (World.drew ((((w.alloc (.cells #[I 4,I me,I mo,I id,I te,I de,I fe,I pr,I ch,I un,I ta,I ow,I bp] 48)).alloc (.cells #[I 0,I 0,I 0,I 0,I 0,I 0,.slice none 0 0] 64)).alloc (.cells #[I 0,I 0,I 0,I 0,I 0,I 0,I 0] 39)).alloc (.cells #[I id,I 0,I un,I ta,I x2] 69))) (w.heap.size+3) [I id,I 0,I un,I ta,I x2]:=Own.new (by simp) [I id,I 0,I un,I ta,I x2] 69;refine AnyC.one (i:=14) (by kernel_rfl) (by rfl) (fun K hK=>?_);go_simp;refine hK.out _ _ (fun _ _=>⟨OV0.out.below ((boxed_below _ (.cells #[I 0,I 0,I 0,I 0,I 0] 69)).drew),((boxed_below (((w.alloc (.cells #[I 4,I me,I mo,I id,I te,I de,I fe,I pr,I ch,I un,I ta,I ow,I bp] 48)).alloc (.cells #[I 0,I 0,I 0,I 0,I 0,I 0,.slice none 0 0] 64)).alloc (.cells #[I 0,I 0,I 0,I 0,I 0,I 0,I 0] 39)) (.cells #[I 0,I 0,I 0,I 0,I 0] 69)).drew.cell (p:=⟨g,j*8+1,none⟩) (Nat.lt_of_lt_of_le hgB.2 KB0.out.size)).trans HSS.2⟩) ?_;clear hK K HSS;(try simp only [Act.put]);refine AnyC.one (i:=15) (by kernel_rfl) (by rfl) (fun K hK=>?_);go_simp;refine hK.out _ _ (fun h=>absurd rfl h) ?_;clear hK K;(try simp only [Act.put]);refine AnyC.done (by kernel_rfl) ?_ _
    go_wp2_with fail
    go_meet;exact ⟨rfl,OV0.out.below kP,OA0.out.below kP,OB0.out.below kP,oP,KB0.out.trans (kP.mono KB0.out.size),by simp⟩
  case rest =>
    obtain ⟨rfl,oV,oA,oB,oS,kw,hsz⟩:=hcut;have OV:=Lib.hid oV;have OA:=Lib.hid oA;have OB:=Lib.hid oB;have OS:=Lib.hid oS;have OK:=Lib.hid (HK0.out.below kw);have HROW:=Lib.hid (fun i hi=>And.intro ((kw.cell (p:=⟨g,j*8+i,none⟩) hgB.2).trans (HR0.out i hi).1) ((kw.frozen (p:=⟨g,j*8+i,none⟩) hgB.2).trans (HR0.out i hi).2));clear HSS OV0 OA0 OB0 KB0;clear oV oA oB oS;go_step;go_step
    go_cut [8] (fun s8 wx=>∃ ua uc,s8=I E∧Own wx w.heap.size [I 4,I me,I mo,I id,I te,I de,I fe,I pr,I ch,I un,I ta,I ow,I bp]∧Own wx (w.heap.size+3) [I id,I 2,I X2,I ta,I x2]∧Own wx (w.heap.size+1) [I X1,I X2,I X3,I X4,I X5,I X6,.slice ua L.length uc]∧Own wx (w.heap.size+2) [I B1,I B2,I B3,I B4,I B5,I B6,I B7]∧Sl wx (.slice ua L.length uc) 2 L.length (L.flatMap ADebt.cells)∧FarB (w.heap.size+4) (.slice ua L.length uc)∧Below w.heap.size w wx∧w.heap.size+4≤wx.heap.size)
    case first=>
      have vO:=OV.out;have vA:=vO.s13;clear vO;go_upto_region 11 with fail
      go_cut [8] (fun s8 wx=>∃ ua uc,s8=I E∧Own wx w.heap.size [I 4,I me,I mo,I id,I te,I de,I fe,I pr,I ch,I un,I ta,I ow,I bp]∧Own wx (w.heap.size+3) [I id,I 0,I un,I ta,I x2]∧Own wx (w.heap.size+1) [I X1,I X2,I X3,I X4,I X5,I X6,.slice ua L.length uc]∧Own wx (w.heap.size+2) [I B1,I B2,I B3,I B4,I B5,I B6,I B7]∧Sl wx (.slice ua L.length uc) 2 L.length (L.flatMap ADebt.cells)∧FarB (w.heap.size+4) (.slice ua L.length uc)∧Below w.heap.size w wx∧w.heap.size+4≤wx.heap.size)
      case first=>
        have hrowc:=HROW.out;have y0:=(hrowc 0 (by decide)).1;have y1:=(hrowc 1 (by decide)).1;have y2:=(hrowc 2 (by decide)).1;have y3:=(hrowc 3 (by decide)).1;have y4:=(hrowc 4 (by decide)).1;have y5:=(hrowc 5 (by decide)).1;have y6:=(hrowc 6 (by decide)).1;simp only [ACust.cells,List.getD_cons_zero,List.getD_cons_succ,Nat.add_zero] at y0 y1 y2 y3 y4 y5 y6;clear hrowc
        go_wp2_with fail
        refine (A.out _ (HSd.out.below kw)).mono ?_;rintro e w1 ⟨u,rfl,hu,k1,hFu⟩;obtain ⟨ua,uc,rfl,-⟩:=_root_.id hu;have k1':Below wc.heap.size wc w1:=⟨k1.os,k1.tape,k1.output,k1.size,k1.block⟩;have hFu':FarB wc.heap.size (.slice ua L.length uc):=hFu;have kw1:=kw.trans (k1'.mono kw.size);have hs1:w.heap.size+4≤w1.heap.size:=by have:=k1'.size;omega
        have hFu2:FarB (w.heap.size+4) (.slice ua L.length uc):=hFu'.mono (by omega);have oA1:=OA.out.below k1';have oB1:=OB.out.below k1';have oS1:=OS.out.below k1';have oV1:=OV.out.below k1';have HZA:=Lib.hid oA1;have HZB:=Lib.hid oB1;have HZS:=Lib.hid oS1;have HZV:=Lib.hid oV1;have HU:=Lib.hid hu;have HFB:=Lib.hid hFu2;have KW:=Lib.hid kw1;have HF1:=Lib.hid (HFB.out.far (show w.heap.size+1 < w.heap.size+4 by omega));have HF2:=Lib.hid (HFB.out.far (show w.heap.size+2 < w.heap.size+4 by omega));have HF3:=Lib.hid (HFB.out.far (show w.heap.size+3 < w.heap.size+4 by omega));have aO:=oA1;have aA:=aO.s7;clear aO;have zO:=oB1;have zA:=zO.s7;clear zO;have sO:=oS1;have sA:=sO.s5;clear sO;have r1:=set_same;have r2:=set_off;have r3:=set_blk;clear oA1 oB1 oS1 oV1 hu hFu2 kw1 hFu;clear y0 y1 y2 y3 y4 y5 y6;go_wp2;go_meet;refine ⟨_,_,rfl,?_,?_,?_,?_,?_,HFB.out,?_,?_⟩
        · repeat (first | with_reducible exact HZV.out | refine Own.other ?_ (by simp<;>omega) _ | fail)
        · skip
          repeat (first | with_reducible exact HZS.out | refine Own.other ?_ (by simp<;>omega) _ | fail)
        · have hA:=HZA.out.set7 (I X1) (I X2) (I X3) (I X4) (I X5) (I X6) (.slice ua L.length uc)
          repeat (first | with_reducible exact hA | refine Own.other ?_ (by simp<;>omega) _ | fail)
        · skip
          refine Own.set7 (?_:Own _ _ [I 0,I 0,I 0,I 0,I 0,I 0,I 0]) _ _ _ _ _ _ _
          repeat (first | with_reducible exact HZB.out | refine Own.other ?_ (by simp<;>omega) _ | fail)
        · repeat (first | with_reducible exact HU.out | with_reducible refine Sl.set ?_ HF1.out _ | with_reducible refine Sl.set ?_ HF2.out _ | with_reducible refine Sl.set ?_ HF3.out _ | with_reducible refine Sl.drew ?_ | fail)
        · have kk:=KW.out
          exact below_autor
        · simp
          omega
      case rest=>
        obtain ⟨ua,uc,rfl,qV,qS,qA,qB,hu,hFu,kw2,hsz2⟩:=hcut;have HSS:(fun W=>W.cell? ⟨w.heap.size+1,1,none⟩=some (I X2)) wc.drew:=qA.cell 1 (by simp);have r1:=set_same;have r2:=set_off;have r3:=set_blk;go_upto_region 12 with fail
        refine AnyC.begin 5 (fun W=>W.cell? ⟨w.heap.size+1,1,none⟩=some (I X2)) (by kernel_rfl) ?_;refine AnyC.pure (i:=0) (v:=?_) rfl (by decide) (by kernel_rfl) (by kernel_rfl) (by kernel_rfl) (fun _ _ _ h=>h) (Or.inl ⟨by rfl,?_⟩) (fun _=>HSS) ?_;rotate_left
        · (intro w;first | (go_simp;done) | (go_simp;with_reducible rfl))
        (try simp only [Act.put,List.setIfInBounds_toArray]);refine AnyC.tk 1 ?_ HSS ?_ ?_;rotate_left
        · (intro W hSw;first | (go_simp;done) | (go_simp;with_reducible rfl))
        (try simp only [Act.put]);refine AnyC.pure (i:=2) (v:=?_) rfl (by decide) (by kernel_rfl) (by kernel_rfl) (by kernel_rfl) (fun _ _ _ h=>h) (Or.inl ⟨by rfl,?_⟩) (fun _=>HSS) ?_;rotate_left
        · (intro w;first | (go_simp;done) | (go_simp;with_reducible rfl))
        (try simp only [Act.put,List.setIfInBounds_toArray]);have sO:=qS;have sA:=sO.s5;clear sO;refine AnyC.one (i:=3) (by kernel_rfl) (by rfl) (fun K hK=>?_);go_simp;refine hK.out _ _ (fun _ _=>(set_blk wc (w.heap.size+3) (w.heap.size+1) 1 1 (I 2) (by omega)).trans HSS) ?_;clear hK K;(try simp only [Act.put]);have HSS:(fun W=>W.cell? ⟨w.heap.size+1,1,none⟩=some (I X2)) (World.drew (wc.setCell ⟨w.heap.size+3,1,none⟩ (I 2))):=(set_blk wc (w.heap.size+3) (w.heap.size+1) 1 1 (I 2) (by omega)).trans HSS;refine AnyC.pure (i:=4) (v:=?_) rfl (by decide) (by kernel_rfl) (by kernel_rfl) (by kernel_rfl) (fun _ _ _ h=>h) (Or.inl ⟨by rfl,?_⟩) (fun _=>HSS) ?_;rotate_left
        · (intro w;first | (go_simp;done) | (go_simp;with_reducible rfl))
        (try simp only [Act.put,List.setIfInBounds_toArray]);refine AnyC.one (i:=5) (by kernel_rfl) (by rfl) (fun K hK=>?_);go_simp;refine hK.out _ _ (fun h=>absurd rfl h) ?_;clear hK K;(try simp only [Act.put]);refine AnyC.done (by kernel_rfl) ?_ _
        go_wp2_with fail
        go_meet;have hf3:=hFu.far (show w.heap.size+3 < w.heap.size+4 by omega);refine ⟨_,_,rfl,(qV.other (a:=⟨w.heap.size+3,1,none⟩) (by simp) _).other (a:=⟨w.heap.size+3,2,none⟩) (by simp) _,qS.set12 (I 2) (I X2),(qA.other (a:=⟨w.heap.size+3,1,none⟩) (by simp) _).other (a:=⟨w.heap.size+3,2,none⟩) (by simp) _,(qB.other (a:=⟨w.heap.size+3,1,none⟩) (by simp) _).other (a:=⟨w.heap.size+3,2,none⟩) (by simp) _,(hu.set hf3 _).set hf3 _,hFu,((kw2.setCell (p:=⟨w.heap.size+3,1,none⟩) (by simp) _).setCell (p:=⟨w.heap.size+3,2,none⟩) (by simp) _).drew,by simp [World.setCell];exact hsz2⟩
    case rest =>
      clear OV OA OB OS OK HROW kw hsz;obtain ⟨ua,uc,rfl,oV,oS,oA,oB,hu,hF,kw,hsz⟩:=hcut;have EQ:=eqlBill2;have hrow:=fun i hi=>And.intro ((kw.cell (p:=⟨g,j*8+i,none⟩) hgB.2).trans (HR0.out i hi).1) ((kw.frozen (p:=⟨g,j*8+i,none⟩) hgB.2).trans (HR0.out i hi).2);have KW:=Lib.hid kw
      by_cases hE:E=0
      · subst hE
        have vO:=oV;have vA:=vO.s13;clear vO;have zO:=oB;have zA:=zO.s7;clear zO
        go_wp2_with fail
        refine (want_yes _ _).mono ?_;rintro e w' ⟨rfl,rfl⟩;cases hb:eqE7 B1 B2 B3 B4 B5 B6 B7 id te de fe pr ch un
        · have hF8:=Lib.hid (show F=8 by rw [HF.out,hb];rfl)
          clear hu hF oS oA hrow
          go_wp2_with fail
          refine (want_no _ _).mono ?_;rintro e w' ⟨rfl,rfl⟩;exact ⟨rfl,SellP.no hF8.out (by decide) KW.out⟩
        · have hF0:=Lib.hid (show F=0 by rw [HF.out,hb];rfl)
          obtain ⟨i0,hi,hz0,hz1,hz2⟩:=info_parts info_solds;have y0:=hrow 0 (by decide);have y1:=hrow 1 (by decide);have y2:=hrow 2 (by decide);have y3:=hrow 3 (by decide);have y4:=hrow 4 (by decide);have y5:=hrow 5 (by decide);have y6:=hrow 6 (by decide);have y7:=hrow 7 (by decide);simp only [ACust.cells,List.getD_cons_zero,List.getD_cons_succ,Nat.add_zero] at y0 y1 y2 y3 y4 y5 y6 y7;obtain ⟨y0,f0⟩:=y0;obtain ⟨y1,f1⟩:=y1;obtain ⟨y2,f2⟩:=y2;obtain ⟨y3,f3⟩:=y3;obtain ⟨y4,f4⟩:=y4;obtain ⟨y5,f5⟩:=y5;obtain ⟨y6,f6⟩:=y6;obtain ⟨y7,f7⟩:=y7;have hro:∀ z,(Value.slice sa ss.length sc).ownBlock=some z→B≤z∧z < w.heap.size:=fun z hz=>HSo.out.lt z hz
          have hgso:(Value.slice sa ss.length sc).ownBlock≠some g:=fun e=>by
            have h2:=((HB.out.2.2.2 j hjx g).2 (by rw [HX.out,sBlk_own];exact e)).1;exact h2 rfl
          have HRO:=Lib.hid hro;have HGS:=Lib.hid hgso;have hgc:g < wc.heap.size:=Nat.lt_of_lt_of_le hgB.2 kw.size;have aO:=oA;have aA:=aO.s7;clear aO;have r1:=set_same;have r2:=set_off;have r3:=set_blk
          go_wp2_with fail
          refine (want_yes _ _).mono ?_;rintro e w' ⟨rfl,rfl⟩;have h7:=((((((ButFor.one wc g (j*8) (I X1)).trans (ButFor.one _ g (j*8+1) (I X2))).trans (ButFor.one _ g (j*8+2) (I X3))).trans (ButFor.one _ g (j*8+3) (I X4))).trans (ButFor.one _ g (j*8+4) (I X5))).trans (ButFor.one _ g (j*8+5) (I X6))).trans (ButFor.one _ g (j*8+6) (.slice ua L.length uc));have hrow7:=owns_store (owns_store (owns_store (owns_store (owns_store (owns_store (owns_store (owns_below HB.out.2.1 kw) (j*8) (I X1)) (j*8+1) (I X2)) (j*8+2) (I X3)) (j*8+3) (I X4)) (j*8+4) (I X5)) (j*8+5) (I X6)) (j*8+6) (.slice ua L.length uc);have oS7:=h7.own oS (show w.heap.size+3≠g by omega);have how7:=h7.owns (owns_below HSo.out kw) hgso
          have c7:(((((((wc.setCell ⟨g,j*8,none⟩ (I X1)).setCell ⟨g,j*8+1,none⟩ (I X2)).setCell ⟨g,j*8+2,none⟩ (I X3)).setCell ⟨g,j*8+3,none⟩ (I X4)).setCell ⟨g,j*8+4,none⟩ (I X5)).setCell ⟨g,j*8+5,none⟩ (I X6)).setCell ⟨g,j*8+6,none⟩ (.slice ua L.length uc)).cell? ⟨g,j*8+7,none⟩=some (.slice sa ss.length sc):=by
            rw [set_off _ _ _ _ _ (by omega),set_off _ _ _ _ _ (by omega),set_off _ _ _ _ _ (by omega),set_off _ _ _ _ _ (by omega),set_off _ _ _ _ _ (by omega),set_off _ _ _ _ _ (by omega),set_off _ _ _ _ _ (by omega)];exact y7
          go_upto_region 16 with fail
          generalize ((((((wc.setCell ⟨g,j*8,none⟩ (I X1)).setCell ⟨g,j*8+1,none⟩ (I X2)).setCell ⟨g,j*8+2,none⟩ (I X3)).setCell ⟨g,j*8+3,none⟩ (I X4)).setCell ⟨g,j*8+4,none⟩ (I X5)).setCell ⟨g,j*8+5,none⟩ (I X6)).setCell ⟨g,j*8+6,none⟩ (.slice ua L.length uc)=W7 at *;have s7:=h7.2.1;have hg7:g < W7.heap.size:=by omega
          have h37:w.heap.size+3 < W7.heap.size:=by omega
          have cf7:=(Own.of_owns hrow7).frozen (j*8+7);have ra:∀ (o:Obj) (g j:Nat),g < W7.heap.size→(W7.alloc o).cell? ⟨g,j,none⟩=W7.cell? ⟨g,j,none⟩:=fun o g j h=>(boxed_below W7 o).cell (p:=⟨g,j,none⟩) h;have H7:=Lib.hid h7;have HR7:=Lib.hid hrow7;have HOW:=Lib.hid how7;have HU:=Lib.hid hu;have HFB:=Lib.hid (hF.mono (show w.heap.size≤w.heap.size+4 by omega));have HC7:=Lib.hid c7;have HCF7:=Lib.hid cf7;have sO:=oS7;have sA:=sO.s5;clear sO;clear s7 h7 hrow7 how7 hu hF oS oS7 hro hgso kw r1 r2 r3 y0 y1 y2 y3 y4 y5 y6 y7 f0 f1 f2 f3 f4 f5 f6 f7 hrow aA vA zA hb EQ
          go_region_law
            (first
              | (refine step_append_lies _ (by rfl) _ _ _ (by rfl) B 69 i0 (.agg #[.int .i64 0, .int .i64 0, .int .i64 0, .int .i64 0, .int .i64 0]) 5 40 Tryz.underlying65 hi hz0 hz1 hz2 rfl (by decide) (.slice sa ss.length sc) ss.length (ss.flatMap ASold.cells) (by rfl) (owns_below HOW.out below_autor) ⟨W7.heap.size, 0, none⟩ 1 1 [I id, I 2, I X2, I ta, I x2] (by rfl) (by rfl) (news_lit _ _ _) (oneCells_lit rfl) (by omega) (by unfold maxLen; omega) (by omega) (by first | omega | (simp; done) | (simp; omega)) _ rfl ?_; intro gg cap2 w5 hown' hgrow hat hlt1
                 have hG:=grown_pre (W:=W7) hgrow below_autor;have hb5:=hG.block g hg7 (fun e=>HGS.out e.symm);have HFin:=Lib.hid (book_sell0 (S:=ss) (s:=⟨id,2,X2,ta,x2⟩) (X:=⟨X1,X2,X3,X4,X5,X6⟩) HB.out hBw hj HX.out sBlk_own.symm KW.out HU.out HFB.out H7.out below_autor hown' rfl hgrow hat (ButFor.one w5 g (j*8+7) (.slice (some ⟨gg,0,none⟩) (ss.length+1) cap2)) (row8 HR7.out hjx hb5 rfl));have d7:=(World.cell?_of_block (a:=⟨g,j*8+7,none⟩) hb5).trans HC7.out;have df7:=(World.frozen?_of_block (a:=⟨g,j*8+7,none⟩) hb5).trans HCF7.out;clear hown' hgrow hat hG hb5)
              | fail)
          all_goals
            go_wp2;exact bodyPost_ret (results_none rfl _ _ _) rfl (SellP.yes hF0.out HFin.out)
      · have hFE:=Lib.hid (show F=E by rw [HF.out,if_neg hE])
        have HE:=Lib.hid hE;have hE':(E==0)=false:=by simp [hE]
        clear hu hF oS oA oB oV hrow hE
        go_wp2_with fail
        refine (want_no _ _).mono ?_;rintro e w' ⟨rfl,rfl⟩;exact ⟨rfl,SellP.no hFE.out HE.out KW.out⟩
end Go.Proofs.YtdjgcenjonegjaaGreat
