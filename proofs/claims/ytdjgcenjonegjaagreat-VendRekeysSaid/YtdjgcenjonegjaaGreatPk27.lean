/- (*book.keeper).keep: a meter comes in · (*book.keeper).keep: events that may not be; registers · (*book.keeper).keep: a meter that is not there · a customer of a book is turned in place, as the program does it: the account first, then what was sold -/
import Derived.Test.YtdjgcenjonegjaaGreatPk26
import Derived.Test.YtdjgcenjonegjaaGreatPk09
import Derived.Deep.RegionLaw
import Derived.Deep.AppendLies
import Derived.Test.YtdjgcenjonegjaaGreatPk23
set_option maxRecDepth 20000
set_option maxHeartbeats 8000000
set_option linter.unusedSimpArgs false
set_option linter.unusedVariables false
namespace Go.Proofs.YtdjgcenjonegjaaGreat
section
open Go Go.RowKit
theorem BookAt.lowH {W W':World} {B z0:Nat} {v:Value} {cs:List PCust} {xs:List ACust} (h:BookAt W B v cs xs) (hz:z0 < B) (hs:W'.heap.size=W.heap.size) (hh:∀ z,z≠z0→W'.heap[z]?=W.heap[z]?):BookAt W' B v cs xs:=by
  obtain ⟨h1,h2,h3,h4⟩:=h;refine ⟨h1,owns_heap h2 fun z hz2=>hh z ?_,fun k hk=>(h3 k hk).heap (by omega) (fun q hq=>hh q ?_) (fun q hq=>hh q ?_),h4⟩
  · have:=(h2.lt z hz2).1;omega
  · have:=((h4 k (by omega) q).1 hq).1;omega
  · have:=((h3 k hk).sblk hq).1;omega
theorem keep_new (t : PTerms) (tv : Value) (va : Option Addr) (vc A B kb mb : Nat) (cs : List PCust) (ys : List ACust) (me mo id te de fe pr ch un ta ow bp : Int) (w : World) (hm : evMay 1 me mo id te de fe pr ch un ta ow bp = true) (hme : I64 me)
    (oK:Own w kb [.slice va cs.length vc,tv,I t.f,I t.b,I t.d,I t.al,.map (some mb)]) (oM:OwnIdx w mb (cs.map fun c=>c.acc.meter)) (hB:BookAt w B (.slice va cs.length vc) cs ys) (ha:¬ 0≤idxOf cs me)
    (hBw:B≤w.heap.size) (hkb:kb < B) (hmb:mb < B) (hne:mb≠kb) (hA1:A≤kb) (hA2:A≤mb) (hlen:cs.length≤200):
    Calls Tryz.prog 80 #[.pointer (some ⟨kb,0,none⟩),evV 1 me mo id te de fe pr ch un ta ow bp] w (KeepP A B kb mb t tv cs ⟨1,me,mo,⟨id,te,de,fe,pr,ch,un⟩,ta,⟨ow,bp⟩⟩ w):=by
  have h5:=Lib.hid (evE_reg (t:=t) (cs:=cs) (v:=⟨1,me,mo,⟨id,te,de,fe,pr,ch,un⟩,ta,⟨ow,bp⟩⟩) hm rfl ha);have h6:=Lib.hid (evC_reg (t:=t) (cs:=cs) (v:=⟨1,me,mo,⟨id,te,de,fe,pr,ch,un⟩,ta,⟨ow,bp⟩⟩) rfl);have C:=Lib.hid (fun W=>check_any me mo id te de fe pr ch un ta ow bp 1 W);rw [hm] at C;obtain ⟨q0,q1⟩:=may_meter0 (v:=⟨1,me,mo,⟨id,te,de,fe,pr,ch,un⟩,ta,⟨ow,bp⟩⟩) hm;have hin:inB me 0 49=true:=inB_true.2 ⟨q0,q1⟩;have Op:=Lib.hid (fun W=>Open_any me W);rw [show openE me=0 by unfold openE;rw [if_pos hin]] at Op;have hX:(openX me).meter=me:=by unfold openX;rw [if_pos hin]
  simp only at h6;have HX:=Lib.hid hX;generalize openX me=X at *;obtain ⟨X1,X2,X3,X4,X5,X6⟩:=X;have HA:Hid (¬ 0≤findI me (cs.map fun c=>c.acc.meter) 0):=ha;generalize hv:(.slice va cs.length vc:Value)=v at *;clear hm ha hin hX q0 q1;have HB:=Lib.hid hB;have oV:=Own.new (w:=w) (g:=w.heap.size) (by rfl) [I 1,I me,I mo,I id,I te,I de,I fe,I pr,I ch,I un,I ta,I ow,I bp] 48;have kB:=boxed_below w (.cells #[I 1,I me,I mo,I id,I te,I de,I fe,I pr,I ch,I un,I ta,I ow,I bp] 48);have HK:=Lib.hid oK;have HM:=Lib.hid oM;clear hB oK oM;go_enter Tryz.func80,Tryz.ntmps80
  go_wp2_with fail
  refine (C.out _).mono ?_;rintro e w1 ⟨he,k1⟩;simp only [if_true] at he;subst he;have kw1:=kB.trans (k1.mono kB.size);have oV1:=oV.below k1;have oK1:=HK.out.below kw1;have oM1:=HM.out.below kw1;have hsz1:w.heap.size+1≤w1.heap.size:=by have:=k1.size;simp at this;omega
  clear oV kB k1 C;go_upto_region 2 with fail
  go_cut [4,5] (fun s4 s5 wx=>s4=I (idxA (cs.map fun c=>c.acc.meter) me)∧s5=.bool (decide (0≤findI me (cs.map fun c=>c.acc.meter) 0))∧Own wx kb [v,tv,I t.f,I t.b,I t.d,I t.al,.map (some mb)]∧Own wx w.heap.size [I 1,I me,I mo,I id,I te,I de,I fe,I pr,I ch,I un,I ta,I ow,I bp]∧OwnIdx wx mb (cs.map fun c=>c.acc.meter)∧Below w.heap.size w wx∧w.heap.size+1≤wx.heap.size)
  case first=>
    have L:=run_lookI (w:=w1.drew) oM1 hme;have HK1:=Lib.hid oK1;have HV1:=Lib.hid oV1;have HM1:=Lib.hid oM1;have KW1:=Lib.hid kw1;have kO:=oK1;have kfA:=kO.f;have k0:=kO.c0;have k1:=kO.c1;have k2:=kO.c2;have k3:=kO.c3;have k4:=kO.c4;have k5:=kO.c5;have k6:=kO.c6;clear kO;have vO:=oV1;have vA:=vO.s13;clear vO;clear oK1 oV1 oM1 kw1;go_region
    all_goals
      go_wp2_with fail
      go_meet;exact ⟨rfl,rfl,HK1.out,HV1.out,HM1.out,Below.drew KW1.out,hsz1⟩
  case rest=>
    obtain ⟨rfl,rfl,oK2,oV2,oM2,kw2,hsz2⟩:=hcut;clear oK1 oV1 oM1 kw1 hsz1;subst hv;have HNI:Hid (findI me (cs.map fun c=>c.acc.meter) 0 < 0):=HA.out;have HD:decide (0≤findI me (cs.map fun c=>c.acc.meter) 0)=false:=decide_eq_false (Int.not_le.2 HA.out);rw [HD];clear HD;generalize idxA (cs.map fun c=>c.acc.meter) me=ai;have hB2:=HB.out.below kw2;have vO:=oV2;have vA:=vO.s13;clear vO
    go_wp2_with fail
    refine (want_yes _ _).mono ?_;rintro e w' ⟨rfl,rfl⟩
    go_wp2_with fail
    refine (Op.out _).mono ?_;rintro e w4 ⟨u,rfl,hu,k4⟩;obtain ⟨ua,uc,rfl,-⟩:=_root_.id hu;have kw4:=kw2.trans (k4.mono kw2.size);have hsz4:w.heap.size+1≤w4.heap.size:=by have:=k4.size;omega
    have kA:=(boxed_below w4 (.cells #[I X1,I X2,I X3,I X4,I X5,I X6,.slice ua 0 uc] 64)).drew;have oA:Own (World.drew (w4.alloc (.cells #[I X1,I X2,I X3,I X4,I X5,I X6,.slice ua 0 uc] 64))) w4.heap.size [I X1,I X2,I X3,I X4,I X5,I X6,.slice ua 0 uc]:=Own.new rfl _ _;have oK4:=oK2.below k4;have oV4:=oV2.below k4;have oM4:=(oM2.below k4).below kA;have hB4:=(hB2.below k4).below kA;have hu4:=hu.below kA;have HKA:=Lib.hid (oK4.below kA);have HVA:=Lib.hid (oV4.below kA);have HOA:=Lib.hid oA;have HB4:=Lib.hid hB4;have HU4:=Lib.hid hu4;have KA:=Lib.hid (kw4.trans (kA.mono kw4.size));have ra:∀ (o:Obj) (g j:Nat),g < w4.heap.size→(w4.alloc o).cell? ⟨g,j,none⟩=w4.cell? ⟨g,j,none⟩:=fun o g j h=>(boxed_below w4 o).cell (p:=⟨g,j,none⟩) h;have hk4:kb < w4.heap.size:=by omega
    have hw4:w.heap.size < w4.heap.size:=by omega
    clear vA;have vO:=oV4;have vA:=vO.s13;clear vO;have kO:=oK4;have kfA:=kO.f;have k0:=kO.c0;have k1:=kO.c1;have k2:=kO.c2;have k3:=kO.c3;have k4:=kO.c4;have k5:=kO.c5;have k6:=kO.c6;clear kO;obtain ⟨w',hput,hM',ho,hsz',hos,htape,hout,hdr⟩:=run_putI oM4 hme (Int.not_le.2 HNI.out);rw [List.length_map] at hput;have HPUT:=Lib.hid hput;clear hput;have HM':=Lib.hid hM';have HO:=Lib.hid ho;have HPW:=Lib.hid (And.intro hsz' (And.intro hos (And.intro htape hout)));clear oK2 oV2 oM2 kw2 hB2 hu k4 kw4 kA oA oK4 oV4 oM4 hB4 hu4 hM' ho hsz' hos htape hout hdr Op;go_upto_region 6 with fail
    go_cut [] (fun wx=>wx=w')
    case first=>
      have HSS:(fun W=>Own W kb [.slice va cs.length vc,tv,I t.f,I t.b,I t.d,I t.al,.map (some mb)]∧Own W w.heap.size [I 1,I me,I mo,I id,I te,I de,I fe,I pr,I ch,I un,I ta,I ow,I bp]) (World.drew (w4.alloc (.cells #[I X1,I X2,I X3,I X4,I X5,I X6,.slice ua 0 uc] 64))):=⟨HKA.out,HVA.out⟩;have HF:=fun (W:World) (h:(fun W=>Own W kb [.slice va cs.length vc,tv,I t.f,I t.b,I t.d,I t.al,.map (some mb)]∧Own W w.heap.size [I 1,I me,I mo,I id,I te,I de,I fe,I pr,I ch,I un,I ta,I ow,I bp]) W)=>(And.intro (Own.t7 h.1) (Own.t13 h.2));refine AnyC.begin 12 (fun W=>Own W kb [.slice va cs.length vc,tv,I t.f,I t.b,I t.d,I t.al,.map (some mb)]∧Own W w.heap.size [I 1,I me,I mo,I id,I te,I de,I fe,I pr,I ch,I un,I ta,I ow,I bp]) (by kernel_rfl) ?_;refine AnyC.tk 0 ?_ HSS ?_ ?_;rotate_left
      · (intro W hSw;have hf:=HF W hSw;clear hSw;first | (go_simp;done) | (go_simp;with_reducible rfl))
      (try simp only [Act.put]);(try simp only [List.setIfInBounds_toArray]);refine AnyC.tk 1 ?_ HSS ?_ ?_;rotate_left
      · (intro W hSw;have hf:=HF W hSw;clear hSw;first | (go_simp;done) | (go_simp;with_reducible rfl))
      (try simp only [Act.put]);refine AnyC.tk 2 ?_ HSS ?_ ?_;rotate_left
      · (intro W hSw;have hf:=HF W hSw;clear hSw;first | (go_simp;done) | (go_simp;with_reducible rfl))
      (try simp only [Act.put]);refine AnyC.tk 3 ?_ HSS ?_ ?_;rotate_left
      · (intro W hSw;have hf:=HF W hSw;clear hSw;first | (go_simp;done) | (go_simp;with_reducible rfl))
      (try simp only [Act.put]);refine AnyC.tk 4 ?_ HSS ?_ ?_;rotate_left
      · (intro W hSw;have hf:=HF W hSw;clear hSw;first | (go_simp;done) | (go_simp;with_reducible rfl))
      (try simp only [Act.put]);refine AnyC.tk 5 ?_ HSS ?_ ?_;rotate_left
      · (intro W hSw;have hf:=HF W hSw;clear hSw;first | (go_simp;done) | (go_simp;with_reducible rfl))
      (try simp only [Act.put]);refine AnyC.tk 6 ?_ HSS ?_ ?_;rotate_left
      · (intro W hSw;have hf:=HF W hSw;clear hSw;first | (go_simp;done) | (go_simp;with_reducible rfl))
      (try simp only [Act.put]);refine AnyC.tk 7 ?_ HSS ?_ ?_;rotate_left
      · (intro W hSw;have hf:=HF W hSw;clear hSw;first | (go_simp;done) | (go_simp;with_reducible rfl))
      (try simp only [Act.put]);refine AnyC.tk 8 ?_ HSS ?_ ?_;rotate_left
      · (intro W hSw;have hf:=HF W hSw;clear hSw;first | (go_simp;done) | (go_simp;with_reducible rfl))
      (try simp only [Act.put]);refine AnyC.tk 9 ?_ HSS ?_ ?_;rotate_left
      · (intro W hSw;have hf:=HF W hSw;clear hSw;first | (go_simp;done) | (go_simp;with_reducible rfl))
      (try simp only [Act.put]);refine AnyC.tk 10 ?_ HSS ?_ ?_;rotate_left
      · (intro W hSw;have hf:=HF W hSw;clear hSw;first | (go_simp;done) | (go_simp;with_reducible rfl))
      (try simp only [Act.put]);refine AnyC.tk 11 ?_ HSS ?_ ?_;rotate_left
      · (intro W hSw;have hf:=HF W hSw;clear hSw;first | (go_simp;done) | (go_simp;with_reducible rfl))
      (try simp only [Act.put]);refine AnyC.one (i:=12) (by kernel_rfl) (by rfl) (fun K hK=>?_);have hp:=HPUT.out;go_simp;refine hK.out _ _ (fun h=>absurd rfl h) ?_;clear hK K HSS hp;(try simp only [Act.put]);refine AnyC.done (by kernel_rfl) ?_ _
      go_wp2_with fail
      go_meet
      rfl
    case rest=>
      subst hcut;obtain ⟨hszP,hosP,htapeP,houtP⟩:=HPW.out;obtain ⟨i0,hi,hz0,hz1,hz2⟩:=info_parts info_custs
      have oK6:Own wc kb [.slice va cs.length vc,tv,I t.f,I t.b,I t.d,I t.al,.map (some mb)]:=by
        obtain ⟨cur,e,h1,h2⟩:=HKA.out;exact ⟨cur,e,(HO.out kb (fun e=>hne e.symm)).trans h1,h2⟩
      have oA6:Own wc w4.heap.size [I X1,I X2,I X3,I X4,I X5,I X6,.slice ua 0 uc]:=by
        obtain ⟨cur,e,h1,h2⟩:=HOA.out;exact ⟨cur,e,(HO.out w4.heap.size (by omega)).trans h1,h2⟩
      have HB6:=Lib.hid (HB4.out.lowH hmb hszP HO.out);have HU6:=Lib.hid (sl_heap HU4.out (W':=wc) (Nat.le_of_eq hszP.symm) fun _ _ _ _ hp=>absurd hp (by simp));have KW6:Hid (Below A w wc):=⟨hosP.trans KA.out.os,htapeP.trans KA.out.tape,houtP.trans KA.out.output,by rw [hszP];exact KA.out.size,fun z hz=>(HO.out z (by omega)).trans (KA.out.block z (by omega))⟩;have hs6:w4.heap.size+1≤wc.heap.size:=by rw [hszP];simp
      have hk6:kb < wc.heap.size:=by omega
      have ra6:∀ (o:Obj) (g j:Nat),g < wc.heap.size→(wc.alloc o).cell? ⟨g,j,none⟩=wc.cell? ⟨g,j,none⟩:=fun o g j h=>(boxed_below wc o).cell (p:=⟨g,j,none⟩) h;have ha6:w4.heap.size < wc.heap.size:=by omega
      have HK6:=Lib.hid oK6;have hge:=Lib.hid HB6.out.ge;clear hszP hosP htapeP houtP ra;have kO:=oK6;have kfA:=kO.f;have k0:=kO.c0;have k1:=kO.c1;have k2:=kO.c2;have k3:=kO.c3;have k4:=kO.c4;have k5:=kO.c5;have k6:=kO.c6;clear kO;have aO:=oA6;have aA:=aO.s7;clear aO;clear oK6 oA6;go_upto_region 7 with fail
      go_region_law
        (first
          | (
             refine step_append_lies _ (by rfl) _ _ _ (by rfl) B 67 i0 (.agg #[.int .i64 0,.int .i64 0,.int .i64 0,.int .i64 0,.int .i64 0,.int .i64 0,.slice none 0 0,.slice none 0 0]) 8 96 Tryz.underlying74 hi hz0 hz1 hz2 rfl (by decide) (.slice va cs.length vc) cs.length (ys.flatMap ACust.cells) (by rfl) (owns_below HB6.out.2.1 below_autor) ⟨wc.heap.size,0,none⟩ 1 1 [I X1,I X2,I X3,I X4,I X5,I X6,.slice ua 0 uc,.slice none 0 0] (by rfl) (by rfl) (news_lit _ _ _) (oneCells_lit rfl) (by omega) (by unfold maxLen;omega) (by omega) (by first | omega | (simp;done) | (simp;omega)) _ rfl ?_;intro g cap w6 hown' hgrow hat hlt1;have hG:=grown_pre (W:=wc) hgrow below_autor;obtain ⟨zs,hB7⟩:=book_new (X:=⟨X1,X2,X3,X4,X5,X6⟩) HB6.out HU6.out below_autor hown' hgrow hat;have oK7:=HK6.out.grown hG (fun e=>by have:=(hge.out _ e.symm).1;omega);have hM7:=HM'.out.heap (w':=w6) (hG.block mb HM'.out.lt (fun e=>by have:=(hge.out _ e.symm).1;omega))
             have hKS:Hid (KState (w6.setCell ⟨kb,0,none⟩ (.slice (some ⟨g,0,none⟩) (cs.length+1) cap)) B kb mb t tv (evC t cs ⟨1,me,mo,⟨id,te,de,fe,pr,ch,un⟩,ta,⟨ow,bp⟩⟩)):=by
               unfold Hid KState;rw [h6.out];refine ⟨_,zs,oK7.set 0 _,?_,hB7.low hkb 0 _⟩;rw [List.map_append]
               have e1:([(⟨⟨X1,X2,X3,X4,X5,X6⟩,[],[]⟩:PCust)].map fun c=>c.acc.meter)=[me]:=by
                 have:=HX.out;(try simp only at this);simp [this]
               rw [e1];exact hM7.heap (by simp [World.setCell,Array.getElem?_modify,show ¬ kb=mb by omega])
             have hBl:Hid (Below A w (w6.setCell ⟨kb,0,none⟩ (.slice (some ⟨g,0,none⟩) (cs.length+1) cap))):=by
               have h1:=Below.grown (B:=A) KW6.out hG (by have:=KW6.out.size;omega) (fun z hz=>by have:=(hge.out _ hz).1;omega);exact h1.setCell (p:=⟨kb,0,none⟩) hA1 _
             have bO:=oK7;have bA:=bO.s7;clear bO;clear hown' hgrow hat hG hB7 oK7 hM7)
          | fail)
      all_goals
        go_wp2;exact bodyPost_ret (results_none rfl _ _ _) rfl (KeepP.yes h5.out hKS.out hBl.out)
end
section
open Go Go.RowKit
theorem keep_no (t:PTerms) (tv:Value) (A B kb mb:Nat) (cs:List PCust) (v:AEvent) (w:World) (hm:v.may=false):Calls Tryz.prog 80 #[.pointer (some ⟨kb,0,none⟩),v.v] w (KeepP A B kb mb t tv cs v w):=by
  have h5:=Lib.hid (evE_no (t:=t) (cs:=cs) hm);obtain ⟨ki,me,mo,⟨id,te,de,fe,pr,ch,un⟩,ta,⟨ow,bp⟩⟩:=v;have C:=Lib.hid (fun W=>check_any me mo id te de fe pr ch un ta ow bp ki W);rw [show evMay ki me mo id te de fe pr ch un ta ow bp=false from hm] at C;clear hm;have oV:=Own.new (w:=w) (g:=w.heap.size) (by rfl) [I ki,I me,I mo,I id,I te,I de,I fe,I pr,I ch,I un,I ta,I ow,I bp] 48;have kB:=boxed_below w (.cells #[I ki,I me,I mo,I id,I te,I de,I fe,I pr,I ch,I un,I ta,I ow,I bp] 48);go_enter Tryz.func80,Tryz.ntmps80
  go_wp2_with fail
  refine (C.out _).mono ?_;rintro e w1 ⟨he,k1⟩;simp only [Bool.false_eq_true,if_false] at he;subst he;exact ⟨rfl,KeepP.no h5.out (by decide) (kB.trans (k1.mono kB.size))⟩
theorem keep_twice (t:PTerms) (tv v:Value) (A B kb mb:Nat) (cs:List PCust) (ys:List ACust) (me mo id te de fe pr ch un ta ow bp:Int) (w:World) (hm:evMay 1 me mo id te de fe pr ch un ta ow bp=true) (hme:I64 me)
    (oK:Own w kb [v,tv,I t.f,I t.b,I t.d,I t.al,.map (some mb)]) (oM:OwnIdx w mb (cs.map fun c=>c.acc.meter)) (hB:BookAt w B v cs ys) (ha:0≤idxOf cs me):
    Calls Tryz.prog 80 #[.pointer (some ⟨kb,0,none⟩),evV 1 me mo id te de fe pr ch un ta ow bp] w (KeepP A B kb mb t tv cs ⟨1,me,mo,⟨id,te,de,fe,pr,ch,un⟩,ta,⟨ow,bp⟩⟩ w):=by
  have h5:=Lib.hid (evE_twice (t:=t) (cs:=cs) (v:=⟨1,me,mo,⟨id,te,de,fe,pr,ch,un⟩,ta,⟨ow,bp⟩⟩) hm rfl ha);have C:=Lib.hid (fun W=>check_any me mo id te de fe pr ch un ta ow bp 1 W);rw [hm] at C;have HA:Hid (0≤findI me (cs.map fun c=>c.acc.meter) 0):=ha;clear hm ha;have HB:=Lib.hid hB;have oV:=Own.new (w:=w) (g:=w.heap.size) (by rfl) [I 1,I me,I mo,I id,I te,I de,I fe,I pr,I ch,I un,I ta,I ow,I bp] 48;have kB:=boxed_below w (.cells #[I 1,I me,I mo,I id,I te,I de,I fe,I pr,I ch,I un,I ta,I ow,I bp] 48);have HK:=Lib.hid oK;have HM:=Lib.hid oM;clear hB oK oM;go_enter Tryz.func80,Tryz.ntmps80
  go_wp2_with fail
  refine (C.out _).mono ?_;rintro e w1 ⟨he,k1⟩;simp only [if_true] at he;subst he;have kw1:=kB.trans (k1.mono kB.size);have oV1:=oV.below k1;have oK1:=HK.out.below kw1;have oM1:=HM.out.below kw1;have hsz1:w.heap.size+1≤w1.heap.size:=by have:=k1.size;simp at this;omega
  clear oV kB k1 C;go_upto_region 2 with fail
  go_cut [4,5] (fun s4 s5 wx=>s4=I (idxA (cs.map fun c=>c.acc.meter) me)∧s5=.bool (decide (0≤findI me (cs.map fun c=>c.acc.meter) 0))∧Own wx kb [v,tv,I t.f,I t.b,I t.d,I t.al,.map (some mb)]∧Own wx w.heap.size [I 1,I me,I mo,I id,I te,I de,I fe,I pr,I ch,I un,I ta,I ow,I bp]∧OwnIdx wx mb (cs.map fun c=>c.acc.meter)∧Below w.heap.size w wx∧w.heap.size+1≤wx.heap.size)
  case first=>
    have L:=run_lookI (w:=w1.drew) oM1 hme;have HK1:=Lib.hid oK1;have HV1:=Lib.hid oV1;have HM1:=Lib.hid oM1;have KW1:=Lib.hid kw1;have kO:=oK1;have kA:=kO.s7;clear kO;have vO:=oV1;have vA:=vO.s13;clear vO;clear oK1 oV1 oM1 kw1;go_region
    all_goals
      go_wp2_with fail
      go_meet;exact ⟨rfl,rfl,HK1.out,HV1.out,HM1.out,Below.drew KW1.out,hsz1⟩
  case rest=>
    obtain ⟨rfl,rfl,oK2,oV2,oM2,kw2,hsz2⟩:=hcut;clear oK1 oV1 oM1 kw1 hsz1;have ha':=HA.out;generalize findI me (cs.map fun c=>c.acc.meter) 0=at_ at *;generalize idxA (cs.map fun c=>c.acc.meter) me=ai at *;have KW2:=Lib.hid kw2;have vO:=oV2;have vA:=vO.s13;clear vO;clear oK2 oM2 kw2 HB HK HM
    go_wp2_with fail
    refine (want_no _ _).mono ?_;rintro e w' ⟨rfl,rfl⟩;exact ⟨rfl,KeepP.no h5.out (by decide) KW2.out⟩
end
section
open Go Go.RowKit
theorem keep_none (t:PTerms) (tv v:Value) (A B kb mb:Nat) (cs:List PCust) (ys:List ACust) (ki me mo id te de fe pr ch un ta ow bp:Int) (w:World) (hm:evMay ki me mo id te de fe pr ch un ta ow bp=true) (hme:I64 me) (hk:¬ ki=1)
    (oK:Own w kb [v,tv,I t.f,I t.b,I t.d,I t.al,.map (some mb)]) (oM:OwnIdx w mb (cs.map fun c=>c.acc.meter)) (hB:BookAt w B v cs ys) (ha:¬ 0≤idxOf cs me):
    Calls Tryz.prog 80 #[.pointer (some ⟨kb,0,none⟩),evV ki me mo id te de fe pr ch un ta ow bp] w (KeepP A B kb mb t tv cs ⟨ki,me,mo,⟨id,te,de,fe,pr,ch,un⟩,ta,⟨ow,bp⟩⟩ w):=by
  have h5:=Lib.hid (evE_none (t:=t) (cs:=cs) (v:=⟨ki,me,mo,⟨id,te,de,fe,pr,ch,un⟩,ta,⟨ow,bp⟩⟩) hm hk ha);have C:=Lib.hid (fun W=>check_any me mo id te de fe pr ch un ta ow bp ki W);rw [hm] at C;have HA:Hid (¬ 0≤findI me (cs.map fun c=>c.acc.meter) 0):=ha;have hk':(ki==1)=false:=by rw [beq_eq_false_iff_ne];exact hk
  clear hm ha hk;have HB:=Lib.hid hB;have oV:=Own.new (w:=w) (g:=w.heap.size) (by rfl) [I ki,I me,I mo,I id,I te,I de,I fe,I pr,I ch,I un,I ta,I ow,I bp] 48;have kB:=boxed_below w (.cells #[I ki,I me,I mo,I id,I te,I de,I fe,I pr,I ch,I un,I ta,I ow,I bp] 48);have HK:=Lib.hid oK;have HM:=Lib.hid oM;clear hB oK oM;go_enter Tryz.func80,Tryz.ntmps80
  go_wp2_with fail
  refine (C.out _).mono ?_;rintro e w1 ⟨he,k1⟩;simp only [if_true] at he;subst he;have kw1:=kB.trans (k1.mono kB.size);have oV1:=oV.below k1;have oK1:=HK.out.below kw1;have oM1:=HM.out.below kw1;have hsz1:w.heap.size+1≤w1.heap.size:=by have:=k1.size;simp at this;omega
  clear oV kB k1 C;go_upto_region 2 with fail
  go_cut [4,5] (fun s4 s5 wx=>s4=I (idxA (cs.map fun c=>c.acc.meter) me)∧s5=.bool (decide (0≤findI me (cs.map fun c=>c.acc.meter) 0))∧Own wx kb [v,tv,I t.f,I t.b,I t.d,I t.al,.map (some mb)]∧Own wx w.heap.size [I ki,I me,I mo,I id,I te,I de,I fe,I pr,I ch,I un,I ta,I ow,I bp]∧OwnIdx wx mb (cs.map fun c=>c.acc.meter)∧Below w.heap.size w wx∧w.heap.size+1≤wx.heap.size)
  case first=>
    have L:=run_lookI (w:=w1.drew) oM1 hme;have HK1:=Lib.hid oK1;have HV1:=Lib.hid oV1;have HM1:=Lib.hid oM1;have KW1:=Lib.hid kw1;have kO:=oK1;have kA:=kO.s7;clear kO;have vO:=oV1;have vA:=vO.s13;clear vO;clear oK1 oV1 oM1 kw1;go_region
    all_goals
      go_wp2_with fail
      go_meet;exact ⟨rfl,rfl,HK1.out,HV1.out,HM1.out,Below.drew KW1.out,hsz1⟩
  case rest=>
    obtain ⟨rfl,rfl,oK2,oV2,oM2,kw2,hsz2⟩:=hcut;clear oK1 oV1 oM1 kw1 hsz1;have HD:decide (0≤findI me (cs.map fun c=>c.acc.meter) 0)=false:=decide_eq_false (Int.not_le.2 HA.out);rw [HD];clear HD;generalize idxA (cs.map fun c=>c.acc.meter) me=ai;have KW2:=Lib.hid kw2;have vO:=oV2;have vA:=vO.s13;clear vO;clear oK2 oM2 kw2 HB HK HM
    go_wp2_with fail
    refine (want_no _ _).mono ?_;rintro e w' ⟨rfl,rfl⟩;exact ⟨rfl,KeepP.no h5.out (by decide) KW2.out⟩
end
section
open Go Go.RowKit

/-- one world is another but for one block -/
def ButFor (g:Nat) (W W':World):Prop:=(∀ z,z≠g→W'.heap[z]?=W.heap[z]?)∧W'.heap.size=W.heap.size∧W'.os=W.os∧W'.tape=W.tape∧W'.output=W.output
theorem ButFor.one (W:World) (g j:Nat) (v:Value):ButFor g W (W.setCell ⟨g,j,none⟩ v):=
  ⟨fun z hz=>by simp [World.setCell,Array.getElem?_modify,show ¬ g=z by omega],by simp [World.setCell],rfl,rfl,rfl⟩
theorem ButFor.trans {g:Nat} {W W' W'':World} (h:ButFor g W W') (k:ButFor g W' W''):ButFor g W W'':=
  ⟨fun z hz=>(k.1 z hz).trans (h.1 z hz),k.2.1.trans h.2.1,k.2.2.1.trans h.2.2.1,k.2.2.2.1.trans h.2.2.2.1,k.2.2.2.2.trans h.2.2.2.2⟩
theorem ButFor.own {g z:Nat} {W W':World} {cs:List Value} (k:ButFor g W W') (h:Own W z cs) (hz:z≠g):Own W' z cs:=by
  obtain ⟨cur,e,h,hc⟩:=h;exact ⟨cur,e,(k.1 z hz).trans h,hc⟩
theorem ButFor.owns {g:Nat} {W W':World} {base e sz n:Nat} {v:Value} {cs:List Value} (k:ButFor g W W') (h:W.ownsRow base e sz v n cs) (hz:v.ownBlock≠some g):W'.ownsRow base e sz v n cs:=owns_heap h fun z hz2=>k.1 z fun e=>hz (e▸hz2)
theorem dblk_at {c:PCust} {ua sa:Option Addr} {uc sc z:Nat} (hz:dBlk (ofCust c ua uc sa sc)=some z):∃ off pr,ua=some ⟨z,off,pr⟩∧0 < c.debts.length:=by
  unfold dBlk ofCust at hz;simp only at hz
  split at hz
  · rename_i hp
    cases ua with
    | none=>cases hz
    | some a=>
      obtain ⟨b,o,p⟩:=a;injection hz with hz
      have hz:b=z:=hz;subst hz;exact ⟨o,p,rfl,hp⟩
  · cases hz
theorem sl_lt {W:World} {z off sz n m cap:Nat} {pr:_} {cs:List Value} (h:Sl W (.slice (some ⟨z,off,pr⟩) m cap) sz n cs) (hn:0 < n):z < W.heap.size:=by
  obtain ⟨a,c,hv,-,-,-,hr⟩:=h;simp only [Value.slice.injEq] at hv;rcases hr with hr | ⟨b,o,hb,hbl,-⟩
  · omega
  · rw [← hv.1] at hb
    injection hb with hb
    injection hb with hb
    rw [hb];exact hbl
/-- the end of a sale in the program: W1, its account written W7, the sale appended w5, written W6 -/
theorem book_sell0 {B g cap gg cap2 j:Nat} {cs:List PCust} {xs:List ACust} {x:ACust} {ua:Option Addr} {uc n:Nat} {X:AAcc} {L:List ADebt} {S:List ASold} {s:ASold} {so:Option Nat} {w W1 W7 P w5 W6:World}
    (hB:BookAt w B (.slice (some ⟨g,0,none⟩) cs.length cap) cs xs) (hBw:B≤w.heap.size) (hj:j < cs.length) (hx:xs.getD j default=x) (hso:so=sBlk x)
    (kw:Below w.heap.size w W1) (hu:Sl W1 (.slice ua L.length uc) 2 L.length (L.flatMap ADebt.cells)) (hF:FarB w.heap.size (.slice ua L.length uc)) (h7:ButFor g W1 W7) (hP:Below W7.heap.size W7 P)
    (hown:w5.ownsRow B 69 5 (.slice (some ⟨gg,0,none⟩) n cap2) n (S.flatMap ASold.cells++s.cells)) (hn:n=S.length+1) (hgrow:P.grownBy w5 so) (hat:so=some gg∨gg=P.heap.size)
    (h6:ButFor g w5 W6) (hrow:W6.ownsRow B 67 8 (.slice (some ⟨g,0,none⟩) cs.length cap) cs.length ((xs.set j (ofCust ⟨X,L,S++[s]⟩ ua uc (some ⟨gg,0,none⟩) cap2)).flatMap ACust.cells)):
    (∃ ys,BookAt W6 B (.slice (some ⟨g,0,none⟩) cs.length cap) (cs.set j ⟨X,L,S++[s]⟩) ys)∧Below B w W6:=by
  have hjx:j < xs.length:=by rw [hB.1];exact hj
  have hgB:=hB.2.1.lt g rfl;have hsoB:∀ z,so=some z→B≤z∧z < w.heap.size:=fun z hz=>(hB.2.2.1 j hj).sblk (by rw [hx,← hso];exact hz);have hgso:so≠some g:=fun e=>(((hB.2.2.2 j hjx g).2 (by rw [hx,← hso];exact e)).1) rfl;have s7:=h7.2.1;have s6:=h6.2.1;have sP:=hP.size;have s5:=hgrow.size;have sw:=kw.size
  have h16:∀ z,z < W1.heap.size→z≠g→some z≠so→W6.heap[z]?=W1.heap[z]?:=fun z hz hg hs=>
    (h6.1 z hg).trans ((hgrow.block z (by omega) hs).trans ((hP.block z (by omega)).trans (h7.1 z hg)))
  have hgg:so=some gg∨W1.heap.size≤gg:=hat.imp _root_.id (fun h=>by omega)
  have hggg:gg≠g:=fun e=>by
    subst e;rcases hgg with h | h
    · exact hgso h
    · omega
  have hd:∀ z,dBlk (ofCust ⟨X,L,S++[s]⟩ ua uc (some ⟨gg,0,none⟩) cap2)=some z→w.heap.size≤z∧z < W1.heap.size:=fun z hz=>by
    obtain ⟨off,pr,rfl,hp⟩:=dblk_at hz;exact ⟨hF _ _ _ rfl,sl_lt hu hp⟩
  have hu6:Sl W6 (.slice ua L.length uc) 2 L.length (L.flatMap ADebt.cells):=by
    refine sl_heap hu (by omega) fun a m cc hv hp=>?_
    simp only [Value.slice.injEq] at hv;obtain ⟨rfl,-,-⟩:=hv;have q1:w.heap.size≤a.block:=hF _ _ _ rfl;have q2:a.block < W1.heap.size:=by obtain ⟨z,o,p⟩:=a;exact sl_lt hu hp
    exact h16 _ q2 (by omega) (fun e=>by have:=(hsoB _ e.symm).2;omega)
  have hown6:=h6.owns hown (fun e=>hggg (by injection e))
  have hc:CRep W6 B (ofCust ⟨X,L,S++[s]⟩ ua uc (some ⟨gg,0,none⟩) cap2) ⟨X,L,S++[s]⟩:=by
    refine ⟨rfl,hu6,?_⟩;show W6.ownsRow B _ 5 (.slice (some ⟨gg,0,none⟩) (S++[s]).length cap2) (S++[s]).length ((S++[s]).flatMap ASold.cells);rw [show (S++[s]).length=n by rw [hn];simp,List.flatMap_append];simpa using hown6
  refine ⟨⟨xs.set j (ofCust ⟨X,L,S++[s]⟩ ua uc (some ⟨gg,0,none⟩) cap2),hB.set hBw hj (by omega) (fun z hz hv hs=>?_) hrow hc (fun z hz=>⟨(hd z hz).1,fun e=>?_⟩) (fun z hz=>?_)⟩,?_⟩
  · have hzg:z≠g:=fun e=>hv (by rw [e];rfl)
    rw [h16 z (by omega) hzg (fun e=>hs (by rw [hx,← hso];exact e))];exact kw.block z hz
  · have e:gg=z:=by injection e
    subst e;rcases hgg with h | h
    · have:=(hsoB _ h).2;have:=(hd _ hz).1;omega
    · have:=(hd _ hz).2;omega
  · have e:gg=z:=by injection hz
    subst e;rcases hgg with h | h
    · left;rw [hx,← hso];exact h
    · right;omega
  · refine ⟨h6.2.2.1.trans (hgrow.os.trans (hP.os.trans (h7.2.2.1.trans kw.os))),h6.2.2.2.1.trans (hgrow.tape.trans (hP.tape.trans (h7.2.2.2.1.trans kw.tape))),h6.2.2.2.2.trans (hgrow.output.trans (hP.output.trans (h7.2.2.2.2.trans kw.output))),by omega,fun z hz=>?_⟩
    rw [h16 z (by omega) (by omega) (fun e=>by have:=(hsoB _ e.symm).1;omega)];exact kw.block z (by omega)
/-- the row behind the seven cells of the account, an append elsewhere, and the eighth cell -/
theorem row8 {B g cap j:Nat} {cs:List PCust} {xs:List ACust} {X1 X2 X3 X4 X5 X6:Int} {ua:Option Addr} {uc n gg cap2:Nat} {L:List ADebt} {S:List ASold} {s:ASold} {W7 w5:World}
    (h:W7.ownsRow B 67 8 (.slice (some ⟨g,0,none⟩) cs.length cap) cs.length ((((((((xs.flatMap ACust.cells).set (j*8) (I X1)).set (j*8+1) (I X2)).set (j*8+2) (I X3)).set (j*8+3) (I X4)).set (j*8+4) (I X5)).set (j*8+5) (I X6)).set (j*8+6) (.slice ua L.length uc))) (hjx:j < xs.length)
    (hg:w5.heap[g]?=W7.heap[g]?) (hn:n=S.length+1):
    (w5.setCell ⟨g,j*8+7,none⟩ (.slice (some ⟨gg,0,none⟩) n cap2)).ownsRow B 67 8 (.slice (some ⟨g,0,none⟩) cs.length cap) cs.length ((xs.set j (ofCust ⟨⟨X1,X2,X3,X4,X5,X6⟩,L,S++[s]⟩ ua uc (some ⟨gg,0,none⟩) cap2)).flatMap ACust.cells):=by
  have hrow5:=owns_heap h (W':=w5) fun z hz=>by
    have e:g=z:=by injection hz
    subst e;exact hg
  have hrow6:=owns_store hrow5 (j*8+7) (.slice (some ⟨gg,0,none⟩) n cap2);have hflat:=flat_set8 hjx ⟨X1,X2,X3,X4,X5,X6,ua,L.length,uc,some ⟨gg,0,none⟩,n,cap2⟩
  dsimp only at hflat
  rw [hflat] at hrow6
  have hy:(⟨X1,X2,X3,X4,X5,X6,ua,L.length,uc,some ⟨gg,0,none⟩,n,cap2⟩:ACust)=ofCust ⟨⟨X1,X2,X3,X4,X5,X6⟩,L,S++[s]⟩ ua uc (some ⟨gg,0,none⟩) cap2:=by
    unfold ofCust;simp [hn]
  rw [hy] at hrow6;exact hrow6
end
end Go.Proofs.YtdjgcenjonegjaaGreat
