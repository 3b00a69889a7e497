/- ref.BookOf -/
import Derived.Test.YtdjgcenjonegjaaGreatPk23
import Derived.Test.YtdjgcenjonegjaaGreatPk35
import Derived.Test.YtdjgcenjonegjaaGreatPk03
import Derived.Test.YtdjgcenjonegjaaGreatPk08
import Derived.Test.YtdjgcenjonegjaaGreatPk09
import Derived.Deep.RegionLaw
import Derived.Deep.DeepCutAuto
import Derived.Deep.AppendLies
set_option maxRecDepth 20000
set_option maxHeartbeats 8000000
set_option linter.unusedSimpArgs false
set_option linter.unusedVariables false
namespace Go.Proofs.YtdjgcenjonegjaaGreat
open Go Go.RowKit

theorem BookOf_loop (t : PTerms) (tv : Value) (l : List AEvent) (la : Option Addr) (lcap : Nat) (w w1 : World) (h120 : l.length ≤ 120) (tS : Sl w tv 2 t.ts.length (t.ts.flatMap AStep.cells))
    (hlr:l.length=0∨∃ b off,la=some ⟨b,off,none⟩∧b < w.heap.size∧∀ j,j < (l.flatMap AEvent.cells).length→w.cell? ⟨b,off+j,none⟩=some ((l.flatMap AEvent.cells).getD j undef)) (hE:t.E=0)
    (F:Hid (∀ W,Sl W tv 2 t.ts.length (t.ts.flatMap AStep.cells)→Calls Tryz.prog 55 #[.agg #[tv,I t.f,I t.b,I t.d,I t.al]] W (Grew (I 0) W))):
    Calls Tryz.prog 46 #[.agg #[tv,I t.f,I t.b,I t.d,I t.al],.slice la l.length lcap] w (BookP t l w):=by
  have hR0:=bookR_run hE (show ¬ 120 < l.length by omega);obtain ⟨kB,oT,oZ⟩:=boxes2 w [tv,I t.f,I t.b,I t.d,I t.al] 24 [.slice none 0 0] 76;have h120i:¬ (120:Int) < (l.length:Int):=by omega
  go_enter Tryz.func46,Tryz.ntmps46
  go_wp2_with fail
  refine (F.out _ (tS.below kB)).mono ?_;rintro e w1 ⟨rfl,k1⟩;have kw1:=kB.trans (k1.mono kB.size);have hs1:w.heap.size+2≤w1.heap.size:=by have:=k1.size;simp at this;omega
  have oTa:=(oT.below k1).alloc (.cells #[.slice none 0 0] 76);have oZa:=(oZ.below k1).alloc (.cells #[.slice none 0 0] 76);have oBa:=Own.new (w:=w1) rfl [.slice none 0 0] 76
  have hD0:Hid (BRel w w1.heap.size t tv l 0 (w1.alloc (.cells #[.slice none 0 0] 76))):=
    ⟨[],[],.slice none 0 0,Nat.le_refl _,fun c hc=>absurd hc (by simp),oTa,oZa,oBa,BookAt.nil _ _,kw1.alloc kw1.size _,by rw [List.drop_zero];exact hR0.symm⟩
  clear oT oZ oTa oZa oBa k1 kB kw1 F hR0;generalize hgbe:w1.heap.size=gb at *;go_wp2
  go_loopw [9] (fun i wr=>∃ k:Nat,k≤l.length∧i=I k∧Hid (BRel w gb t tv l k wr)) (fun i _=>l.length-(intOf i).toNat)
  case atStart=>exact ⟨0,Nat.zero_le _,rfl,hD0⟩
  case round=>
    obtain ⟨k,hk,rfl,hD⟩:=hrel;obtain ⟨cs,xs,v,c1,c2,oT,oZ,oB,hB,kw,hrun⟩:=hD.out;clear hD0 hD
    by_cases hlt:k < l.length
    · obtain ⟨lb, lo, rfl, hlb, hlc⟩ := hlr.resolve_left (by omega)
      have hel:=elEv hlb hlc kw k hlt;have hdr:=drop_at hlt;have hi0:(0:Int)≤(k:Int):=by omega
      have hi1:(k:Int) < (l.length:Int):=by omega
      have hsz:=kw.size;have hgb:=oB.lt;rw [hdr] at hrun;have HRun:=Lib.hid hrun;clear hlc hlr hdr hrun;generalize l.getD k default=ev at *;obtain ⟨ki,me,mo,⟨id,te,de,fe,pr,ch,un⟩,ta,⟨ow,bp⟩⟩:=ev;have hx0:=hel 0 (by decide);have hx1:=hel 1 (by decide);have hx2:=hel 2 (by decide);have hx3:=hel 3 (by decide);have hx4:=hel 4 (by decide);have hx5:=hel 5 (by decide);have hx6:=hel 6 (by decide);have hx7:=hel 7 (by decide);have hx8:=hel 8 (by decide);have hx9:=hel 9 (by decide);have hx10:=hel 10 (by decide);have hx11:=hel 11 (by decide);have hx12:=hel 12 (by decide);simp only [AEvent.cells,List.getD_cons_zero,List.getD_cons_succ,Nat.add_zero] at hx0 hx1 hx2 hx3 hx4 hx5 hx6 hx7 hx8 hx9 hx10 hx11 hx12;clear hel;have M:=Lib.hid (fun W=>EventMay_any ki me mo id te de fe pr ch un ta ow bp W);have HC1:=Lib.hid c1;have HC2:=Lib.hid c2;clear c1 c2;have r1:=set_same;have r2:=set_off;have r3:=set_blk;cases hm:evMay ki me mo id te de fe pr ch un ta ow bp
      · have hR:=Lib.hid (show bookR t l=(5,k,[]) by
          have h5:evE t cs ⟨ki,me,mo,⟨id,te,de,fe,pr,ch,un⟩,ta,⟨ow,bp⟩⟩=5:=evE_no hm;rw [← HRun.out,runB_bad (by rw [h5];decide),h5])
        rw [hm] at M;clear hm HRun;have kv:=boxed_below wr (.cells #[I ki,I me,I mo,I id,I te,I de,I fe,I pr,I ch,I un,I ta,I ow,I bp] 48);have oV:=Own.new (w:=wr) rfl [I ki,I me,I mo,I id,I te,I de,I fe,I pr,I ch,I un,I ta,I ow,I bp] 48
        go_wp2_with fail
        refine (M.out _).mono ?_;rintro e w2 ⟨rfl,k2⟩;have kvv:=kv.trans (k2.mono kv.size);have oZ2:=oZ.below kvv;have kw2:=kw.trans (kvv.mono kw.size);have hsz2:wr.heap.size+1≤w2.heap.size:=by have:=k2.size;simp at this;omega
        clear M k2 kv kvv oV oB oT oZ hB hx0 hx1 hx2 hx3 hx4 hx5 hx6 hx7 hx8 hx9 hx10 hx11 hx12;have zO:=oZ2;have zA:=zO.s1;clear zO;clear oZ2;go_wp2;exact bodyPost_ret (v:=T3 (.agg #[.slice none 0 0]) (I (k:Nat)) (I 5)) (by simp [results,Tryz.results46,go_sem, *];try omega) rfl (BookP.bad hR.out below_autor)
      · rw [hm] at M
        have Hm:=Lib.hid hm
        by_cases hk1:ki=1
        · subst hk1
          clear hm
          by_cases ha:0≤idxOf cs me
          · have hR:=Lib.hid (show bookR t l=(21,k,[]) by
              have h5:evE t cs ⟨1,me,mo,⟨id,te,de,fe,pr,ch,un⟩,ta,⟨ow,bp⟩⟩=21:=evE_twice Hm.out rfl ha;rw [← HRun.out,runB_bad (by rw [h5];decide),h5])
            clear HRun;have kv:=boxed_below wr (.cells #[I 1,I me,I mo,I id,I te,I de,I fe,I pr,I ch,I un,I ta,I ow,I bp] 48);have oV:=Own.new (w:=wr) rfl [I 1,I me,I mo,I id,I te,I de,I fe,I pr,I ch,I un,I ta,I ow,I bp] 48
            go_wp2_with fail
            refine (M.out _).mono ?_;rintro e w2 ⟨rfl,k2⟩;have kvv:=kv.trans (k2.mono kv.size);have oZ2:=oZ.below kvv;have kw2:=kw.trans (kvv.mono kw.size);have hsz2:wr.heap.size+1≤w2.heap.size:=by have:=k2.size;simp at this;omega
            have oB2:=oB.below kvv;have oT2:=oT.below kvv;have oV2:=oV.below k2;have hB2:=hB.below kvv;have Fd:=Lib.hid (fun W hW=>Found_any v xs me W hW);rw [book_found hB] at Fd;clear M k2 kv kvv oV oB oT oZ hB hx0 hx1 hx2 hx3 hx4 hx5 hx6 hx7 hx8 hx9 hx10 hx11 hx12;have HSl:=Lib.hid (hB2.sl (by have:=HC1.out;omega));have OB2:=Lib.hid oB2;have bO:=oB2;have bA:=bO.s1;clear bO;have qO:=oV2;have qA:=qO.s13;clear qO;clear oB2
            go_wp2_with fail
            refine (Fd.out _ HSl.out).mono ?_;rintro e w3 ⟨rfl,k3⟩;have oZ3:=oZ2.below k3;have oB3:=OB2.out.below k3;have oT3:=oT2.below k3;have oV3:=oV2.below k3;have hB3:=hB2.below k3;have kw3:=kw2.trans (k3.mono kw2.size);have hsz3:wr.heap.size+1≤w3.heap.size:=by have:=k3.size;omega
            clear k3 Fd oZ2 oT2 hB2 kw2 HSl OB2 bA qA oV2;generalize idxOf cs me=at_ at *;clear hB3 oT3 oB3;have zO:=oZ3;have zA:=zO.s1;clear zO;have qO:=oV3;have qA:=qO.s13;clear qO;clear oZ3 oV3;go_wp2;exact bodyPost_ret (v:=T3 (.agg #[.slice none 0 0]) (I (k:Nat)) (I 21)) (by simp [results,Tryz.results46,go_sem, *];try omega) rfl (BookP.bad hR.out below_autor)
          · have hR := Lib.hid (show runB t (cs ++ [⟨openX me, [], []⟩]) (l.drop (k + 1)) (k + 1) = bookR t l by
              have h5:evE t cs ⟨1,me,mo,⟨id,te,de,fe,pr,ch,un⟩,ta,⟨ow,bp⟩⟩=0:=evE_reg Hm.out rfl ha;rw [← HRun.out,runB_go h5,evC_reg rfl])
            clear HRun;obtain ⟨i0,hi,hz0,hz1,hz2⟩:=info_parts info_custs;have Op:=Lib.hid (fun W=>Opened_any me W)
            have hoe:openE me=0:=by
              obtain ⟨q0,q1⟩:=may_meter0 (v:=⟨1,me,mo,⟨id,te,de,fe,pr,ch,un⟩,ta,⟨ow,bp⟩⟩) Hm.out;unfold openE;rw [if_pos (inB_true.2 ⟨q0,q1⟩)]
            rw [hoe] at Op;clear hoe;have kv:=boxed_below wr (.cells #[I 1,I me,I mo,I id,I te,I de,I fe,I pr,I ch,I un,I ta,I ow,I bp] 48);have oV:=Own.new (w:=wr) rfl [I 1,I me,I mo,I id,I te,I de,I fe,I pr,I ch,I un,I ta,I ow,I bp] 48
            go_wp2_with fail
            refine (M.out _).mono ?_;rintro e w2 ⟨rfl,k2⟩;have kvv:=kv.trans (k2.mono kv.size);have oZ2:=oZ.below kvv;have kw2:=kw.trans (kvv.mono kw.size);have hsz2:wr.heap.size+1≤w2.heap.size:=by have:=k2.size;simp at this;omega
            have oB2:=oB.below kvv;have oT2:=oT.below kvv;have oV2:=oV.below k2;have hB2:=hB.below kvv;have Fd:=Lib.hid (fun W hW=>Found_any v xs me W hW);rw [book_found hB] at Fd;clear M k2 kv kvv oV oB oT oZ hB hx0 hx1 hx2 hx3 hx4 hx5 hx6 hx7 hx8 hx9 hx10 hx11 hx12;have HSl:=Lib.hid (hB2.sl (by have:=HC1.out;omega));have OB2:=Lib.hid oB2;have bO:=oB2;have bA:=bO.s1;clear bO;have qO:=oV2;have qA:=qO.s13;clear qO;clear oB2
            go_wp2_with fail
            refine (Fd.out _ HSl.out).mono ?_;rintro e w3 ⟨rfl,k3⟩;have oZ3:=oZ2.below k3;have oB3:=OB2.out.below k3;have oT3:=oT2.below k3;have oV3:=oV2.below k3;have hB3:=hB2.below k3;have kw3:=kw2.trans (k3.mono kw2.size);have hsz3:wr.heap.size+1≤w3.heap.size:=by have:=k3.size;omega
            clear k3 Fd oZ2 oT2 hB2 kw2 HSl OB2 bA qA oV2;generalize idxOf cs me=at_ at *;generalize openX me=X at *;obtain ⟨X1,X2,X3,X4,X5,X6⟩:=X;have qO:=oV3;have qA:=qO.s13;clear qO
            go_wp2_with fail
            refine (Op.out _).mono ?_;rintro e w4 ⟨u,rfl,hu,k4⟩;obtain ⟨ua,uc,rfl,-⟩:=_root_.id hu;have oZ4:=oZ3.below k4;have oB4:=oB3.below k4;have oT4:=oT3.below k4;have hB4:=hB3.below k4;have kw4:=kw3.trans (k4.mono kw3.size);have hsz4:wr.heap.size+1≤w4.heap.size:=by have:=k4.size;omega
            have hge:=Lib.hid hB4.ge;have hgb4:gb < w4.heap.size:=by omega
            clear k4 Op oZ3 oB3 oT3 hB3 kw3 oV3 qA;have bO:=oB4;have bA:=bO.s1;clear bO;have hlen:=HC1.out;have ra:∀ (o:Obj) (g j:Nat),g < w4.heap.size→(w4.alloc o).cell? ⟨g,j,none⟩=w4.cell? ⟨g,j,none⟩:=fun o g j h=>(boxed_below w4 o).cell (p:=⟨g,j,none⟩) h;have HB4:=Lib.hid hB4;have HU4:=Lib.hid hu;have KW4:=Lib.hid kw4;have HOZ:=Lib.hid oZ4;have HOB:=Lib.hid oB4;have HOT:=Lib.hid oT4;clear hB4 hu kw4 oZ4 oB4 oT4
            go_wp2_with
              (at_builtin
               refine wpList_append_lies _ rfl _ _ 74 rfl (gb+1) 67 i0 (.agg #[.int .i64 0,.int .i64 0,.int .i64 0,.int .i64 0,.int .i64 0,.int .i64 0,.slice none 0 0,.slice none 0 0]) 8 96 Tryz.underlying74 hi hz0 hz1 hz2 rfl (by decide) _ cs.length (xs.flatMap ACust.cells) rfl (owns_below HB4.out.2.1 below_autor) ⟨w4.heap.size+1,0,none⟩ 1 1 [I X1,I X2,I X3,I X4,I X5,I X6,.slice ua 0 uc,.slice none 0 0] rfl rfl (news_own (Own.new (by simp) _ 67)) (oneCells_lit rfl) (by omega) (by unfold maxLen;omega) (by omega) (by simp;omega) _ rfl ?_;intro g cap w5 hown' hgrow hat hlt1;have hbP:Below w4.heap.size w4 ((w4.alloc (.cells #[I X1,I X2,I X3,I X4,I X5,I X6,.slice ua 0 uc] 64)).alloc (.cells #[I X1,I X2,I X3,I X4,I X5,I X6,.slice ua 0 uc,.slice none 0 0] 67)):=below_autor;obtain ⟨ys,hB5⟩:=book_new (X:=⟨X1,X2,X3,X4,X5,X6⟩) HB4.out HU4.out hbP hown' hgrow hat;have hG:=grown_pre hgrow hbP;have oZ5:=HOZ.out.grown hG (fun e=>by have:=(hge.out _ e.symm).1;omega);have oT5:=HOT.out.grown hG (fun e=>by have:=(hge.out _ e.symm).1;omega);have oB5:=HOB.out.grown hG (fun e=>by have:=(hge.out _ e.symm).1;omega);have kw5:=below_grown KW4.out hG (fun z hz=>by have:=(hge.out _ hz).1;omega)
               have hN:Hid (BRel w gb t tv l (k+1) (w5.setCell ⟨gb,0,none⟩ (.slice (some ⟨g,0,none⟩) (cs.length+1) cap))):=⟨cs++[⟨⟨X1,X2,X3,X4,X5,X6⟩,[],[]⟩],ys,_,by simp;exact hlen,(fun c hc=>by
                 rcases List.mem_append.1 hc with hc | hc
                 · exact Nat.le_succ_of_le (HC2.out c hc)
                 · rw [List.mem_singleton.1 hc];exact Nat.zero_le _),oT5.other (by simp;omega) _,oZ5.other (by simp;omega) _,oB5.set 0 _,by simpa using hB5.low (show gb < gb+1 by omega) 0 (.slice (some ⟨g,0,none⟩) (cs.length+1) cap),kw5.setCell (by simp;omega) _,hR.out⟩
               have cO:=oB5;have cA:=cO.s1;clear cO;clear hown' hgrow hat hB5 hG oZ5 oT5 oB5 kw5 hbP)
            exact ⟨⟨k+1,by omega,by go_num,hN⟩,by simp [intOf];omega⟩
        · have hk1' : (ki == 1) = false := by rw [beq_eq_false_iff_ne]; exact hk1
          by_cases ha:0≤idxOf cs me
          · obtain ⟨j, hj⟩ := Int.eq_ofNat_of_zero_le ha
            have hjl:j < cs.length:=by rcases idxOf_bd cs me with h | h<;>omega
            have hkind:=may_kind (v:=⟨ki,me,mo,⟨id,te,de,fe,pr,ch,un⟩,ta,⟨ow,bp⟩⟩) Hm.out;have hkind:ki=2∨ki=3∨ki=4∨ki=5:=by simp only at hkind;omega
            have hevE:evE t cs ⟨ki,me,mo,⟨id,te,de,fe,pr,ch,un⟩,ta,⟨ow,bp⟩⟩=hapE t (cs.getD j default) ⟨ki,me,mo,⟨id,te,de,fe,pr,ch,un⟩,ta,⟨ow,bp⟩⟩:=by
              have:=evE_hap (t:=t) (cs:=cs) (v:=⟨ki,me,mo,⟨id,te,de,fe,pr,ch,un⟩,ta,⟨ow,bp⟩⟩) Hm.out hk1 ha;simp only [hj,Int.toNat_natCast] at this;exact this
            have hevC:evC t cs ⟨ki,me,mo,⟨id,te,de,fe,pr,ch,un⟩,ta,⟨ow,bp⟩⟩=cs.set j (hapC t (cs.getD j default) ⟨ki,me,mo,⟨id,te,de,fe,pr,ch,un⟩,ta,⟨ow,bp⟩⟩):=by
              have:=evC_hap (t:=t) (cs:=cs) (v:=⟨ki,me,mo,⟨id,te,de,fe,pr,ch,un⟩,ta,⟨ow,bp⟩⟩) hk1;simp only [hj,Int.toNat_natCast] at this;exact this
            have HRF:Hid (hapE t (cs.getD j default) ⟨ki,me,mo,⟨id,te,de,fe,pr,ch,un⟩,ta,⟨ow,bp⟩⟩≠0→bookR t l=(hapE t (cs.getD j default) ⟨ki,me,mo,⟨id,te,de,fe,pr,ch,un⟩,ta,⟨ow,bp⟩⟩,k,[])):=fun h=>by
              rw [← HRun.out,runB_bad (by rw [hevE];exact h),hevE]
            have HRG:Hid (hapE t (cs.getD j default) ⟨ki,me,mo,⟨id,te,de,fe,pr,ch,un⟩,ta,⟨ow,bp⟩⟩=0→runB t (cs.set j (hapC t (cs.getD j default) ⟨ki,me,mo,⟨id,te,de,fe,pr,ch,un⟩,ta,⟨ow,bp⟩⟩)) (l.drop (k+1)) (k+1)=bookR t l):=fun h=>by
              rw [← HRun.out,runB_go (by rw [hevE];exact h),hevC]
            have HS1:=Lib.hid (hapC_sold t (cs.getD j default) ⟨ki,me,mo,⟨id,te,de,fe,pr,ch,un⟩,ta,⟨ow,bp⟩⟩);have hs0:=HC2.out _ (getD_mem (α:=PCust) hjl);have HS0:=Lib.hid hs0;have HK:=Lib.hid hkind;clear hevE hevC HRun hm hk1 hkind hs0;have kv:=boxed_below wr (.cells #[I ki,I me,I mo,I id,I te,I de,I fe,I pr,I ch,I un,I ta,I ow,I bp] 48);have oV:=Own.new (w:=wr) rfl [I ki,I me,I mo,I id,I te,I de,I fe,I pr,I ch,I un,I ta,I ow,I bp] 48
            go_wp2_with fail
            refine (M.out _).mono ?_;rintro e w2 ⟨rfl,k2⟩;have kvv:=kv.trans (k2.mono kv.size);have oZ2:=oZ.below kvv;have kw2:=kw.trans (kvv.mono kw.size);have hsz2:wr.heap.size+1≤w2.heap.size:=by have:=k2.size;simp at this;omega
            have oB2:=oB.below kvv;have oT2:=oT.below kvv;have oV2:=oV.below k2;have hB2:=hB.below kvv;have Fd:=Lib.hid (fun W hW=>Found_any v xs me W hW);rw [book_found hB] at Fd;clear M k2 kv kvv oV oB oT oZ hB hx0 hx1 hx2 hx3 hx4 hx5 hx6 hx7 hx8 hx9 hx10 hx11 hx12;have HSl:=Lib.hid (hB2.sl (by have:=HC1.out;omega));have OB2:=Lib.hid oB2;have bO:=oB2;have bA:=bO.s1;clear bO;have qO:=oV2;have qA:=qO.s13;clear qO;clear oB2
            go_wp2_with fail
            refine (Fd.out _ HSl.out).mono ?_;rintro e w3 ⟨rfl,k3⟩;have oZ3:=oZ2.below k3;have oB3:=OB2.out.below k3;have oT3:=oT2.below k3;have oV3:=oV2.below k3;have hB3:=hB2.below k3;have kw3:=kw2.trans (k3.mono kw2.size);have hsz3:wr.heap.size+1≤w3.heap.size:=by have:=k3.size;omega
            clear k3 Fd oZ2 oT2 hB2 kw2 HSl OB2 bA qA oV2;rw [hj];clear hj ha;obtain ⟨g,cap,rfl,hg1,hg2⟩:=owns_pos hB3.2.1 (by omega);have hcell:=book_cells hB3 hjl;have hCR:=hB3.2.2.1 j hjl;have HSB:=Lib.hid (show (Value.slice (xs.getD j default).sa (xs.getD j default).sn (xs.getD j default).sc).ownBlock=sBlk (xs.getD j default) from sBlk_own.symm);generalize hXe:xs.getD j default=x at *;generalize hCe:cs.getD j default=c at *;have HXe:=Lib.hid hXe;have HCe:=Lib.hid hCe;clear hXe hCe;obtain ⟨m1,m2,m3,m4,m5,m6,da,dn,dc,sa,sn,sc⟩:=x;obtain ⟨hxe,hSd,hSo⟩:=hCR;simp only [ofCust,ACust.mk.injEq,true_and,and_true] at hxe;obtain ⟨rfl,rfl,rfl,rfl,rfl,rfl,rfl,rfl⟩:=hxe;have HH:=Lib.hid (fun W h1 h2 h3 h4=>happens_any t c ⟨ki,me,mo,⟨id,te,de,fe,pr,ch,un⟩,ta,⟨ow,bp⟩⟩ da sa dc sc tv (gb+1) W HK.out h1 h2 h3 h4 (by have:=HS0.out;omega));generalize hapE t c ⟨ki,me,mo,⟨id,te,de,fe,pr,ch,un⟩,ta,⟨ow,bp⟩⟩=F at *;generalize hapC t c ⟨ki,me,mo,⟨id,te,de,fe,pr,ch,un⟩,ta,⟨ow,bp⟩⟩=c' at *;simp only [AEvent.v,PTerms.v] at HH;have HSd:=Lib.hid hSd;have HSo:=Lib.hid hSo;have HTs:=Lib.hid (tS.below kw3);have HCELL:=Lib.hid hcell;have HOV:=Lib.hid oV3;have HB3:=Lib.hid hB3;have HOZ:=Lib.hid oZ3;have HOB:=Lib.hid oB3;have HOT:=Lib.hid oT3;have KW3:=Lib.hid kw3;have y0:=(hcell 0 (by decide)).1;have y1:=(hcell 1 (by decide)).1;have y2:=(hcell 2 (by decide)).1;have y3:=(hcell 3 (by decide)).1;have y4:=(hcell 4 (by decide)).1;have y5:=(hcell 5 (by decide)).1;have y6:=(hcell 6 (by decide)).1;have y7:=(hcell 7 (by decide)).1;simp only [ACust.cells,List.getD_cons_zero,List.getD_cons_succ,Nat.add_zero] at y0 y1 y2 y3 y4 y5 y6 y7;clear hcell hSd hSo hB3 kw3;have ra:∀ (o:Obj) (g j:Nat),g < w3.heap.size→(w3.alloc o).cell? ⟨g,j,none⟩=w3.cell? ⟨g,j,none⟩:=fun o g j h=>(boxed_below w3 o).cell (p:=⟨g,j,none⟩) h;have hj0:(0:Int)≤(j:Int):=by omega
            have hj1:(j:Int) < (cs.length:Int):=by omega
            have hl0:w.heap.size < w3.heap.size:=by omega
            have hl1:gb < w3.heap.size:=by omega
            have hl2:wr.heap.size < w3.heap.size:=by omega
            have tO:=oT3;have tA:=tO.s5;clear tO;have bO:=oB3;have bA:=bO.s1;clear bO;have qO:=oV3;have qA:=qO.s13;clear qO;clear oT3 oB3 oZ3 oV3;go_upto_region 21 with fail
            go_cut [14,15] (fun s14 s15 wx=>∃ gy y,s14=.pointer (some ⟨gy,0,none⟩)∧s15=I F∧Own wx gy [I (ACust.meter y),I y.rev,I y.next,I y.month,I y.bought,I y.free,.slice y.da y.dn y.dc,.slice y.sa y.sn y.sc]∧Hid ((F=0→HapG (gb+1) y c' (Value.slice sa c.sold.length sc).ownBlock w3 wx)∧w3.grownBy wx (Value.slice sa c.sold.length sc).ownBlock∧w3.heap.size≤gy))
            case first=>
              have HSS:(fun W=>Own W w.heap.size [tv,I t.f,I t.b,I t.d,I t.al]∧Own W gb [.slice (some ⟨g,0,none⟩) cs.length cap]∧Own W wr.heap.size [I ki,I me,I mo,I id,I te,I de,I fe,I pr,I ch,I un,I ta,I ow,I bp]∧∀ i,i < 8→W.cell? ⟨g,j*8+i,none⟩=some ((ACust.mk c.acc.meter c.acc.rev c.acc.next c.acc.month c.acc.bought c.acc.free da c.debts.length dc sa c.sold.length sc).cells.getD i undef)) w3.drew:=⟨HOT.out,HOB.out,HOV.out,fun i hi=>(HCELL.out i hi).1⟩;clear tA bA qA y0 y1 y2 y3 y4 y5 y6 y7 ra;have HF:=fun (W:World) (h:(fun W=>Own W w.heap.size [tv,I t.f,I t.b,I t.d,I t.al]∧Own W gb [.slice (some ⟨g,0,none⟩) cs.length cap]∧Own W wr.heap.size [I ki,I me,I mo,I id,I te,I de,I fe,I pr,I ch,I un,I ta,I ow,I bp]∧∀ i,i < 8→W.cell? ⟨g,j*8+i,none⟩=some ((ACust.mk c.acc.meter c.acc.rev c.acc.next c.acc.month c.acc.bought c.acc.free da c.debts.length dc sa c.sold.length sc).cells.getD i undef)) W)=>(And.intro (Own.t5 h.1) (And.intro (Own.t1 h.2.1) (And.intro (Own.t13 h.2.2.1) (And.intro (h.2.2.2 0 (by decide)) (And.intro (h.2.2.2 1 (by decide)) (And.intro (h.2.2.2 2 (by decide)) (And.intro (h.2.2.2 3 (by decide)) (And.intro (h.2.2.2 4 (by decide)) (And.intro (h.2.2.2 5 (by decide)) (And.intro (h.2.2.2 6 (by decide)) (h.2.2.2 7 (by decide))))))))))));simp only [ACust.cells,List.getD_cons_zero,List.getD_cons_succ,Nat.add_zero] at HF;refine AnyC.begin 7 (fun W=>Own W w.heap.size [tv,I t.f,I t.b,I t.d,I t.al]∧Own W gb [.slice (some ⟨g,0,none⟩) cs.length cap]∧Own W wr.heap.size [I ki,I me,I mo,I id,I te,I de,I fe,I pr,I ch,I un,I ta,I ow,I bp]∧∀ i,i < 8→W.cell? ⟨g,j*8+i,none⟩=some ((ACust.mk c.acc.meter c.acc.rev c.acc.next c.acc.month c.acc.bought c.acc.free da c.debts.length dc sa c.sold.length sc).cells.getD i undef)) (by kernel_rfl) ?_;refine AnyC.tk 0 ?_ HSS ?_ ?_;rotate_left
              · (intro W hSw;have hf:=HF W hSw;clear hSw;first | (go_simp;done) | (go_simp;with_reducible rfl))
              (try simp only [Act.put]);(try simp only [List.setIfInBounds_toArray]);refine AnyC.tk 1 ?_ HSS ?_ ?_;rotate_left
              · (intro W hSw;have hf:=HF W hSw;clear hSw;first | (go_simp;done) | (go_simp;with_reducible rfl))
              (try simp only [Act.put]);refine AnyC.tk 2 ?_ HSS ?_ ?_;rotate_left
              · (intro W hSw;have hf:=HF W hSw;clear hSw;first | (go_simp;done) | (go_simp;with_reducible rfl))
              (try simp only [Act.put]);refine AnyC.tk 3 ?_ HSS ?_ ?_;rotate_left
              · (intro W hSw;have hf:=HF W hSw;clear hSw;first | (go_simp;done) | (go_simp;with_reducible rfl))
              (try simp only [Act.put]);refine AnyC.tk 4 ?_ HSS ?_ ?_;rotate_left
              · (intro W hSw;have hf:=HF W hSw;clear hSw;first | (go_simp;done) | (go_simp;with_reducible rfl))
              (try simp only [Act.put]);refine AnyC.tk 5 ?_ HSS ?_ ?_;rotate_left
              · (intro W hSw;have hf:=HF W hSw;clear hSw;first | (go_simp;done) | (go_simp;with_reducible rfl))
              (try simp only [Act.put]);refine AnyC.tk 6 ?_ HSS ?_ ?_;rotate_left
              · (intro W hSw;have hf:=HF W hSw;clear hSw;first | (go_simp;done) | (go_simp;with_reducible rfl))
              (try simp only [Act.put]);have kA:Below w3.heap.size w3 w3.drew:=Below.drew (Below.refl _ _);refine AnyC.two (i:=7) (j:=11) (by kernel_rfl) (by rfl) (by rfl) (fun K hK=>?_) (fun K hK=>?_)
              · go_simp
                (with_reducible refine (HH.out _ ?_ ?_ ?_ ?_).mono ?_)
                · exact HSd.out
                · exact HTs.out
                · exact HSo.out
                · show gb+1≤w3.heap.size
                  omega
                rintro e w4 ⟨y,he,hg,hgr⟩;have he:e=.returned (T2 (custV y.meter y.rev y.next y.month y.bought y.free (.slice y.da y.dn y.dc) (.slice y.sa y.sn y.sc)) (I F)):=he;subst he
                go_wp2_with fail
                refine hK.out _ _ (fun h=>absurd rfl h) ?_;clear hK K HSS;(try simp only [Act.put]);refine AnyC.pu 8 ?_ ?_ ?_;rotate_left
                · (intro w;first | (go_simp;done) | (go_simp;with_reducible rfl))
                (try simp only [Act.put]);refine AnyC.pu 9 ?_ ?_ ?_;rotate_left
                · (intro w;first | (go_simp;done) | (go_simp;with_reducible rfl))
                (try simp only [Act.put]);refine AnyC.pu 10 ?_ ?_ ?_;rotate_left
                · (intro w;first | (go_simp;done) | (go_simp;with_reducible rfl))
                (try simp only [Act.put]);refine AnyC.one (i:=11) (by kernel_rfl) (by rfl) (fun K hK=>?_);go_simp;refine hK.out _ _ (fun _ h=>absurd h (by decide)) ?_;clear hK K;(try simp only [Act.put]);refine AnyC.one (i:=12) (by kernel_rfl) (by rfl) (fun K hK=>?_);go_simp;refine hK.out _ _ (fun _ h=>absurd h (by decide)) ?_;clear hK K;(try simp only [Act.put]);refine AnyC.one (i:=13) (by kernel_rfl) (by rfl) (fun K hK=>?_);go_simp;refine hK.out _ _ (fun _ h=>absurd h (by decide)) ?_;clear hK K;(try simp only [Act.put]);refine AnyC.done (by kernel_rfl) ?_ _
                go_wp2_with fail
                go_meet;have hz4:w3.heap.size≤w4.heap.size:=hgr.size;exact ⟨_,y,rfl,rfl,Own.new rfl [I y.meter,I y.rev,I y.next,I y.month,I y.bought,I y.free,.slice y.da y.dn y.dc,.slice y.sa y.sn y.sc] _,fun hF=>((hg hF).pre kA).post (boxed_below w4 _),grown_post (grown_pre hgr kA) (boxed_below w4 _),hz4⟩
              · go_simp
                have kP:Below w3.heap.size w3 (World.drew (w3.alloc (.cells #[I 0,I 0,I 0,I 0,I 0,I 0,.slice none 0 0,.slice none 0 0] 67))):=(boxed_below w3 _).drew;have oP:Own (World.drew (w3.alloc (.cells #[I 0,I 0,I 0,I 0,I 0,I 0,.slice none 0 0,.slice none 0 0] 67))) w3.heap.size [I 0,I 0,I 0,I 0,I 0,I 0,.slice none 0 0,.slice none 0 0]:=Own.new rfl _ _;refine hK.out _ _ (fun _ _=>⟨HOT.out.below kP,HOB.out.below kP,HOV.out.below kP,fun i hi=>(kP.cell (p:=⟨g,j*8+i,none⟩) hg2).trans (HCELL.out i hi).1⟩) ?_;clear hK K HSS;(try simp only [Act.put]);refine AnyC.one (i:=7) (by kernel_rfl) (by rfl) (fun K hK=>?_);go_simp;(with_reducible refine (HH.out _ ?_ ?_ ?_ ?_).mono ?_)
                · exact HSd.out.below kP
                · exact HTs.out.below kP
                · exact owns_below HSo.out kP
                · exact Nat.le_trans (show gb+1≤w3.heap.size by omega) kP.size
                rintro e w4 ⟨y,he,hg,hgr⟩;have he:e=.returned (T2 (custV y.meter y.rev y.next y.month y.bought y.free (.slice y.da y.dn y.dc) (.slice y.sa y.sn y.sc)) (I F)):=he;subst he;have hso2:∀ z,(Value.slice sa c.sold.length sc).ownBlock=some z→gb+1≤z∧z < w3.heap.size:=fun z hz=>HSo.out.lt z hz;have oY:=oP.grown hgr (fun e=>by have:=(hso2 _ e.symm).2;omega);have hzP:w3.heap.size+1≤w4.heap.size:=by have:=hgr.size;simp at this;omega
                have OY:=Lib.hid oY;have nO:=oY;have nA:=nO.s8;clear nO;clear oY oP;have r1:=set_same;have r2:=set_off;have r3:=set_blk
                go_wp2_with fail
                refine hK.out _ _ (fun h=>absurd rfl h) ?_;clear hK K;(try simp only [Act.put]);refine AnyC.pu 8 ?_ ?_ ?_;rotate_left
                · (intro w;first | (go_simp;done) | (go_simp;with_reducible rfl))
                (try simp only [Act.put]);refine AnyC.pu 9 ?_ ?_ ?_;rotate_left
                · (intro w;first | (go_simp;done) | (go_simp;with_reducible rfl))
                (try simp only [Act.put]);refine AnyC.pu 10 ?_ ?_ ?_;rotate_left
                · (intro w;first | (go_simp;done) | (go_simp;with_reducible rfl))
                (try simp only [Act.put]);refine AnyC.one (i:=12) (by kernel_rfl) (by rfl) (fun K hK=>?_);go_simp;refine hK.out _ _ (fun _ h=>absurd h (by decide)) ?_;clear hK K;(try simp only [Act.put]);refine AnyC.one (i:=13) (by kernel_rfl) (by rfl) (fun K hK=>?_);go_simp;refine hK.out _ _ (fun _ h=>absurd h (by decide)) ?_;clear hK K;(try simp only [Act.put]);refine AnyC.done (by kernel_rfl) ?_ _
                go_wp2_with fail
                go_meet;refine ⟨_,y,rfl,rfl,((((((((OY.out.set 0 (I y.meter)).set 1 (I y.rev)).set 2 (I y.next)).set 3 (I y.month)).set 4 (I y.bought)).set 5 (I y.free)).set 6 (.slice y.da y.dn y.dc)).set 7 (.slice y.sa y.sn y.sc)),fun hF=>?_,?_,Nat.le_refl _⟩
                · have h1:=(hg hF).pre kP
                  have hd:dBlk y≠some w3.heap.size:=fun e=>by have:=((hg hF).2.1 _ e).1;simp at this;omega
                  have hs:sBlk y≠some w3.heap.size:=fun e=>by
                    rcases (hg hF).2.2.1 _ e with h | h
                    · have:=(hso2 _ h).2;omega
                    · simp at h;omega
                  exact (((((((h1.store (Nat.le_refl _) hd hs).store (Nat.le_refl _) hd hs).store (Nat.le_refl _) hd hs).store (Nat.le_refl _) hd hs).store (Nat.le_refl _) hd hs).store (Nat.le_refl _) hd hs).store (Nat.le_refl _) hd hs).store (Nat.le_refl _) hd hs
                · have h1:=grown_pre hgr kP
                  exact grown_store (grown_store (grown_store (grown_store (grown_store (grown_store (grown_store (grown_store h1 (Nat.le_refl _) _ _) (Nat.le_refl _) _ _) (Nat.le_refl _) _ _) (Nat.le_refl _) _ _) (Nat.le_refl _) _ _) (Nat.le_refl _) _ _) (Nat.le_refl _) _ _) (Nat.le_refl _) _ _
            case rest =>
              obtain ⟨gy,y,rfl,rfl,oY,hG⟩:=hcut;clear tA bA qA y0 y1 y2 y3 y4 y5 y6 y7 ra HH;have hgr:=hG.out.2.1;have hgy:=hG.out.2.2;have hso2:∀ z,(Value.slice sa c.sold.length sc).ownBlock=some z→gb+1≤z∧z < w3.heap.size:=fun z hz=>HSo.out.lt z hz;have oZ4:=HOZ.out.grown hgr (fun e=>by have:=(hso2 _ e.symm).1;omega);have oB4:=HOB.out.grown hgr (fun e=>by have:=(hso2 _ e.symm).1;omega);have oT4:=HOT.out.grown hgr (fun e=>by have:=(hso2 _ e.symm).1;omega);have kw4:=below_grown KW3.out hgr (fun z hz=>by have:=(hso2 _ hz).1;omega);have hsz4:w3.heap.size≤wc.heap.size:=hgr.size;have r1:=set_same;have r2:=set_off;have r3:=set_blk
              by_cases hF:F=0
              · subst hF
                have hg0:=hG.out.1 rfl;have hjx:j < xs.length:=by rw [HB3.out.1];exact hjl
                have hsog:(Value.slice sa c.sold.length sc).ownBlock≠some g:=fun e=>by
                  have h1:=HSB.out;have h2:=((HB3.out.2.2.2 j hjx g).2 (by rw [HXe.out,← h1];exact e)).1;exact h2 rfl
                have hrow:=row_cells ((Own.of_owns HB3.out.2.1).grown hgr (fun e=>hsog e.symm)) hjx;rw [HXe.out] at hrow
                have hN:Hid (BRel w gb t tv l (k+1) ((((((((wc.setCell ⟨g,j*8,none⟩ (I y.meter)).setCell ⟨g,j*8+1,none⟩ (I y.rev)).setCell ⟨g,j*8+2,none⟩ (I y.next)).setCell ⟨g,j*8+3,none⟩ (I y.month)).setCell ⟨g,j*8+4,none⟩ (I y.bought)).setCell ⟨g,j*8+5,none⟩ (I y.free)).setCell ⟨g,j*8+6,none⟩ (.slice y.da y.dn y.dc)).setCell ⟨g,j*8+7,none⟩ (.slice y.sa y.sn y.sc))):=by
                  have hb:=book_put HB3.out (by omega) hjl (show (Value.slice sa c.sold.length sc).ownBlock=sBlk (xs.getD j default) by rw [HXe.out,← HSB.out]) hg0;have hlen:=HC1.out;refine ⟨cs.set j c',xs.set j y,_,by rw [List.length_set];omega,fun c2 hc2=>?_,?_,?_,?_,hb,?_,HRG.out rfl⟩
                  · rcases List.mem_or_eq_of_mem_set hc2 with h | h
                    · exact Nat.le_succ_of_le (HC2.out c2 h)
                    · rw [h]
                      have h1:=HS1.out;have h2:=HS0.out;omega
                  · exact (((((((oT4.other (by simp;omega) _).other (by simp;omega) _).other (by simp;omega) _).other (by simp;omega) _).other (by simp;omega) _).other (by simp;omega) _).other (by simp;omega) _).other (by simp;omega) _
                  · exact (((((((oZ4.other (by simp;omega) _).other (by simp;omega) _).other (by simp;omega) _).other (by simp;omega) _).other (by simp;omega) _).other (by simp;omega) _).other (by simp;omega) _).other (by simp;omega) _
                  · exact (((((((oB4.other (by simp;omega) _).other (by simp;omega) _).other (by simp;omega) _).other (by simp;omega) _).other (by simp;omega) _).other (by simp;omega) _).other (by simp;omega) _).other (by simp;omega) _
                  · exact (((((((kw4.setCell (by simp;omega) _).setCell (by simp;omega) _).setCell (by simp;omega) _).setCell (by simp;omega) _).setCell (by simp;omega) _).setCell (by simp;omega) _).setCell (by simp;omega) _).setCell (by simp;omega) _
                have d0:=hrow 0 (by decide);have d1:=hrow 1 (by decide);have d2:=hrow 2 (by decide);have d3:=hrow 3 (by decide);have d4:=hrow 4 (by decide);have d5:=hrow 5 (by decide);have d6:=hrow 6 (by decide);have d7:=hrow 7 (by decide);simp only [ACust.cells,List.getD_cons_zero,List.getD_cons_succ,Nat.add_zero] at d0 d1 d2 d3 d4 d5 d6 d7;obtain ⟨d0,f0⟩:=d0;obtain ⟨d1,f1⟩:=d1;obtain ⟨d2,f2⟩:=d2;obtain ⟨d3,f3⟩:=d3;obtain ⟨d4,f4⟩:=d4;obtain ⟨d5,f5⟩:=d5;obtain ⟨d6,f6⟩:=d6;obtain ⟨d7,f7⟩:=d7;have nO:=oY;have nA:=nO.s8;clear nO;have bO:=oB4;have bA:=bO.s1;clear bO;clear hrow oY oB4 oT4 oZ4 hg0 hgr hG hso2 hsog kw4;go_wp2;exact ⟨⟨k+1,by omega,by go_num,hN⟩,by simp [intOf];omega⟩
              · have hR:=Lib.hid (HRF.out hF)
                have hF':(F != 0)=true:=by simp [hF]
                clear hF;have zO:=oZ4;have zA:=zO.s1;clear zO;clear oY oB4 oT4 oZ4 hgr hG hso2;go_wp2;exact bodyPost_ret (v:=T3 (.agg #[.slice none 0 0]) (I (k:Nat)) (I F)) (by simp [results,Tryz.results46,go_sem, *];try omega) rfl (BookP.bad hR.out below_autor)
          · have hR:=Lib.hid (show bookR t l=(18,k,[]) by
              have h5:evE t cs ⟨ki,me,mo,⟨id,te,de,fe,pr,ch,un⟩,ta,⟨ow,bp⟩⟩=18:=evE_none Hm.out hk1 ha;rw [← HRun.out,runB_bad (by rw [h5];decide),h5])
            clear HRun hm hk1;have kv:=boxed_below wr (.cells #[I ki,I me,I mo,I id,I te,I de,I fe,I pr,I ch,I un,I ta,I ow,I bp] 48);have oV:=Own.new (w:=wr) rfl [I ki,I me,I mo,I id,I te,I de,I fe,I pr,I ch,I un,I ta,I ow,I bp] 48
            go_wp2_with fail
            refine (M.out _).mono ?_;rintro e w2 ⟨rfl,k2⟩;have kvv:=kv.trans (k2.mono kv.size);have oZ2:=oZ.below kvv;have kw2:=kw.trans (kvv.mono kw.size);have hsz2:wr.heap.size+1≤w2.heap.size:=by have:=k2.size;simp at this;omega
            have oB2:=oB.below kvv;have oT2:=oT.below kvv;have oV2:=oV.below k2;have hB2:=hB.below kvv;have Fd:=Lib.hid (fun W hW=>Found_any v xs me W hW);rw [book_found hB] at Fd;clear M k2 kv kvv oV oB oT oZ hB hx0 hx1 hx2 hx3 hx4 hx5 hx6 hx7 hx8 hx9 hx10 hx11 hx12;have HSl:=Lib.hid (hB2.sl (by have:=HC1.out;omega));have OB2:=Lib.hid oB2;have bO:=oB2;have bA:=bO.s1;clear bO;have qO:=oV2;have qA:=qO.s13;clear qO;clear oB2
            go_wp2_with fail
            refine (Fd.out _ HSl.out).mono ?_;rintro e w3 ⟨rfl,k3⟩;have oZ3:=oZ2.below k3;have oB3:=OB2.out.below k3;have oT3:=oT2.below k3;have oV3:=oV2.below k3;have hB3:=hB2.below k3;have kw3:=kw2.trans (k3.mono kw2.size);have hsz3:wr.heap.size+1≤w3.heap.size:=by have:=k3.size;omega
            clear k3 Fd oZ2 oT2 hB2 kw2 HSl OB2 bA qA oV2;generalize idxOf cs me=at_ at *;clear hB3 oT3 oB3;have zO:=oZ3;have zA:=zO.s1;clear zO;have qO:=oV3;have qA:=qO.s13;clear qO;clear oZ3 oV3;go_wp2;exact bodyPost_ret (v:=T3 (.agg #[.slice none 0 0]) (I (k:Nat)) (I 18)) (by simp [results,Tryz.results46,go_sem, *];try omega) rfl (BookP.bad hR.out below_autor)
    · obtain rfl:k=l.length:=by omega
      have hR:Hid (bookR t l=(0,0,cs)):=by
        unfold Hid;rw [← hrun,List.drop_length]
        rfl
      obtain ⟨va,vc,rfl⟩:=book_slice hB;have HB:=Lib.hid hB;have hgb:=oB.lt;clear hB hrun c1 c2 hlr;have r1:=set_same;have r2:=set_off;have r3:=set_blk;have zO:=oZ;have zA:=zO.s1;clear zO;have bO:=oB;have bA:=bO.s1;clear bO;clear oZ oB oT;go_wp2;exact bodyPost_ret (v:=T3 (.agg #[.slice va cs.length vc]) (I 0) (I 0)) (by simp [results,Tryz.results46,go_sem, *];try omega) rfl (BookP.good hR.out (HB.out.low (z:=w.heap.size+1) (by omega) 0 (.slice va cs.length vc)) (by omega) below_autor)
theorem BookOf_any (t:PTerms) (tv lv:Value) (l:List AEvent) (w:World) (tS:Sl w tv 2 t.ts.length (t.ts.flatMap AStep.cells)) (lS:Sl w lv 13 l.length (l.flatMap AEvent.cells)):
    Calls Tryz.prog 46 #[t.v tv,lv] w (BookP t l w):=by
  obtain ⟨ts,f,b,d,al⟩:=t;have F:=Lib.hid (fun W (hW:Sl W tv 2 ts.length (ts.flatMap AStep.cells))=>TermsFault_any tv ts f b d al W hW);obtain ⟨la,lcap,rfl,hn,hl,h0,hlr⟩:=lS
  by_cases hE:termsE ts f b d al=0
  · rw [hE] at F
    by_cases h120:120 < l.length
    · have hR:=Lib.hid (bookR_size (t:=⟨ts,f,b,d,al⟩) (l:=l) hE h120)
      obtain ⟨kB,oT,oZ⟩:=boxes2 w [tv,I f,I b,I d,I al] 24 [.slice none 0 0] 76;have h120i:(120:Int) < (l.length:Int):=by omega
      go_enter Tryz.func46,Tryz.ntmps46
      go_wp2_with fail
      refine (F.out _ (tS.below kB)).mono ?_;rintro e w1 ⟨rfl,k1⟩;have kw:=kB.trans (k1.mono kB.size);have r1:=set_same;have zO:=oZ.below k1;have zA:=zO.s1;clear zO;clear oT oZ kB k1 hlr h0 hl hn hE h120 tS;go_wp2;exact bodyPost_ret (v:=T3 (.agg #[.slice none 0 0]) (I ((0:Nat):Int)) (I 1)) (by simp [results,Tryz.results46,go_sem, *];try omega) rfl (BookP.bad hR.out below_autor)
    · exact BookOf_loop ⟨ts,f,b,d,al⟩ tv l la lcap w w (by omega) tS hlr hE F
  · have hR:=Lib.hid (bookR_terms (t:=⟨ts,f,b,d,al⟩) (l:=l) hE)
    obtain ⟨kB,oT,oZ⟩:=boxes2 w [tv,I f,I b,I d,I al] 24 [.slice none 0 0] 76;simp only [PTerms.E] at hR;generalize termsE ts f b d al=E at *;have hE':(E != 0)=true:=by simp [hE]
    go_enter Tryz.func46,Tryz.ntmps46
    go_wp2_with fail
    refine (F.out _ (tS.below kB)).mono ?_;rintro e w1 ⟨rfl,k1⟩;have kw:=kB.trans (k1.mono kB.size);have r1:=set_same;have zO:=oZ.below k1;have zA:=zO.s1;clear zO;clear oT oZ kB k1 hlr h0 hl hn hE tS;go_wp2;exact bodyPost_ret (v:=T3 (.agg #[.slice none 0 0]) (I ((0:Nat):Int)) (I E)) (by simp [results,Tryz.results46,go_sem, *];try omega) rfl (BookP.bad hR.out below_autor)
end Go.Proofs.YtdjgcenjonegjaaGreat
