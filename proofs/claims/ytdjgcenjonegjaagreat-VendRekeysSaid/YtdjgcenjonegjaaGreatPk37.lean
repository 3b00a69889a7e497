/- vend.Load, ref.Loaded · disk.Append and its reference · ref.Appended -/
import Derived.Test.YtdjgcenjonegjaaGreatPk34
import Derived.Test.YtdjgcenjonegjaaGreatBookOfR
import Derived.Test.YtdjgcenjonegjaaGreatPk23
import Derived.Test.YtdjgcenjonegjaaGreatPk05
set_option maxRecDepth 20000
set_option maxHeartbeats 8000000
set_option linter.unusedSimpArgs false
set_option linter.unusedVariables false
namespace Go.Proofs.YtdjgcenjonegjaaGreat
section
open Go Go.RowKit
theorem Loaded_any (t:PTerms) (tv cv:Value) (xs:List Int) (w:World) (ht:Sl w tv 2 t.ts.length (t.ts.flatMap AStep.cells)) (hc:Sl w cv 1 xs.length (xs.map U32)) (hw:∀ x∈xs,W32 x):
    Calls Tryz.prog 23 #[.agg #[tv,I t.f,I t.b,I t.d,I t.al],cv] w (LoadP t xs w):=by
  obtain ⟨kB,oT,oZ⟩:=boxes2 w [tv,I t.f,I t.b,I t.d,I t.al] 24 [.slice none 0 0] 76;have K:=Lib.hid (Kept_any cv xs _ (hc.below kB) hw);have OF:=Lib.hid (fun lv W h1 h2=>BookOf_any t tv lv (keptL xs) W h1 h2);have HT:=Lib.hid ht;have KB:=Lib.hid kB;have OT:=Lib.hid oT;have OZ:=Lib.hid oZ;obtain ⟨a,cap,rfl,-⟩:=hc;clear hw ht kB oT oZ;go_enter Tryz.func23,Tryz.ntmps23
  go_wp2_with fail
  refine K.out.mono ?_;rintro e w1 ⟨lv,rfl,hl,k1⟩;have oZ1:=OZ.out.below k1;have oT1:=OT.out.below k1;have kk:=KB.out.trans (k1.mono KB.out.size);have hsz:=kk.size
  by_cases h0:keptE xs=0
  · have P:=Lib.hid (OF.out lv w1 (HT.out.below kk) hl)
    have H0:=Lib.hid h0;rw [h0];have OZ1:=Lib.hid oZ1;have KK:=Lib.hid kk;obtain ⟨la,lc,rfl,-⟩:=id hl;have tO:=oT1;have tA:=tO.s5;clear tO;clear hl k1 h0 OF K OT OZ oT1 oZ1 kk
    go_wp2_with fail
    refine P.out.mono ?_;rintro e w5 ⟨bv,ys,rfl,hb5,k5⟩;have kk5:=KK.out.trans (k5.mono KK.out.size);have oZ5:=OZ1.out.below k5;have kA:=boxed_below w5 (.cells #[bv] 76);have oA:=Own.new (w:=w5) rfl [bv] 76;have oZ6:=oZ5.below kA;have hb6:=hb5.below kA;have kk6:=kk5.trans (kA.mono kk5.size);have n6:¬ w.heap.size+1=w5.heap.size:=by have:=oZ5.lt;omega
    have n7:¬ w5.heap.size=w.heap.size+1:=by omega
    have hlt:w.heap.size+1 < w1.heap.size:=OZ1.out.lt;obtain ⟨ba,bc,rfl⟩:=book_slice hb6;have hB2:=Lib.hid (hb6.low (z:=w.heap.size+1) hlt 0 (.slice ba (bookR t (keptL xs)).2.2.length bc));have kk7:=kk6.setCell (p:=⟨w.heap.size+1,0,none⟩) (by simp) (.slice ba (bookR t (keptL xs)).2.2.length bc);have r1:=set_same;have r2:=set_off;have r3:=set_blk;have zO:=oZ6;have zA:=zO.s1;clear zO;have bO:=oA;have bA:=bO.s1;clear bO;have HC:=Lib.hid (show (bookR t (keptL xs)).2.2=(bookR t (keptL xs)).2.2 from rfl);generalize hE:(bookR t (keptL xs)).1=E at *;have HE:=Lib.hid hE;generalize (bookR t (keptL xs)).2.1=pl at *;generalize hcs:(bookR t (keptL xs)).2.2=cs at *;have HCS:=Lib.hid hcs;clear tA k5 P hb5 oZ5 oZ6 oA kA kk5 kk6 hb6 hE hcs HC;go_wp2;exact bodyPost_ret (v:=T2 (.agg #[.slice ba cs.length bc]) (I E)) (by simp [results,Tryz.results23,go_sem, *];try omega) rfl (LoadP.good H0.out HE.out HCS.out hB2.out hsz kk7)
  · have hb:(keptE xs != 0)=true:=by simp [h0]
    have H0:=Lib.hid h0;have r1:=set_same;have zO:=oZ1;have zA:=zO.s1;clear zO;clear hl k1 h0 OF K OT OZ oT1 oZ1;generalize hE:keptE xs=E at *;have HE:=Lib.hid hE;clear hE;go_wp2;exact bodyPost_ret (v:=T2 (.agg #[.slice none 0 0]) (I E)) (by simp [results,Tryz.results23,go_sem, *];try omega) rfl (LoadP.bad HE.out H0.out below_autor)
end
section
open Go.RowKit
theorem infoWriteD:(Tryz.prog.info? 98).map (fun i=>(i.zero,i.size,i.bytes))=some (some (.agg #[.int .i64 0,.int .u32 0]),2,16):=by kernel_rfl
def putD (a:Int) (rec:List Int) (k:Nat):List AWrite:=(List.range k).map fun (i:Nat)=>⟨a+1+i,rec.getD i 0⟩
theorem putD_len (a:Int) (rec:List Int) (k:Nat):(putD a rec k).length=k:=by simp [putD]
theorem putD_succ (a:Int) (rec:List Int) (k:Nat):putD a rec (k+1)=putD a rec k++[⟨a+1+k,rec.getD k 0⟩]:=by simp [putD,List.range_succ]
def appE (xs rec:List Int):Int:=if inB rec.length 1 64 then (if tapeE xs=0 then (if (xs.length:Int) < tapeA xs+1+rec.length then 16 else 0) else tapeE xs) else 1
def appL (xs rec:List Int):List AWrite:=
  if appE xs rec=0 then putD (tapeA xs) rec rec.length++(if tapeA xs+1+rec.length < xs.length then [⟨tapeA xs+1+rec.length,0⟩] else [])++[⟨tapeA xs,rec.length⟩] else []
def OutD (w:World) (L:List AWrite) (v:Value) (wr:World):Prop:=wr.ownsRow w.heap.size 98 2 v L.length (L.flatMap AWrite.cells)∧Below w.heap.size w wr
theorem OutD.push {w wr:World} {L:List AWrite} {v:Value} (x:AWrite) (h:wr.ownsRow w.heap.size 98 2 v (L.length+1) (L.flatMap AWrite.cells++[I x.at_,U32 x.word])) (hb:Below w.heap.size w wr):OutD w (L++[x]) v wr:=
  ⟨by rw [List.length_append,List.flatMap_append];exact h,hb⟩
theorem tapeA_bd {xs:List Int} (hw:∀ x∈xs,W32 x):0≤tapeA xs∧tapeA xs≤xs.length:=by
  have:=runT_le hw (xs.length+1) 0 (Nat.zero_le _);unfold tapeA tapeR
  split<;>omega

theorem AppendD_any (v : Value) (xs : List Int) (v2 : Value) (rec : List Int) (w : World) (h : Sl w v 1 xs.length (xs.map U32)) (hw : ∀ x ∈ xs, W32 x) (h2 : Sl w v2 1 rec.length (rec.map U32)) :
    Calls Tryz.prog 108 #[v,v2] w (GrewSl2 2 (appL xs rec).length ((appL xs rec).flatMap AWrite.cells) (appE xs rec) w):=by
  obtain ⟨i0,hi,hz0,hz1,hz2⟩:=info_parts infoWriteD;have T:=Lib.hid (walk0_any v xs w h hw);obtain ⟨t0,t1⟩:=tapeA_bd hw;have hS:=h;obtain ⟨a,cap,rfl,hn,hl,h0,hr⟩:=h;obtain ⟨a2,cap2,rfl,hn2,hl2,h02,hr2⟩:=h2;clear hl h0 hl2 h02 hr;have HE:=Lib.hid (show appE xs rec=if inB rec.length 1 64 then (if tapeE xs=0 then (if (xs.length:Int) < tapeA xs+1+rec.length then 16 else 0) else tapeE xs) else 1 from rfl);have HL:=Lib.hid (show appL xs rec=if appE xs rec=0 then putD (tapeA xs) rec rec.length++(if tapeA xs+1+rec.length < xs.length then [⟨tapeA xs+1+rec.length,0⟩] else [])++[⟨tapeA xs,rec.length⟩] else [] from rfl);generalize appE xs rec=RE at *;generalize appL xs rec=RL at *;cases hi1:inB rec.length 1 64
  · have e1:RE=1:=by rw [HE.out,hi1];rfl
    have e2:RL=[]:=by rw [HL.out,e1];rfl
    have hcase:(rec.length:Int) < 1∨(1≤(rec.length:Int)∧64 < (rec.length:Int)):=by rw [← Bool.not_eq_true,inB_true] at hi1;omega
    rw [e1,e2];clear e1 e2 HE HL hr2 hi1 hw;rcases hcase with c1 | ⟨c1,c2⟩
    all_goals
      go_enter Tryz.func108,Tryz.ntmps108;go_wp2;go_ret2;exact ⟨_,rfl,Sl.nil _ _,Below.refl _ _⟩
  · obtain ⟨m0, m1⟩ := inB_true.1 hi1
    have c1:¬ (rec.length:Int) < 1:=by omega
    have c2:¬ 64 < (rec.length:Int):=by omega
    rw [hi1] at HE;clear hi1
    by_cases hE:tapeE xs=0
    · rw [hE] at T HE
      by_cases hfull:(xs.length:Int) < tapeA xs+1+rec.length
      · have e1:RE=16:=by rw [HE.out];simp [hfull]
        have e2:RL=[]:=by rw [HL.out,e1];rfl
        rw [e1,e2];clear e1 e2 HE HL hr2 hw hE;generalize tapeA xs=A at *;go_enter Tryz.func108,Tryz.ntmps108
        go_wp2_with (go_at_call 71;refine (T.out).mono ?_;rintro e w' ⟨rfl,rfl⟩)
        go_ret2;exact ⟨_,rfl,Sl.nil _ _,Below.refl _ _⟩
      · have e1 : RE = 0 := by rw [HE.out]; simp [hfull]
        rw [e1,if_pos rfl] at HL;rw [e1];clear e1 HE hw hE;generalize tapeA xs=A at *;go_enter Tryz.func108,Tryz.ntmps108
        go_wp2_with (go_at_call 71;refine (T.out).mono ?_;rintro e w' ⟨rfl,rfl⟩)
        go_loopw [9,39] (fun v i wr=>∃ k:Nat,k≤rec.length∧i=I k∧Hid (OutD w (putD A rec k) v wr)) (fun _ i _=>rec.length-(intOf i).toNat)
        case atStart=>exact ⟨0,Nat.zero_le _,rfl,World.ownsRow_nil _ _ _ _,Below.refl _ _⟩
        case round=>
          obtain ⟨k,hk,rfl,hD⟩:=hrel;obtain ⟨hown,hbw⟩:=hD.out;have hsz:=hbw.size;rw [putD_len] at hown
          by_cases hlt:k < rec.length
          · obtain ⟨b2,o2,rfl,hb2,hc2⟩:=hr2.resolve_left (by omega)
            have e1:=(hbw.cell (p:=⟨b2,o2+k,none⟩) hb2).trans (hc2 k (by simpa using hlt));rw [getD_map' _ _ hlt] at e1;have hps:=Lib.hid (putD_succ A rec k);have hpl:=putD_len A rec k;have hi0:(0:Int)≤(k:Int):=by omega
            have hi1:(k:Int) < (rec.length:Int):=by omega
            clear hc2 hr2;generalize rec.getD k 0=x at *
            go_wp2_with (at_builtin;refine wpList_append_own _ rfl _ _ 37 rfl w.heap.size 98 i0 (.agg #[.int .i64 0,.int .u32 0]) 2 16 Tryz.underlying37 hi hz0 hz1 hz2 rfl (by decide) _ _ _ rfl (hown.alloc _) ⟨wr.heap.size,0,none⟩ 1 1 [I (A+1+k),U32 x] rfl rfl (news_lit _ [I (A+1+k),U32 x] _) (oneCells_lit rfl) (by unfold maxLen;omega) (by omega) (by simp;omega) ?_;intro v' w1 hown' hgrow _)
            have hbel:=grown_below (hbw.alloc hsz _) (hown.alloc _) (Nat.le_refl _) hgrow
            have hD':Hid (OutD w (putD A rec (k+1)) v' w1):=by
              have:=OutD.push (L:=putD A rec k) ⟨A+1+k,x⟩ (by rw [hpl];exact hown') hbel;rw [hps.out];exact this
            clear hown hown' hgrow hbel hbw hD;go_wp2;exact ⟨⟨k+1,by omega,by go_num,hD'⟩,by simp [intOf];omega⟩
          · have hkm:k=rec.length:=by omega
            have hge:(rec.length:Int)≤(k:Int):=by omega
            rw [hkm] at hown;clear hD hkm hr2
            by_cases hmid:A+1+rec.length < xs.length
            · rw [if_pos hmid] at HL
              go_wp2_with (first
                | ((at_builtin;refine wpList_append_own _ rfl _ _ 37 rfl w.heap.size 98 i0 (.agg #[.int .i64 0,.int .u32 0]) 2 16 Tryz.underlying37 hi hz0 hz1 hz2 rfl (by decide) _ _ _ rfl (hown.alloc _) ⟨wr.heap.size,0,none⟩ 1 1 [I (A+1+rec.length),U32 0] rfl rfl (news_lit _ [I (A+1+rec.length),U32 0] _) (oneCells_lit rfl) (by unfold maxLen;omega) (by omega) (by simp;omega) ?_;intro v' w1 hown' hgrow _);have hb1:=grown_below (hbw.alloc hsz _) (hown.alloc _) (Nat.le_refl _) hgrow;have hsz1:=hb1.size;have hown1:=hown';generalize w1=wA at *;generalize v'=vA at *;clear hown' hgrow)
                | (at_builtin;refine wpList_append_own _ rfl _ _ 37 rfl w.heap.size 98 i0 (.agg #[.int .i64 0,.int .u32 0]) 2 16 Tryz.underlying37 hi hz0 hz1 hz2 rfl (by decide) _ _ _ rfl (hown1.alloc _) ⟨wA.heap.size,0,none⟩ 1 1 [I A,U32 rec.length] rfl rfl (news_lit _ [I A,U32 rec.length] _) (oneCells_lit rfl) (by unfold maxLen;omega) (by omega) (by simp;omega) ?_;intro v' w1 hown' hgrow _))
              clear hown hbw;have hb2:=grown_below (hb1.alloc hsz1 _) (hown1.alloc _) (Nat.le_refl _) hgrow;have hS3:=Sl.of_owns' (n:=RL.length) hown' (by rw [HL.out];simp [putD_len]) (by rw [HL.out];simp [putD_len];omega)
              have hS4:Sl w1 v' 2 RL.length (RL.flatMap AWrite.cells):=by
                have e:RL.flatMap AWrite.cells=(putD A rec rec.length).flatMap AWrite.cells++[I (A+1+rec.length),U32 0]++[I A,U32 rec.length]:=by
                  rw [HL.out,List.flatMap_append,List.flatMap_append];simp [AWrite.cells]
                rw [e];exact hS3
              clear hown1 hown' hgrow hS3 hb1;go_wp2;go_ret2;exact ⟨_,rfl,hS4,hb2⟩
            · rw [if_neg hmid, List.append_nil] at HL
              go_wp2_with (at_builtin;refine wpList_append_own _ rfl _ _ 37 rfl w.heap.size 98 i0 (.agg #[.int .i64 0,.int .u32 0]) 2 16 Tryz.underlying37 hi hz0 hz1 hz2 rfl (by decide) _ _ _ rfl (hown.alloc _) ⟨wr.heap.size,0,none⟩ 1 1 [I A,U32 rec.length] rfl rfl (news_lit _ [I A,U32 rec.length] _) (oneCells_lit rfl) (by unfold maxLen;omega) (by omega) (by simp;omega) ?_;intro v' w1 hown' hgrow _)
              have hb2:=grown_below (hbw.alloc hsz _) (hown.alloc _) (Nat.le_refl _) hgrow;have hS3:=Sl.of_owns' (n:=RL.length) hown' (by rw [HL.out];simp [putD_len]) (by rw [HL.out];simp [putD_len];omega)
              have hS4:Sl w1 v' 2 RL.length (RL.flatMap AWrite.cells):=by
                have e:RL.flatMap AWrite.cells=(putD A rec rec.length).flatMap AWrite.cells++[I A,U32 rec.length]:=by
                  rw [HL.out,List.flatMap_append];simp [AWrite.cells]
                rw [e];exact hS3
              clear hown hown' hgrow hS3 hbw;go_wp2;go_ret2;exact ⟨_,rfl,hS4,hb2⟩
    · have e1:RE=tapeE xs:=by rw [HE.out];simp [hE]
      have e2:RL=[]:=by rw [HL.out,e1,if_neg hE]
      have hb2:(tapeE xs != 0)=true:=by simp [hE]
      rw [e1,e2];clear e1 e2 HE HL hr2 hw hE;generalize tapeE xs=E at *;generalize tapeA xs=A at *;go_enter Tryz.func108,Tryz.ntmps108
      go_wp2_with (go_at_call 71;refine (T.out).mono ?_;rintro e w' ⟨rfl,rfl⟩)
      go_ret2;exact ⟨_,rfl,Sl.nil _ _,Below.refl _ _⟩
end
section
open Go.RowKit
theorem Appended_any (v : Value) (xs : List Int) (v2 : Value) (rec : List Int) (w : World) (h : Sl w v 1 xs.length (xs.map U32)) (hw : ∀ x ∈ xs, W32 x) (h2 : Sl w v2 1 rec.length (rec.map U32)) :
    Calls Tryz.prog 67 #[v,v2] w (GrewSl2 2 (appL xs rec).length ((appL xs rec).flatMap AWrite.cells) (appE xs rec) w):=by
  obtain ⟨i0,hi,hz0,hz1,hz2⟩:=info_parts infoWriteD;have T:=Lib.hid (Replayed_at v xs w h hw);obtain ⟨t0,t1⟩:=tapeA_bd hw;have hS:=h;obtain ⟨a,cap,rfl,hn,hl,h0,hr⟩:=h;obtain ⟨a2,cap2,rfl,hn2,hl2,h02,hr2⟩:=h2;clear hl h0 hl2 h02 hr;have HE:=Lib.hid (show appE xs rec=if inB rec.length 1 64 then (if tapeE xs=0 then (if (xs.length:Int) < tapeA xs+1+rec.length then 16 else 0) else tapeE xs) else 1 from rfl);have HL:=Lib.hid (show appL xs rec=if appE xs rec=0 then putD (tapeA xs) rec rec.length++(if tapeA xs+1+rec.length < xs.length then [⟨tapeA xs+1+rec.length,0⟩] else [])++[⟨tapeA xs,rec.length⟩] else [] from rfl);generalize appE xs rec=RE at *;generalize appL xs rec=RL at *;cases hi1:inB rec.length 1 64
  · have e1:RE=1:=by rw [HE.out,hi1];rfl
    have e2:RL=[]:=by rw [HL.out,e1];rfl
    rw [e1,e2];clear e1 e2 HE HL hr2 hw;go_enter Tryz.func67,Tryz.ntmps67
    go_wp2_with (go_at_call 57;refine (In_any _ _ _ _).mono ?_;rintro e w' ⟨rfl,rfl⟩)
    go_ret2;exact ⟨_,rfl,Sl.nil _ _,Below.refl _ _⟩
  · obtain ⟨m0, m1⟩ := inB_true.1 hi1
    have c1:¬ (rec.length:Int) < 1:=by omega
    have c2:¬ 64 < (rec.length:Int):=by omega
    rw [hi1] at HE
    by_cases hE:tapeE xs=0
    · rw [hE] at T HE
      by_cases hfull:(xs.length:Int) < tapeA xs+1+rec.length
      · have e1:RE=16:=by rw [HE.out];simp [hfull]
        have e2:RL=[]:=by rw [HL.out,e1];rfl
        rw [e1,e2];have hfull2:(xs.length:Int)≤tapeA xs+rec.length:=by omega
        clear e1 e2 HE HL hr2 hw hE;generalize tapeA xs=A at *;go_enter Tryz.func67,Tryz.ntmps67
        go_wp2_with (go_at_call 57;refine (In_any _ _ _ _).mono ?_;rintro e w' ⟨rfl,rfl⟩)
        refine T.out.mono ?_;rintro e wT ⟨vT,rfl,kT⟩;have hszT:=kT.size;go_wp2;go_ret2;exact ⟨_,rfl,Sl.nil _ _,kT⟩
      · have e1 : RE = 0 := by rw [HE.out]; simp [hfull]
        rw [e1,if_pos rfl] at HL;rw [e1];have hfull2:¬ (xs.length:Int)≤tapeA xs+rec.length:=by omega
        clear e1 HE hw hE;generalize tapeA xs=A at *;go_enter Tryz.func67,Tryz.ntmps67
        go_wp2_with (go_at_call 57;refine (In_any _ _ _ _).mono ?_;rintro e w' ⟨rfl,rfl⟩)
        refine T.out.mono ?_;rintro e wT ⟨vT,rfl,kT⟩;have hszT:=kT.size;go_wp2
        go_loopw [10,11] (fun v i wr=>∃ k:Nat,k≤rec.length∧i=I k∧Hid (OutD w (putD A rec k) v wr)) (fun _ i _=>rec.length-(intOf i).toNat)
        case atStart=>exact ⟨0,Nat.zero_le _,rfl,World.ownsRow_nil _ _ _ _,kT⟩
        case round=>
          obtain ⟨k,hk,rfl,hD⟩:=hrel;obtain ⟨hown,hbw⟩:=hD.out;have hsz:=hbw.size;rw [putD_len] at hown
          by_cases hlt:k < rec.length
          · obtain ⟨b2,o2,rfl,hb2,hc2⟩:=hr2.resolve_left (by omega)
            have e1:=(hbw.cell (p:=⟨b2,o2+k,none⟩) hb2).trans (hc2 k (by simpa using hlt));rw [getD_map' _ _ hlt] at e1;have hps:=Lib.hid (putD_succ A rec k);have hpl:=putD_len A rec k;have hi0:(0:Int)≤(k:Int):=by omega
            have hi1:(k:Int) < (rec.length:Int):=by omega
            clear hc2 hr2;generalize rec.getD k 0=x at *
            go_wp2_with (at_builtin;refine wpList_append_own _ rfl _ _ 37 rfl w.heap.size 98 i0 (.agg #[.int .i64 0,.int .u32 0]) 2 16 Tryz.underlying37 hi hz0 hz1 hz2 rfl (by decide) _ _ _ rfl (hown.alloc _) ⟨wr.heap.size,0,none⟩ 1 1 [I (A+k+1),U32 x] rfl rfl (news_lit _ [I (A+k+1),U32 x] _) (oneCells_lit rfl) (by unfold maxLen;omega) (by omega) (by simp;omega) ?_;intro v' w1 hown' hgrow _)
            have hbel:=grown_below (hbw.alloc hsz _) (hown.alloc _) (Nat.le_refl _) hgrow
            have hD':Hid (OutD w (putD A rec (k+1)) v' w1):=by
              have:=OutD.push (L:=putD A rec k) ⟨A+1+k,x⟩ (by rw [hpl];simp only [];rw [show A+1+(k:Int)=A+k+1 by omega];exact hown') hbel;rw [hps.out];exact this
            clear hown hown' hgrow hbel hbw hD;go_wp2;exact ⟨⟨k+1,by omega,by go_num,hD'⟩,by simp [intOf];omega⟩
          · have hkm:k=rec.length:=by omega
            have hge:(rec.length:Int)≤(k:Int):=by omega
            rw [hkm] at hown;clear hD hkm hr2
            by_cases hmid:A+1+rec.length < xs.length
            · rw [if_pos hmid] at HL
              have hmid2:A+rec.length+1 < xs.length:=by omega
              go_wp2_with (first
                | ((at_builtin;refine wpList_append_own _ rfl _ _ 37 rfl w.heap.size 98 i0 (.agg #[.int .i64 0,.int .u32 0]) 2 16 Tryz.underlying37 hi hz0 hz1 hz2 rfl (by decide) _ _ _ rfl (hown.alloc _) ⟨wr.heap.size,0,none⟩ 1 1 [I (A+rec.length+1),U32 0] rfl rfl (news_lit _ [I (A+rec.length+1),U32 0] _) (oneCells_lit rfl) (by unfold maxLen;omega) (by omega) (by simp;omega) ?_;intro v' w1 hown' hgrow _);have hb1:=grown_below (hbw.alloc hsz _) (hown.alloc _) (Nat.le_refl _) hgrow;have hsz1:=hb1.size;have hown1:=hown';generalize w1=wA at *;generalize v'=vA at *;clear hown' hgrow)
                | (at_builtin;refine wpList_append_own _ rfl _ _ 37 rfl w.heap.size 98 i0 (.agg #[.int .i64 0,.int .u32 0]) 2 16 Tryz.underlying37 hi hz0 hz1 hz2 rfl (by decide) _ _ _ rfl (hown1.alloc _) ⟨wA.heap.size,0,none⟩ 1 1 [I A,U32 rec.length] rfl rfl (news_lit _ [I A,U32 rec.length] _) (oneCells_lit rfl) (by unfold maxLen;omega) (by omega) (by simp;omega) ?_;intro v' w1 hown' hgrow _))
              clear hown hbw;have hb2:=grown_below (hb1.alloc hsz1 _) (hown1.alloc _) (Nat.le_refl _) hgrow;have hS3:=Sl.of_owns' (n:=RL.length) hown' (by rw [HL.out];simp [putD_len]) (by rw [HL.out];simp [putD_len];omega)
              have hS4:Sl w1 v' 2 RL.length (RL.flatMap AWrite.cells):=by
                have e:RL.flatMap AWrite.cells=(putD A rec rec.length).flatMap AWrite.cells++[I (A+rec.length+1),U32 0]++[I A,U32 rec.length]:=by
                  rw [show A+(rec.length:Int)+1=A+1+rec.length by omega,HL.out,List.flatMap_append,List.flatMap_append];simp [AWrite.cells]
                rw [e];exact hS3
              clear hown1 hown' hgrow hS3 hb1;go_wp2;go_ret2;exact ⟨_,rfl,hS4,hb2⟩
            · rw [if_neg hmid, List.append_nil] at HL
              have hmid2:¬ A+rec.length+1 < xs.length:=by omega
              go_wp2_with (at_builtin;refine wpList_append_own _ rfl _ _ 37 rfl w.heap.size 98 i0 (.agg #[.int .i64 0,.int .u32 0]) 2 16 Tryz.underlying37 hi hz0 hz1 hz2 rfl (by decide) _ _ _ rfl (hown.alloc _) ⟨wr.heap.size,0,none⟩ 1 1 [I A,U32 rec.length] rfl rfl (news_lit _ [I A,U32 rec.length] _) (oneCells_lit rfl) (by unfold maxLen;omega) (by omega) (by simp;omega) ?_;intro v' w1 hown' hgrow _)
              have hb2:=grown_below (hbw.alloc hsz _) (hown.alloc _) (Nat.le_refl _) hgrow;have hS3:=Sl.of_owns' (n:=RL.length) hown' (by rw [HL.out];simp [putD_len]) (by rw [HL.out];simp [putD_len];omega)
              have hS4:Sl w1 v' 2 RL.length (RL.flatMap AWrite.cells):=by
                have e:RL.flatMap AWrite.cells=(putD A rec rec.length).flatMap AWrite.cells++[I A,U32 rec.length]:=by
                  rw [HL.out,List.flatMap_append];simp [AWrite.cells]
                rw [e];exact hS3
              clear hown hown' hgrow hS3 hbw;go_wp2;go_ret2;exact ⟨_,rfl,hS4,hb2⟩
    · have e1:RE=tapeE xs:=by rw [HE.out];simp [hE]
      have e2:RL=[]:=by rw [HL.out,e1,if_neg hE]
      have hb2:(tapeE xs != 0)=true:=by simp [hE]
      rw [e1,e2];clear e1 e2 HE HL hr2 hw hE;generalize tapeE xs=E at *;generalize tapeA xs=A at *;go_enter Tryz.func67,Tryz.ntmps67
      go_wp2_with (go_at_call 57;refine (In_any _ _ _ _).mono ?_;rintro e w' ⟨rfl,rfl⟩)
      refine T.out.mono ?_;rintro e wT ⟨vT,rfl,kT⟩;have hszT:=kT.size;go_wp2;go_ret2;exact ⟨_,rfl,Sl.nil _ _,kT⟩
end
end Go.Proofs.YtdjgcenjonegjaaGreat
