/- receipt.Read: the walk -/
import Derived.Test.YtfhmcahfjoliiaaGreatDoorRecRead1
set_option maxRecDepth 20000
set_option maxHeartbeats 8000000
set_option linter.unusedSimpArgs false
set_option linter.unusedVariables false
namespace Go.Proofs.YtfhmcahfjoliiaaGreatDoor
open Go Go.RowKit
open Go.Maps (Keyed)

theorem PRead_big (s:ByteArray) (w:World) (hs:¬ s.size≤400):Calls Tryz.prog 4 #[.string s] w (Grew (T2 (.agg zRec.toArray) (I 1)) w):=by
  have j400:(400:Int) < (s.size:Int):=by omega
  have OR:=Own.new (w:=w) (g:=w.heap.size) (by rfl) [I 0,I 0,I 0,I 0,I 0,I 0,I 0,I 0,.string ⟨#[]⟩] 25;have KB:=boxed_below w (.cells #[I 0,I 0,I 0,I 0,I 0,I 0,I 0,I 0,.string ⟨#[]⟩] 25);have rO:=OR;have rA:=rO.s9;clear rO;go_enter Tryz.func4,Tryz.ntmps4
  go_wp2_with fail
  exact bodyPost_ret (v:=T2 (.agg #[I 0,I 0,I 0,I 0,I 0,I 0,I 0,I 0,.string ⟨#[]⟩]) (I 1)) (by simp [results,Tryz.results4,go_sem, *];try omega) rfl (⟨rfl,below_autor⟩)
theorem field_value (x:ByteArray) (W:World):(Instr.field 36 (.agg #[.string x]) 0).run Tryz.prog W=.ok (.string x) W:=rfl
theorem PRead_in (s : ByteArray) (w : World) (hE : EnvR w) (hs : s.size ≤ 400) : Calls Tryz.prog 4 #[.string s] w (Grew (recAns (recP2 s) s) w) := by
  have j400:(s.size:Int)≤400:=by omega
  have hmm:=@run_makeMap Tryz.prog;have hfld:=field_value;have kB:=boxed_below w (.cells #[I 0,I 0,I 0,I 0,I 0,I 0,I 0,I 0,.string ⟨#[]⟩] 25);have oR:=Own.new (w:=w) rfl [I 0,I 0,I 0,I 0,I 0,I 0,I 0,I 0,.string ⟨#[]⟩] 25;have k2:=boxed_below (w.alloc (.cells #[I 0,I 0,I 0,I 0,I 0,I 0,I 0,I 0,.string ⟨#[]⟩] 25)) (.map #[] 0);have oM:=World.ownsMap_made (w.alloc (.cells #[I 0,I 0,I 0,I 0,I 0,I 0,I 0,I 0,.string ⟨#[]⟩] 25)) Tryz.prog 9 txR;have SP:=Lib.hid (fun W m h=>Tryz.strings_Split s ⟨#[10]⟩ m W (by omega) h (by decide));have hN:=spl_len s;have hNl:=spl_len_le s;have HE:=Lib.hid (fun W (k:Below w.heap.size w W)=>hE.below k);have kk:=kB.trans (k2.mono (by simp));obtain ⟨m,hm⟩:=(HE.out _ kk).m;have SP:=Lib.hid (SP.out _ m hm);rw [show Go.Lib.splitB ⟨#[10]⟩ 0 (Go.Lib.countB s ⟨#[10]⟩) s=spl s from rfl,← hN] at SP;have HSZ:=Lib.hid (fun j=>Nat.le_trans (spl_size s j) hs);have HSD:=Lib.hid (fun j nm=>Nat.le_trans (sdN_size s nm j) hs);have HA:=Lib.hid (show recAns (recP2 s) s=recAns ⟨mnV (sdN (spl s) (spl s).length kMETER),atV (sdN (spl s) (spl s).length kNUMBER),centsV (sdN (spl s) (spl s).length kTENDER),centsV (sdN (spl s) (spl s).length kDEBT),centsV (sdN (spl s) (spl s).length kFEE),centsV (sdN (spl s) (spl s).length kPRICE),centsV (sdN (spl s) (spl s).length kCHANGE),atV (sdN (spl s) (spl s).length kUNITS),rplB (sdN (spl s) (spl s).length kTOKEN)⟩ s from rfl);generalize recAns (recP2 s) s=VA at *;generalize hls:spl s=ls at *;generalize hcn:ls.length=n at *;have k3:=boxed_below ((w.alloc (.cells #[I 0,I 0,I 0,I 0,I 0,I 0,I 0,I 0,.string ⟨#[]⟩] 25)).alloc (.map #[] 0)) (.cells (ls.map Value.string).toArray 9);have L0:=Lib.hid (show RpL w _ ls 0 from ⟨((oR.below k2).below k3),ownsMap_below (by simpa [sdD] using oM) k3,by simpa using Own.new (w:=(w.alloc (.cells #[I 0,I 0,I 0,I 0,I 0,I 0,I 0,I 0,.string ⟨#[]⟩] 25)).alloc (.map #[] 0)) rfl (ls.map Value.string) 9,kk.trans (k3.mono (by simp;omega))⟩);clear kB oR k2 oM k3 kk hm hN hE;go_enter Tryz.func4,Tryz.ntmps4
  go_wp2_with fail
  refine SP.out.mono ?_;rintro e w1 ⟨rfl,rfl⟩
  go_wp2_with fail
  go_loopw [25] (fun s25 wr=>∃ j:Nat,j≤n∧s25=I j∧Hid (RpL w wr ls j)) (fun i _=>n-(intOf i).toNat)
  case atStart=>exact ⟨0,Nat.zero_le _,rfl,L0⟩
  case round=>
    clear L0 SP;obtain ⟨j,hj,rfl,L⟩:=hrel
    by_cases hlt:j < n
    · have j0 : (0 : Int) ≤ (j : Int) := by omega
      have j1:(j:Int) < (n:Int):=by omega
      have x0:=L.out.l.cell j (by rw [List.length_map];omega);rw [mapStr_get ls j (by omega),Nat.zero_add] at x0;have hz:=HSZ.out j;obtain ⟨m,hm⟩:=(HE.out _ L.out.b).m;obtain ⟨x,hx⟩:∃ x,ls.getD j ⟨#[]⟩=x:=⟨_,rfl⟩;rw [hx] at x0 hz;have hd1:hdL (ls.getD j ⟨#[]⟩)=hdL x:=by rw [hx]
      have hd2:tlL (ls.getD j ⟨#[]⟩)=tlL x:=by rw [hx]
      have hdz:=hdL_size x;have CU:=Tryz.strings_Cut x ⟨#[32]⟩ m wr (by omega) hm;rw [show (⟨(Go.Lib.cut x.data.toList (⟨#[32]⟩:ByteArray).data.toList).1.toArray⟩:ByteArray)=hdL x from rfl,show (⟨(Go.Lib.cut x.data.toList (⟨#[32]⟩:ByteArray).data.toList).2.1.toArray⟩:ByteArray)=tlL x from rfl] at CU;have CU:=Lib.hid CU;generalize (Go.Lib.cut x.data.toList (⟨#[32]⟩:ByteArray).data.toList).2.2=ok at CU;have H1:=Lib.hid hd1;have H2:=Lib.hid hd2;clear hx hm hd1 hd2 HA HSD;generalize hdL x=hx at *;generalize tlL x=tx at *
      go_wp2_with (first
        | (go_at_call 7;refine CU.out.mono ?_;rintro e w2 ⟨rfl,q,rfl⟩)
        | (at_mapUpdate
           refine wpList_store_said rfl _ _ _ rfl (w.heap.size+1) j ls hx tx rfl (show (wr.drewN q).ownsMap Tryz.prog 9 txR (w.heap.size+1) j (sdD ls j) from L.out.m) (by unfold maxLen;omega) rfl rfl (by unfold maxLen;omega) H1.out H2.out ?_;intro w2 hm2 hg2;have L2:=Lib.hid (L.out.step hm2 hg2);clear hm2 hg2))
      exact ⟨⟨j+1,by omega,by go_num,L2⟩,by simp [intOf];omega⟩
    · obtain rfl:j=n:=by omega
      subst hcn;have hf0:=L.out.l.lt;have R:=Lib.hid (show RpW w _ ls wr.heap.size zRec from ⟨L.out.r.below (boxed_below wr (.cells #[I 0,I 0,I 0,I 0,I 0,I 0,I 0,I 0,.string ⟨#[]⟩] 25)),ownsMap_below L.out.m (boxed_below wr (.cells #[I 0,I 0,I 0,I 0,I 0,I 0,I 0,I 0,.string ⟨#[]⟩] 25)),Own.new (w:=wr) rfl [I 0,I 0,I 0,I 0,I 0,I 0,I 0,I 0,.string ⟨#[]⟩] 25,L.out.b.trans ((boxed_below wr (.cells #[I 0,I 0,I 0,I 0,I 0,I 0,I 0,I 0,.string ⟨#[]⟩] 25)).mono L.out.b.size)⟩);have HF:=Lib.hid (show w.heap.size+1 < wr.heap.size by omega);have ME:=Lib.hid (fun W=>RecMeter_any (sdN ls ls.length kMETER) W);unfold MnP at ME;have htz:=HSD.out ls.length kTOKEN;have RA:=Lib.hid (fun W m h=>Tryz.strings_ReplaceAll (sdN ls ls.length kTOKEN) ⟨#[32]⟩ ⟨#[]⟩ m W (by omega) h (by decide) (by show _+_*0≤_;omega));have RA2:=RA.out;rw [show (⟨(Go.Lib.replaceAll (sdN ls ls.length kTOKEN).data.toList (⟨#[32]⟩:ByteArray).data.toList (⟨#[]⟩:ByteArray).data.toList).toArray⟩:ByteArray)=rplB (sdN ls ls.length kTOKEN) from rfl] at RA2;have RA:=Lib.hid RA2;clear RA2 htz L hf0 HSZ;obtain ⟨sd,hsd⟩:∃ f:ByteArray→ByteArray,f=sdN ls ls.length:=⟨_,rfl⟩;have HSD2:=Lib.hid (show ∀ nm,(sd nm).size≤400 from fun nm=>by rw [hsd];exact HSD.out _ nm);rw [← hsd] at HA ME RA;have HQ:=Lib.hid (show ∀ nm,sdN ls ls.length nm=sd nm from fun nm=>by rw [hsd]);clear hsd HSD;generalize mnV (sd kMETER)=me at *;generalize mnE (sd kMETER)=ee at *;generalize rplB (sd kTOKEN)=tk at *
      go_wp2_with (at_lookup;refine wpList_lookup_said rfl _ _ rfl (w.heap.size+1) ls.length ls.length ls kMETER rfl R.out.m rfl (by decide) ?_;rw [HQ.out])
      refine (ME.out _).mono ?_;rintro e w2 ⟨rfl,k2⟩;have RB:=Lib.hid (R.out.below k2);have aO:=RB.out.a;have aA:=aO.s9;clear aO;have R:=Lib.hid (RB.out.setA HF.out 0 (I me));(try simp only [List.set_cons_zero] at R);clear RB k2 ME;obtain ⟨m,hm⟩:=(HE.out _ R.out.b).m;have RA:=Lib.hid (RA.out _ m hm);clear hm
      go_wp2_with (at_lookup;refine wpList_lookup_said rfl _ _ rfl (w.heap.size+1) ls.length ls.length ls kTOKEN rfl R.out.m rfl (by decide) ?_;rw [HQ.out])
      refine RA.out.mono ?_;rintro e w3 ⟨rfl,k3⟩;have RB:=Lib.hid (R.out.below k3);clear aA k3 RA R;have aO:=RB.out.a;have aA:=aO.s9;clear aO;have R:=Lib.hid (RB.out.setA HF.out 8 (.string tk));(try simp only [List.set_cons_zero,List.set_cons_succ] at R);clear RB;go_upto_region 13 with fail
      clear aA;generalize w3.setCell ⟨wr.heap.size,8,none⟩ (.string tk)=W0 at *;generalize wr.heap.size=fb at *;have hf0:=HF.out;have hfm:=R.out.a.lt;have hm0:=World.ownsMap_made W0 Tryz.prog 9 (ptR fb);have R:=Lib.hid (R.out.below (boxed_below W0 (.map #[] 0)));generalize hmb:W0.heap.size=mb at *
      go_wp2_with (first
        | (refine wpList_insert_place rfl _ _ _ rfl fb mb 0 [] kNUMBER 1 rfl hm0 (by unfold maxLen; omega) rfl rfl (by decide) ?_
           intro w4 hm4 hg4;have R:=Lib.hid (R.out.grown hg4 hfm hf0);clear hg4 hm0)
        | (refine wpList_insert_place rfl _ _ _ rfl fb mb 1 [(kNUMBER, 1)] kUNITS 7 rfl hm4 (by unfold maxLen; omega) rfl rfl (by decide) ?_
           intro w5 hm5 hg5;have R:=Lib.hid (R.out.grown hg5 hfm hf0);clear hg5 hm4)
        | (at_range
           refine wpList_range_own _ rfl _ 41 rfl 9 40 lawS Tryz.underlying41 (ptR fb) mb 2 (kvD kv2) rfl hm5 ?_;intro w6 hr6 hg6 hs6;have R:=Lib.hid (R.out.grown0 hg6);have hmr:=hm5.lt;clear hg6 hm5 hs6))
      go_frame
      generalize w5.heap.size=rb at *;have R:=Lib.hid (show RpW w w6 ls fb (A2 (Maps.has (kvD kv2)) me (atV (sd kNUMBER)) (atV (sd kUNITS)) tk) by rw [A2_start];exact R.out);have A2S:=Lib.hid (fun (p:ByteArray×Nat) (hp:p∈kv2) (left:Lit→Bool)=>A2_step hp left me tk (fun nm=>atV (sd nm)));have A2E:=Lib.hid (fun (left:Lit→Bool) (h:∀ kl,left kl=false)=>A2_end h me (atV (sd kNUMBER)) (atV (sd kUNITS)) tk)
      go_loopw [11] (fun _ wr=>∃ (left:Lit→Bool) (cnt:Nat),Hid (wr.ranges Tryz.prog 9 (ptR fb) mb rb 2 (kvD kv2) left cnt)∧Hid (∀ kl,left kl=true→Maps.has (kvD kv2) kl=true)∧Hid (RpW w wr ls fb (A2 left me (atV (sd kNUMBER)) (atV (sd kUNITS)) tk))) (fun _ wr=>wr.rangeLeft mb rb)
      case atStart=>exact ⟨_,_,Lib.hid hr6,Lib.hid (fun kl h=>h),R⟩
      case round=>
        clear R hr6;obtain ⟨left,cnt,hrg,hle,R⟩:=hrel
        go_wp2_with (at_next;refine wpList_next_place rfl _ rfl fb mb rb 2 kv2 kv2_nodup left cnt rfl hrg.out hle.out ?_ ?_)
        · intro hl0
          have RQ:=Lib.hid (show RpW w wr ls fb [I me,I (atV (sd kNUMBER)),I 0,I 0,I 0,I 0,I 0,I (atV (sd kUNITS)),.string tk] by rw [← A2E.out left hl0];exact R.out);clear A2S A2E hrg hle hl0 R hmr hfm;have R:=RQ;clear RQ;generalize atV (sd kNUMBER)=v1 at *;generalize atV (sd kUNITS)=v7 at *;have hmr:=hf0;go_upto_region 17 with fail
          have hfm:=R.out.a.lt;have hm0:=World.ownsMap_made wr Tryz.prog 9 (ptR fb);have R:=Lib.hid (R.out.below (boxed_below wr (.map #[] 0)));generalize hmb2:wr.heap.size=mb2 at *
          go_wp2_with (first
            | (refine wpList_insert_place rfl _ _ _ rfl fb mb2 0 [] kTENDER 2 rfl hm0 (by unfold maxLen; omega) rfl rfl (by decide) ?_
               intro wi0 hi0 gi0;have R:=Lib.hid (R.out.grown gi0 hfm hf0);clear gi0 hm0)
            | (refine wpList_insert_place rfl _ _ _ rfl fb mb2 1 [(kTENDER, 2)] kDEBT 3 rfl hi0 (by unfold maxLen; omega) rfl rfl (by decide) ?_
               intro wi1 hi1 gi1;have R:=Lib.hid (R.out.grown gi1 hfm hf0);clear gi1 hi0)
            | (refine wpList_insert_place rfl _ _ _ rfl fb mb2 2 [(kDEBT, 3), (kTENDER, 2)] kFEE 4 rfl hi1 (by unfold maxLen; omega) rfl rfl (by decide) ?_
               intro wi2 hi2 gi2;have R:=Lib.hid (R.out.grown gi2 hfm hf0);clear gi2 hi1)
            | (refine wpList_insert_place rfl _ _ _ rfl fb mb2 3 [(kFEE, 4), (kDEBT, 3), (kTENDER, 2)] kPRICE 5 rfl hi2 (by unfold maxLen; omega) rfl rfl (by decide) ?_
               intro wi3 hi3 gi3;have R:=Lib.hid (R.out.grown gi3 hfm hf0);clear gi3 hi2)
            | (refine wpList_insert_place rfl _ _ _ rfl fb mb2 4 [(kPRICE, 5), (kFEE, 4), (kDEBT, 3), (kTENDER, 2)] kCHANGE 6 rfl hi3 (by unfold maxLen; omega) rfl rfl (by decide) ?_
               intro wi4 hi4 gi4;have R:=Lib.hid (R.out.grown gi4 hfm hf0);clear gi4 hi3)
            | (at_range
               refine wpList_range_own _ rfl _ 41 rfl 9 40 lawS Tryz.underlying41 (ptR fb) mb2 5 (kvD kv5) rfl hi4 ?_;intro w6 hr6 hg6 hs6;have R:=Lib.hid (R.out.grown0 hg6);have hmr:=hi4.lt;clear hg6 hi4 hs6))
          go_frame
          generalize wi4.heap.size=rb2 at *;have R:=Lib.hid (show RpW w w6 ls fb (A5 (Maps.has (kvD kv5)) me v1 (centsV (sd kTENDER)) (centsV (sd kDEBT)) (centsV (sd kFEE)) (centsV (sd kPRICE)) (centsV (sd kCHANGE)) v7 tk) by rw [A5_start];exact R.out);have A5S:=Lib.hid (fun (p:ByteArray×Nat) (hp:p∈kv5) (left:Lit→Bool)=>A5_step hp left me v1 v7 tk (fun nm=>centsV (sd nm)));have A5E:=Lib.hid (fun (left:Lit→Bool) (h:∀ kl,left kl=false)=>A5_end h me v1 (centsV (sd kTENDER)) (centsV (sd kDEBT)) (centsV (sd kFEE)) (centsV (sd kPRICE)) (centsV (sd kCHANGE)) v7 tk)
          go_loopw [13] (fun _ wr=>∃ (left:Lit→Bool) (cnt:Nat),Hid (wr.ranges Tryz.prog 9 (ptR fb) mb2 rb2 5 (kvD kv5) left cnt)∧Hid (∀ kl,left kl=true→Maps.has (kvD kv5) kl=true)∧Hid (RpW w wr ls fb (A5 left me v1 (centsV (sd kTENDER)) (centsV (sd kDEBT)) (centsV (sd kFEE)) (centsV (sd kPRICE)) (centsV (sd kCHANGE)) v7 tk))) (fun _ wr=>wr.rangeLeft mb2 rb2)
          case atStart=>exact ⟨_,_,Lib.hid hr6,Lib.hid (fun kl h=>h),R⟩
          case round=>
            clear R hr6;obtain ⟨left,cnt,hrg,hle,R⟩:=hrel
            go_wp2_with (at_next;refine wpList_next_place rfl _ rfl fb mb2 rb2 5 kv5 kv5_nodup left cnt rfl hrg.out hle.out ?_ ?_)
            · intro hl0
              have R:=Lib.hid (show RpW w wr ls fb [I me,I v1,I (centsV (sd kTENDER)),I (centsV (sd kDEBT)),I (centsV (sd kFEE)),I (centsV (sd kPRICE)),I (centsV (sd kCHANGE)),I v7,.string tk] by rw [← A5E.out left hl0];exact R.out);clear A5S A5E hrg hle hl0;have SH:=Lib.hid (RShow_any me v1 (centsV (sd kTENDER)) (centsV (sd kDEBT)) (centsV (sd kFEE)) (centsV (sd kPRICE)) (centsV (sd kCHANGE)) v7 tk wr (HE.out _ R.out.b).p);unfold RecSP at SH;have RO:=Lib.hid (fun h h2=>recAns_ok (me:=me) (id:=v1) (te:=centsV (sd kTENDER)) (de:=centsV (sd kDEBT)) (fe:=centsV (sd kFEE)) (pr:=centsV (sd kPRICE)) (ch:=centsV (sd kCHANGE)) (un:=v7) (tk:=tk) (s:=s) h h2);have RB:=Lib.hid (fun h=>recAns_bad (me:=me) (id:=v1) (te:=centsV (sd kTENDER)) (de:=centsV (sd kDEBT)) (fe:=centsV (sd kFEE)) (pr:=centsV (sd kPRICE)) (ch:=centsV (sd kCHANGE)) (un:=v7) (tk:=tk) (s:=s) h);rw [← HA.out] at RO RB;clear HA HE HSD2 HQ;generalize centsV (sd kTENDER)=v2 at *;generalize centsV (sd kDEBT)=v3 at *;generalize centsV (sd kFEE)=v4 at *;generalize centsV (sd kPRICE)=v5 at *;generalize centsV (sd kCHANGE)=v6 at *;generalize recST me v1 v2 v3 v4 v5 v6 v7 tk=t at *;generalize recSE me v1 v2 v3 v4 v5 v6 v7 tk=e at *;have aO:=R.out.a;have aA:=aO.s9;clear aO
              by_cases he:e=0
              · by_cases ht:t=s
                · have hV:=RO.out he ht
                  subst he;subst ht;have hw1:(t.toList==t.toList)=true:=beq_self_eq_true _;clear RO RB
                  go_wp2_with fail
                  refine SH.out.mono ?_;rintro e2 w2 ⟨rfl,k2⟩;have KB:=(R.out.below k2).b;have QA:=Lib.hid (R.out.below k2).a;have QR:=Lib.hid (R.out.below k2).r;clear aA R k2 SH;have aO:=QA.out;have aA:=aO.s9;clear aO;have rO:=QR.out;have rA:=rO.s9;clear rO;clear QA QR
                  go_wp2_with fail
                  exact bodyPost_ret (v:=T2 (.agg #[I me,I v1,I v2,I v3,I v4,I v5,I v6,I v7,.string tk]) (I 0)) (by simp [results,Tryz.results4,go_sem, *];try omega) rfl (⟨by rw [hV],below_autor⟩)
                · have hV:=RB.out (Or.inr ht)
                  subst he;have hw1:=str_ne ht;clear RO RB ht
                  go_wp2_with fail
                  refine SH.out.mono ?_;rintro e2 w2 ⟨rfl,k2⟩;have KB:=(R.out.below k2).b;have QA:=Lib.hid (R.out.below k2).a;have QR:=Lib.hid (R.out.below k2).r;clear aA R k2 SH;have aO:=QA.out;have aA:=aO.s9;clear aO;have rO:=QR.out;have rA:=rO.s9;clear rO;clear QA QR
                  go_wp2_with fail
                  exact bodyPost_ret (v:=T2 (.agg #[I 0,I 0,I 0,I 0,I 0,I 0,I 0,I 0,.string ⟨#[]⟩]) (I 3)) (by simp [results,Tryz.results4,go_sem, *];try omega) rfl (⟨by rw [hV],below_autor⟩)
              · have hV:=RB.out (Or.inl he)
                have he1:(e==0)=false:=by simp [he]
                clear RO RB
                go_wp2_with fail
                refine SH.out.mono ?_;rintro e2 w2 ⟨rfl,k2⟩;have KB:=(R.out.below k2).b;have QA:=Lib.hid (R.out.below k2).a;have QR:=Lib.hid (R.out.below k2).r;clear aA R k2 SH;have aO:=QA.out;have aA:=aO.s9;clear aO;have rO:=QR.out;have rA:=rO.s9;clear rO;clear QA QR
                go_wp2_with fail
                exact bodyPost_ret (v:=T2 (.agg #[I 0,I 0,I 0,I 0,I 0,I 0,I 0,I 0,.string ⟨#[]⟩]) (I 3)) (by simp [results,Tryz.results4,go_sem, *];try omega) rfl (⟨by rw [hV],below_autor⟩)
            · intro nm o w7 cnt7 hp hlk hrg7 hlt7 hg7 hs7 hen
              obtain ⟨hst,ho9,hn10⟩:=A5S.out (nm,o) hp left;change o < 9 at ho9;change nm.size≤10 at hn10;have R7:=Lib.hid (R.out.grown hg7 (by omega) hf0);have AT:=Lib.hid (Cents_any (sd nm) w7 (HE.out _ R7.out.b).m);unfold CentsP at AT;have HST:=Lib.hid hst;have HLE:=Lib.hid (show ∀ kl,(left kl&&!kl.sameKey (kyS nm))=true→Maps.has (kvD kv5) kl=true from fun kl h=>hle.out kl (by simp at h;exact h.1));have hlq:=hrg.out.left_eq;clear R hst hg7 hs7 A5S A5E hle hrg hp hlk HSD2 HE HA;generalize centsE (sd nm)=ev at *
              go_wp2_with (at_lookup;refine wpList_lookup_said rfl _ _ rfl (w.heap.size+1) ls.length ls.length ls nm rfl R7.out.m rfl (by unfold maxLen;omega) ?_;rw [HQ.out])
              refine AT.out.mono ?_;rintro e w8 ⟨rfl,k8⟩;have R8:=Lib.hid (R7.out.below k8);have hrg8:=Lib.hid (ranges_set (ranges_below hrg7 k8) (a:=⟨fb,o,none⟩) (by show fb≠mb2;omega) (by show fb≠rb2;omega) (I (centsV (sd nm))));have x0:=R8.out.a.cell o (by show o < 9;exact ho9);rw [Nat.zero_add] at x0;have xf:=R8.out.a.frozen o;generalize (A5 left me v1 (centsV (sd kTENDER)) (centsV (sd kDEBT)) (centsV (sd kFEE)) (centsV (sd kPRICE)) (centsV (sd kCHANGE)) v7 tk).getD o undef=ov at x0;have RF:=Lib.hid (R8.out.setA hf0 o (I (centsV (sd nm))));rw [HST.out] at RF;clear R7 R8 hrg7 k8 AT HST hen;generalize centsV (sd nm)=v at *
              go_wp2_with fail
              exact ⟨⟨_,cnt7,hrg8,HLE,RF⟩,by rw [hrg8.out.left_eq,hlq];exact hlt7⟩
        · intro nm o w7 cnt7 hp hlk hrg7 hlt7 hg7 hs7 hen
          obtain ⟨hst,ho9,hn10⟩:=A2S.out (nm,o) hp left;change o < 9 at ho9;change nm.size≤10 at hn10;have R7:=Lib.hid (R.out.grown hg7 (by omega) hf0);have AT:=Lib.hid (atoi_all (sd nm) w7 (HE.out _ R7.out.b) (HSD2.out nm));have HST:=Lib.hid hst;have HLE:=Lib.hid (show ∀ kl,(left kl&&!kl.sameKey (kyS nm))=true→Maps.has (kvD kv2) kl=true from fun kl h=>hle.out kl (by simp at h;exact h.1));have hlq:=hrg.out.left_eq;clear R hst hg7 hs7 A2S A2E hle hrg hp hlk HSD2 HE HA;generalize atV (sd nm)=v at *
          go_wp2_with (at_lookup;refine wpList_lookup_said rfl _ _ rfl (w.heap.size+1) ls.length ls.length ls nm rfl R7.out.m rfl (by unfold maxLen;omega) ?_;rw [HQ.out])
          refine AT.out.mono ?_;rintro e w8 ⟨er,rfl,k8⟩;have R8:=Lib.hid (R7.out.below k8);have hrg8:=Lib.hid (ranges_set (ranges_below hrg7 k8) (a:=⟨fb,o,none⟩) (by show fb≠mb;omega) (by show fb≠rb;omega) (I v));have x0:=R8.out.a.cell o (by show o < 9;exact ho9);rw [Nat.zero_add] at x0;have xf:=R8.out.a.frozen o;generalize (A2 left me (atV (sd kNUMBER)) (atV (sd kUNITS)) tk).getD o undef=ov at x0;have RF:=Lib.hid (R8.out.setA hf0 o (I v));rw [HST.out] at RF;clear R7 R8 hrg7 k8 AT HST hen
          go_wp2_with fail
          exact ⟨⟨_,cnt7,hrg8,HLE,RF⟩,by rw [hrg8.out.left_eq,hlq];exact hlt7⟩
end Go.Proofs.YtfhmcahfjoliiaaGreatDoor
