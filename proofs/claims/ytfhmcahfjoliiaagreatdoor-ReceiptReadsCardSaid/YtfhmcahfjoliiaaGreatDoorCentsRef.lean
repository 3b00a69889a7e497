/- ref.ReadCents -/
import Derived.Test.YtfhmcahfjoliiaaGreatDoorCentsRead
set_option maxRecDepth 20000
set_option maxHeartbeats 8000000
set_option linter.unusedSimpArgs false
set_option linter.unusedVariables false
namespace Go.Proofs.YtfhmcahfjoliiaaGreatDoor
open Go.RowKit

theorem Refc_size (s:ByteArray) (w:World) (h:20 < s.size):Calls Tryz.prog 16 #[.string s] w (CentsP s w):=by
  have hE:=Lib.hid (show centsE s=1 by unfold centsE;rw [if_pos h]);have h1:(20:Int) < (s.size:Int):=by omega
  go_enter Tryz.func16,Tryz.ntmps16;go_wp2;go_ret2;exact CentsP.bad hE.out (by decide) below_auto
/-- no form -/
theorem Refc_form (s : ByteArray) (w : World) (h : ¬ 20 < s.size) (hf : cform s = false) : Calls Tryz.prog 16 #[.string s] w (CentsP s w) := by
  have hE:=Lib.hid (centsE_bad h (.inl hf));have h1:¬ (20:Int) < (s.size:Int):=by omega
  unfold cform at hf;rw [decide_eq_false_iff_not] at hf
  by_cases h0:s.size=0
  · have h0':¬ (0:Int) < (s.size:Int):=by omega
    have h4:(s.size:Int) < 4:=by omega
    clear hf;go_enter Tryz.func16,Tryz.ntmps16;go_wp2;go_ret2;exact CentsP.bad hE.out (by decide) below_auto
  · have g0 : 0 < s.size := by omega
    have g0':(0:Int) < (s.size:Int):=by omega
    have b0:=bat_eq (s:=s) (k:=0) g0
    by_cases hd:bat s 0=45
    · have hfr:cfr s=1:=by unfold cfr;rw [if_pos ⟨g0,hd⟩]
      rw [hfr] at hf;rw [hd] at b0
      by_cases h4:s.size < 5
      · have h4':(s.size:Int)-1 < 4:=by omega
        clear hf h0;go_enter Tryz.func16,Tryz.ntmps16;go_wp2;go_ret2;exact CentsP.bad hE.out (by decide) below_auto
      · have h4':¬ (s.size:Int)-1 < 4:=by omega
        have i0:(0:Int)≤(s.size:Int)-3:=by omega
        have i1:(s.size:Int)-3 < (s.size:Int):=by omega
        have e3:((s.size:Int)-3).toNat=s.size-3:=by omega
        have g3:s.size-3 < s.size:=by omega
        have b3:=bat_eq (s:=s) (k:=s.size-3) g3;have g1:1 < s.size:=by omega
        have b1:=bat_eq (s:=s) (k:=1) g1;have g1':(1:Int) < (s.size:Int):=by omega
        by_cases hp:bat s (s.size-3)=46
        · rw [hp] at b3
          have hz:bat s 1=48∧4 < s.size-1:=by
            by_cases hz:bat s 1=48∧4 < s.size-1
            · exact hz
            · exact absurd ⟨by omega,hp,hz⟩ hf
          rw [hz.1] at b1;have z4:(4:Int) < (s.size:Int)-1:=by omega
          clear hf h0;go_enter Tryz.func16,Tryz.ntmps16;go_wp2;go_ret2;exact CentsP.bad hE.out (by decide) below_auto
        · have b3':¬ (s[s.size-3]'g3).toNat=46:=by rw [b3];exact hp
          clear hf h0 b3;go_enter Tryz.func16,Tryz.ntmps16;go_wp2;go_ret2;exact CentsP.bad hE.out (by decide) below_auto
    · have hfr:cfr s=0:=by unfold cfr;rw [if_neg (fun hh=>hd hh.2)]
      rw [hfr] at hf;have b0':¬ (s[0]'g0).toNat=45:=by rw [b0];exact hd
      by_cases h4:s.size < 4
      · have h4':(s.size:Int) < 4:=by omega
        clear hf h0 b0;go_enter Tryz.func16,Tryz.ntmps16;go_wp2;go_ret2;exact CentsP.bad hE.out (by decide) below_auto
      · have h4':¬ (s.size:Int) < 4:=by omega
        have i0:(0:Int)≤(s.size:Int)-3:=by omega
        have i1:(s.size:Int)-3 < (s.size:Int):=by omega
        have e3:((s.size:Int)-3).toNat=s.size-3:=by omega
        have g3:s.size-3 < s.size:=by omega
        have b3:=bat_eq (s:=s) (k:=s.size-3) g3
        by_cases hp:bat s (s.size-3)=46
        · rw [hp] at b3
          have hz:bat s 0=48∧4 < s.size:=by
            by_cases hz:bat s 0=48∧4 < s.size
            · exact hz
            · exact absurd ⟨by omega,hp,hz⟩ hf
          rw [hz.1] at b0;have z4:(4:Int) < (s.size:Int):=by omega
          clear hf h0;go_enter Tryz.func16,Tryz.ntmps16;go_wp2;go_ret2;exact CentsP.bad hE.out (by decide) below_auto
        · have b3':¬ (s[s.size-3]'g3).toNat=46:=by rw [b3];exact hp
          clear hf h0 b3 b0;go_enter Tryz.func16,Tryz.ntmps16;go_wp2;go_ret2;exact CentsP.bad hE.out (by decide) below_auto
/-- how many digits stand ahead of k -/
def ccnt (s:ByteArray) (k:Nat):Nat:=if k≤s.size-3 then k-cfr s else k-cfr s-1
theorem ccnt_dig {s:ByteArray} {k:Nat} (_hf:4≤s.size-cfr s) (h:cfr s≤k) (hk:k < s.size) (hp:k≠s.size-3):cdig s (ccnt s k)=bat s k∧ccnt s (k+1)=ccnt s k+1∧ccnt s k < s.size-cfr s-1:=by
  unfold cdig ccnt
  by_cases hc:k≤s.size-3
  · rw [if_pos hc,if_pos (by omega),if_pos (by omega)]
    refine ⟨by congr 1;omega,by omega,by omega⟩
  · rw [if_neg hc,if_neg (by omega),if_neg (by omega)]
    refine ⟨by congr 1;omega,by omega,by omega⟩
theorem ccnt_point {s:ByteArray} (hf:4≤s.size-cfr s):ccnt s (s.size-3+1)=ccnt s (s.size-3):=by
  unfold ccnt;rw [if_neg (by omega),if_pos (by omega)];omega
theorem ccnt_end {s:ByteArray} (hf:4≤s.size-cfr s):ccnt s s.size=s.size-cfr s-1:=by
  unfold ccnt;rw [if_neg (by omega)]
theorem ccnt_start (s:ByteArray) (hf:4≤s.size-cfr s):ccnt s (cfr s)=0:=by
  unfold ccnt;rw [if_pos (by omega)];omega
theorem Refc_on (s : ByteArray) (w : World) (h : ¬ 20 < s.size) (hf : cform s = true) : Calls Tryz.prog 16 #[.string s] w (CentsP s w) := by
  have h1:¬ (20:Int) < (s.size:Int):=by omega
  have hdg:Hid (∀ k,k < s.size-cfr s-1→¬ (48≤cdig s k∧cdig s k≤57)→centsE s=3):=Lib.hid fun k hk hd=>centsE_bad h (.inr (cdigs_no hk hd))
  have hF:Hid ((∀ j,j < s.size-cfr s-1→48≤cdig s j∧cdig s j≤57)→centsE s=if cfr s=1∧cval s=0 then 3 else if 1000000000000 < cval s then 2 else 0):=Lib.hid fun hd=>by
    unfold centsE;rw [if_neg h,hf,cdigs_true.2 hd];rfl
  have hV:Hid (centsE s=0→centsV s=if cfr s=1 then-cval s else cval s):=Lib.hid fun he=>by unfold centsV;rw [if_pos he]
  unfold cform at hf;rw [decide_eq_true_eq] at hf;obtain ⟨hf4',hp3,hz⟩:=hf;have hf4:=Lib.hid hf4';have hpt:=Lib.hid (ccnt_point hf4');have hst:=Lib.hid (ccnt_start s hf4');have hce:=Lib.hid (ccnt_end hf4');have g0:0 < s.size:=by omega
  have g0':(0:Int) < (s.size:Int):=by omega
  have b0:=bat_eq (s:=s) (k:=0) g0;have i0:(0:Int)≤(s.size:Int)-3:=by omega
  have i1:(s.size:Int)-3 < (s.size:Int):=by omega
  have e3:((s.size:Int)-3).toNat=s.size-3:=by omega
  have g3:s.size-3 < s.size:=by omega
  have b3:=bat_eq (s:=s) (k:=s.size-3) g3;rw [hp3] at b3
  by_cases hd:bat s 0=45
  · have hfr:cfr s=1:=by unfold cfr;rw [if_pos ⟨g0,hd⟩]
    have hst:Hid (ccnt s 1=0):=by have:=ccnt_start s hf4';rw [hfr] at this;exact this
    rw [hfr] at hf4' hz;rw [hd] at b0;have HFR:=Lib.hid hfr;have h4':¬ (s.size:Int)-1 < 4:=by omega
    have g1:1 < s.size:=by omega
    have b1:=bat_eq (s:=s) (k:=1) g1;have g1':(1:Int) < (s.size:Int):=by omega
    have hzz:(((s[1]'g1).toNat:Int)==48)=false∨(s[1]'g1).toNat=48∧¬ (4:Int) < (s.size:Int)-1:=by rw [b1,beq_eq_false_iff_ne];omega
    clear hfr hz hp3 hd b1;rcases hzz with hz1 | ⟨hz1,hz2⟩
    all_goals
      go_enter Tryz.func16,Tryz.ntmps16;go_wp2
      try clear hz1 b0 b3 h4' i0 i1 e3
      go_loop [6,7] (fun v i=>∃ k:Nat,1≤k∧k≤s.size∧i=I k∧Hid (∀ j,j < ccnt s k→48≤cdig s j∧cdig s j≤57)∧v=I (capN (cdig s) (ccnt s k))) (fun _ i=>s.size-(intOf i).toNat)
      case atStart=>exact ⟨1,by omega,by omega,rfl,fun j hj=>by rw [hst.out] at hj;omega,by rw [hst.out];rfl⟩
      case round=>
        obtain ⟨k,hk0,hk,rfl,HD,rfl⟩:=hrel
        by_cases hlt:k < s.size
        · by_cases hp:k=s.size-3
          · have hpp:(k:Int)=(s.size:Int)-3:=by omega
            have hcp:Hid (ccnt s (k+1)=ccnt s k):=by subst hp;exact hpt.out
            have HPP:=Lib.hid hpp;have d1:((k:Int)==(s.size:Int)-3)=true:=by rw [beq_iff_eq];exact hpp
            clear hp hpp;go_wp2;exact ⟨⟨k+1,by omega,by omega,by go_num,by rw [hcp.out];exact HD,by rw [hcp.out]⟩,by simp [intOf];omega⟩
          · obtain ⟨hc1,hc2,hc3⟩:=ccnt_dig hf4.out (by have:=HFR.out;omega) hlt hp
            have d1:((k:Int)==(s.size:Int)-3)=false:=by rw [beq_eq_false_iff_ne];omega
            have hb:=bat_eq hlt;have hcb:=capN_bd (f:=cdig s) (k:=ccnt s k) HD.out;have HB:=Lib.hid (hdg.out _ hc3);have HN:=Lib.hid (show capN (cdig s) (ccnt s k+1)=min (10*capN (cdig s) (ccnt s k)+((cdig s (ccnt s k):Int)-48)) 1000000000001 from rfl);have hd0:digAt s k=inB ((bat s k:Nat):Int) 48 57:=rfl;rw [hc1] at HN HB
            by_cases hd:48≤bat s k∧bat s k≤57
            · have hD:=Lib.hid (show ∀ j,j < ccnt s (k+1)→48≤cdig s j∧cdig s j≤57 by
                intro j hj;rw [hc2] at hj
                by_cases hjk:j < ccnt s k
                · exact HD.out j hjk
                · obtain rfl:j=ccnt s k:=by omega
                  rw [hc1];exact hd)
              have hin:inB ((bat s k:Nat):Int) 48 57=true:=by rw [inB_true];omega
              have HC2:=Lib.hid hc2;obtain ⟨q0,q1⟩:=hd;have q3:IntKind.u8.wrap (((bat s k:Nat):Int)-48)=((bat s k:Nat):Int)-48:=by show (((bat s k:Nat):Int)-48)%256=_;omega
              have q4:(0:Int)≤((bat s k:Nat):Int)-48:=by omega
              have q5:((bat s k:Nat):Int)-48≤9:=by omega
              clear hc1 hc2 hd0 HB;generalize hv':capN (cdig s) (ccnt s k+1)=v' at *;have HV':=Lib.hid hv';clear hv';generalize capN (cdig s) (ccnt s k)=v at *;generalize bat s k=c at *
              by_cases hbig:1000000000000 < v*10+((c:Int)-48)
              all_goals
                go_wp2_with (go_at_call 37;refine (Digit_any _ _).mono ?_;rintro e w' ⟨rfl,rfl⟩)
                exact ⟨⟨k+1,by omega,by omega,by go_num,hD,by rw [HC2.out,HV'.out,HN.out];exact eI (by omega)⟩,by simp [intOf];omega⟩
            · have hin:inB ((bat s k:Nat):Int) 48 57=false:=by rw [inB_false];omega
              have hbad:=Lib.hid (HB.out hd);have hE:=hbad;clear hc1 hc2 hd0 HB HN hcb hbad;generalize bat s k=c at *
              go_wp2_with (go_at_call 37;refine (Digit_any _ _).mono ?_;rintro e w' ⟨rfl,rfl⟩)
              go_ret2;exact CentsP.bad hE.out (by decide) below_auto
        · have hks:k=s.size:=by omega
          subst hks;rw [hce.out] at HD;have hE2:=hF.out HD.out;rw [hce.out];change Hid (centsE s=0→centsV s=if cfr s=1 then-capN (cdig s) (s.size-cfr s-1) else capN (cdig s) (s.size-cfr s-1)) at hV;change centsE s=if cfr s=1∧capN (cdig s) (s.size-cfr s-1)=0 then 3 else if 1000000000000 < capN (cdig s) (s.size-cfr s-1) then 2 else 0 at hE2;have hcb:=capN_bd (f:=cdig s) (k:=s.size-cfr s-1) HD.out;generalize capN (cdig s) (s.size-cfr s-1)=v at *;rw [HFR.out] at hE2 hV;have HE:=Lib.hid hE2;clear hE2 hF HD hlt hk hk0 hce hst hpt hf4 hdg
          by_cases hv0:v=0
          · have hE3:Hid (centsE s=3):=by have:=HE.out;rw [if_pos ⟨rfl,hv0⟩] at this;exact this
            go_wp2;go_ret2;exact CentsP.bad hE3.out (by decide) below_auto
          · by_cases hbig:1000000000000 < v
            · have hE3:Hid (centsE s=2):=by have:=HE.out;rw [if_neg (by omega),if_pos hbig] at this;exact this
              go_wp2;go_ret2;exact CentsP.bad hE3.out (by decide) below_auto
            · have hE3:Hid (centsE s=0):=by have:=HE.out;rw [if_neg (by omega),if_neg hbig] at this;exact this
              have hV3:Hid (centsV s=- v):=by have:=hV.out hE3.out;rw [if_pos rfl] at this;exact this
              go_wp2;go_ret2;exact CentsP.ok hE3.out hV3.out below_auto
  · have hfr:cfr s=0:=by unfold cfr;rw [if_neg (fun hh=>hd hh.2)]
    have hst:Hid (ccnt s 0=0):=by have:=ccnt_start s hf4';rw [hfr] at this;exact this
    rw [hfr] at hf4' hz;have b0':¬ (s[0]'g0).toNat=45:=by rw [b0];exact hd
    have HFR:=Lib.hid hfr;have h4':¬ (s.size:Int) < 4:=by omega
    have hzz:(((s[0]'g0).toNat:Int)==48)=false∨(s[0]'g0).toNat=48∧¬ (4:Int) < (s.size:Int):=by rw [b0,beq_eq_false_iff_ne];omega
    clear hfr hz hp3 hd b0;rcases hzz with hz1 | ⟨hz1,hz2⟩
    all_goals
      go_enter Tryz.func16,Tryz.ntmps16;go_wp2
      try clear hz1 b0' b3 h4' i0 i1 e3
      go_loop [6,7] (fun v i=>∃ k:Nat,0≤k∧k≤s.size∧i=I k∧Hid (∀ j,j < ccnt s k→48≤cdig s j∧cdig s j≤57)∧v=I (capN (cdig s) (ccnt s k))) (fun _ i=>s.size-(intOf i).toNat)
      case atStart=>exact ⟨0,by omega,by omega,rfl,fun j hj=>by rw [hst.out] at hj;omega,by rw [hst.out];rfl⟩
      case round=>
        obtain ⟨k,hk0,hk,rfl,HD,rfl⟩:=hrel
        by_cases hlt:k < s.size
        · by_cases hp:k=s.size-3
          · have hpp:(k:Int)=(s.size:Int)-3:=by omega
            have hcp:Hid (ccnt s (k+1)=ccnt s k):=by subst hp;exact hpt.out
            have HPP:=Lib.hid hpp;have d1:((k:Int)==(s.size:Int)-3)=true:=by rw [beq_iff_eq];exact hpp
            clear hp hpp;go_wp2;exact ⟨⟨k+1,by omega,by omega,by go_num,by rw [hcp.out];exact HD,by rw [hcp.out]⟩,by simp [intOf];omega⟩
          · obtain ⟨hc1,hc2,hc3⟩:=ccnt_dig hf4.out (by have:=HFR.out;omega) hlt hp
            have d1:((k:Int)==(s.size:Int)-3)=false:=by rw [beq_eq_false_iff_ne];omega
            have hb:=bat_eq hlt;have hcb:=capN_bd (f:=cdig s) (k:=ccnt s k) HD.out;have HB:=Lib.hid (hdg.out _ hc3);have HN:=Lib.hid (show capN (cdig s) (ccnt s k+1)=min (10*capN (cdig s) (ccnt s k)+((cdig s (ccnt s k):Int)-48)) 1000000000001 from rfl);have hd0:digAt s k=inB ((bat s k:Nat):Int) 48 57:=rfl;rw [hc1] at HN HB
            by_cases hd:48≤bat s k∧bat s k≤57
            · have hD:=Lib.hid (show ∀ j,j < ccnt s (k+1)→48≤cdig s j∧cdig s j≤57 by
                intro j hj;rw [hc2] at hj
                by_cases hjk:j < ccnt s k
                · exact HD.out j hjk
                · obtain rfl:j=ccnt s k:=by omega
                  rw [hc1];exact hd)
              have hin:inB ((bat s k:Nat):Int) 48 57=true:=by rw [inB_true];omega
              have HC2:=Lib.hid hc2;obtain ⟨q0,q1⟩:=hd;have q3:IntKind.u8.wrap (((bat s k:Nat):Int)-48)=((bat s k:Nat):Int)-48:=by show (((bat s k:Nat):Int)-48)%256=_;omega
              have q4:(0:Int)≤((bat s k:Nat):Int)-48:=by omega
              have q5:((bat s k:Nat):Int)-48≤9:=by omega
              clear hc1 hc2 hd0 HB;generalize hv':capN (cdig s) (ccnt s k+1)=v' at *;have HV':=Lib.hid hv';clear hv';generalize capN (cdig s) (ccnt s k)=v at *;generalize bat s k=c at *
              by_cases hbig:1000000000000 < v*10+((c:Int)-48)
              all_goals
                go_wp2_with (go_at_call 37;refine (Digit_any _ _).mono ?_;rintro e w' ⟨rfl,rfl⟩)
                exact ⟨⟨k+1,by omega,by omega,by go_num,hD,by rw [HC2.out,HV'.out,HN.out];exact eI (by omega)⟩,by simp [intOf];omega⟩
            · have hin:inB ((bat s k:Nat):Int) 48 57=false:=by rw [inB_false];omega
              have hbad:=Lib.hid (HB.out hd);have hE:=hbad;clear hc1 hc2 hd0 HB HN hcb hbad;generalize bat s k=c at *
              go_wp2_with (go_at_call 37;refine (Digit_any _ _).mono ?_;rintro e w' ⟨rfl,rfl⟩)
              go_ret2;exact CentsP.bad hE.out (by decide) below_auto
        · have hks:k=s.size:=by omega
          subst hks;rw [hce.out] at HD;have hE2:=hF.out HD.out;rw [hce.out];change Hid (centsE s=0→centsV s=if cfr s=1 then-capN (cdig s) (s.size-cfr s-1) else capN (cdig s) (s.size-cfr s-1)) at hV;change centsE s=if cfr s=1∧capN (cdig s) (s.size-cfr s-1)=0 then 3 else if 1000000000000 < capN (cdig s) (s.size-cfr s-1) then 2 else 0 at hE2;have hcb:=capN_bd (f:=cdig s) (k:=s.size-cfr s-1) HD.out;generalize capN (cdig s) (s.size-cfr s-1)=v at *;rw [HFR.out] at hE2 hV;have HE:=Lib.hid hE2;clear hE2 hF HD hlt hk hk0 hce hst hpt hf4 hdg
          by_cases hbig:1000000000000 < v
          · have hE3:Hid (centsE s=2):=by have:=HE.out;rw [if_neg (by omega),if_pos hbig] at this;exact this
            go_wp2;go_ret2;exact CentsP.bad hE3.out (by decide) below_auto
          · have hE3:Hid (centsE s=0):=by have:=HE.out;rw [if_neg (by omega),if_neg hbig] at this;exact this
            have hV3:Hid (centsV s=v):=by have:=hV.out hE3.out;rw [if_neg (by omega)] at this;exact this
            go_wp2;go_ret2;exact CentsP.ok hE3.out hV3.out below_auto
theorem ReadCents_any (s:ByteArray) (w:World):Calls Tryz.prog 16 #[.string s] w (CentsP s w):=by
  by_cases h:20 < s.size
  · exact Refc_size s w h
  · cases hf:cform s
    · exact Refc_form s w h hf
    · exact Refc_on s w h hf
end Go.Proofs.YtfhmcahfjoliiaaGreatDoor
