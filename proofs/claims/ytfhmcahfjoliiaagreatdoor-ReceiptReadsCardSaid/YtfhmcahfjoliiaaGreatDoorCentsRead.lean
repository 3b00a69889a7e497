/- cents.Read -/
import Derived.Test.YtfhmcahfjoliiaaGreatDoorPk41
import Derived.Test.YtfhmcahfjoliiaaGreatDoorPk05
import Derived.Test.YtfhmcahfjoliiaaGreatDoorShelf
set_option maxRecDepth 20000
set_option maxHeartbeats 8000000
set_option linter.unusedSimpArgs false
set_option linter.unusedVariables false
namespace Go.Proofs.YtfhmcahfjoliiaaGreatDoor
open Go.RowKit

/-- the variable of the library's that strings.Index reads holds some number -/
def MaxOk (w:World):Prop:=∃ m,w.cell? ⟨0,0,none⟩=some (I m)
/-- strings.CutPrefix at "-": the body, and whether there was a sign -/
theorem cutSign (s:ByteArray) (w:World):Calls Tryz.prog 25 #[.string s,.string ⟨#[45]⟩] w (Pure (T2 (.string (cbody s)) (.bool (decide (cfr s=1)))) w):=by
  refine (Tryz.strings_CutPrefix s ⟨#[45]⟩ w).mono ?_;rintro e w' ⟨rfl,rfl⟩;refine ⟨?_,rfl⟩
  by_cases h:0 < s.size∧bat s 0=45
  · obtain ⟨h1,h2⟩:=pre1_yes s 45 h.1 h.2
    have hf:cfr s=1:=by unfold cfr;rw [if_pos h]
    have e1:cbody s=s.extract 1 s.size:=by unfold cbody;rw [if_pos hf]
    rw [e1,← h1,hf];show Ending.returned (.tuple #[_,.bool (Go.Lib.hasPrefix s.data.toList [45])])=_;rw [h2];rfl
  · obtain ⟨h1,h2⟩:=pre1_no s 45 h
    have hf:cfr s=0:=by unfold cfr;rw [if_neg h]
    have e1:cbody s=s:=by unfold cbody;rw [hf];rfl
    rw [e1,hf];show Ending.returned (.tuple #[.string ⟨(Go.Lib.trimPrefix s.data.toList [45]).toArray⟩,.bool (Go.Lib.hasPrefix s.data.toList [45])])=_;rw [h1,h2];rfl
def CutP (a b:ByteArray) (ok:Bool) (w:World) (e:Ending) (w':World):Prop:=e=.returned (T3 (.string a) (.string b) (.bool ok))∧∃ n,w'=w.drewN n
/-- strings.Cut at one byte that is not there -/
theorem cutMiss (s:ByteArray) (c:UInt8) (w:World) (hm:MaxOk w) (hs:s.size < 4294967281) (h:Go.Lib.index s.data.toList [c]=-1):Calls Tryz.prog 7 #[.string s,.string ⟨#[c]⟩] w (CutP s ⟨#[]⟩ false w):=by
  obtain ⟨m,hm⟩:=hm;refine (Tryz.strings_Cut s ⟨#[c]⟩ m w hs hm).mono ?_;rintro e w' ⟨rfl,hw⟩;obtain ⟨h1,h2,h3⟩:=cut1_miss s c h;refine ⟨?_,hw⟩;show Ending.returned (.tuple #[.string ⟨(Go.Lib.cut s.data.toList [c]).1.toArray⟩,.string ⟨(Go.Lib.cut s.data.toList [c]).2.1.toArray⟩,.bool (Go.Lib.cut s.data.toList [c]).2.2])=_;rw [h1,h2,h3]
theorem cutHit (s:ByteArray) (c:UInt8) (i:Nat) (w:World) (hm:MaxOk w) (hs:s.size < 4294967281) (h:Go.Lib.index s.data.toList [c]=i):Calls Tryz.prog 7 #[.string s,.string ⟨#[c]⟩] w (CutP (s.extract 0 i) (s.extract (i+1) s.size) true w):=by
  obtain ⟨m,hm⟩:=hm;refine (Tryz.strings_Cut s ⟨#[c]⟩ m w hs hm).mono ?_;rintro e w' ⟨rfl,hw⟩;obtain ⟨h1,h2,h3⟩:=cut1_hit s c i h;refine ⟨?_,hw⟩;show Ending.returned (.tuple #[.string ⟨(Go.Lib.cut s.data.toList [c]).1.toArray⟩,.string ⟨(Go.Lib.cut s.data.toList [c]).2.1.toArray⟩,.bool (Go.Lib.cut s.data.toList [c]).2.2])=_;rw [h1,h2,h3]
theorem centsE_zeroV {s:ByteArray} (h:centsE s≠0):centsV s=0:=by unfold centsV;rw [if_neg h]
def CentsP (s:ByteArray) (w:World) (e:Ending) (w':World):Prop:=Grew (T2 (I (centsV s)) (I (centsE s))) w e w'
theorem CentsP.bad {s:ByteArray} {w w':World} {k:Int} (h:centsE s=k) (hk:k≠0) (hb:Below w.heap.size w w'):CentsP s w (.returned (T2 (I 0) (I k))) w':=by
  refine ⟨?_,hb⟩;rw [centsE_zeroV (by rw [h];exact hk),h]
theorem CentsP.ok {s:ByteArray} {w w':World} {v:Int} (h:centsE s=0) (hv:centsV s=v) (hb:Below w.heap.size w w'):CentsP s w (.returned (T2 (I v) (I 0))) w':=by
  refine ⟨?_,hb⟩;rw [hv,h]
theorem Cents_size (s:ByteArray) (w:World) (h:20 < s.size):Calls Tryz.prog 11 #[.string s] w (CentsP s w):=by
  have hE:=Lib.hid (show centsE s=1 by unfold centsE;rw [if_pos h]);have h1:(20:Int) < (s.size:Int):=by omega
  go_enter Tryz.func11,Tryz.ntmps11;go_wp2;go_ret2;exact CentsP.bad hE.out (by decide) below_auto
theorem Cents_miss (s:ByteArray) (w:World) (hm:MaxOk w) (h:¬ 20 < s.size) (hi:Go.Lib.index (cbody s).data.toList [46]=-1):Calls Tryz.prog 11 #[.string s] w (CentsP s w):=by
  have hsz:=cbody_size s
  have hE:=Lib.hid (show centsE s=3 by
    rcases index1 (cbody s) 46 with ⟨_,hn⟩ | ⟨i,hh,_⟩
    · exact cents_nopoint h hn
    · rw [hi] at hh;omega)
  have S:=Lib.hid (fun W=>cutSign s W);have C:=Lib.hid (fun W hW=>cutMiss (cbody s) 46 W hW (by omega) hi);have h1:¬ (20:Int) < (s.size:Int):=by omega
  clear hsz hi h;generalize cbody s=b at *;generalize decide (cfr s=1)=sg at *;go_enter Tryz.func11,Tryz.ntmps11
  go_wp2_with fail
  refine (S.out _).mono ?_;rintro e w' ⟨rfl,rfl⟩
  go_wp2_with fail
  refine (C.out _ hm).mono ?_;rintro e w' ⟨rfl,n,rfl⟩;go_wp2;go_ret2;exact CentsP.bad hE.out (by decide) below_auto

/-- a point, but not there where it belongs -/
theorem Cents_off (s:ByteArray) (w:World) (hm:MaxOk w) (h:¬ 20 < s.size) (i:Nat) (hi:Go.Lib.index (cbody s).data.toList [46]=i) (hil:i < (cbody s).size) (hb:i=0∨(cbody s).size≠i+3∨1 < i∧bat (cbody s) 0=48):Calls Tryz.prog 11 #[.string s] w (CentsP s w):=by
  have hsz:=cbody_size s
  have hE:=Lib.hid (show centsE s=3 by
    rcases index1 (cbody s) 46 with ⟨hh,hn⟩ | ⟨j,hh,h1,h2,h3⟩
    · rw [hi] at hh;omega
    · obtain rfl:i=j:=by rw [hi] at hh;omega
      exact cents_point h h1 h2 h3 hb)
  have S:=Lib.hid (fun W=>cutSign s W);have C:=Lib.hid (fun W hW=>cutHit (cbody s) 46 i W hW (by omega) hi);have h1:¬ (20:Int) < (s.size:Int):=by omega
  have hbl:(cbody s).size≤20:=by omega
  clear hsz hi h;generalize cbody s=b at *;generalize decide (cfr s=1)=sg at *;have s1:=size_extract b 0 i (by omega);have s2:=size_extract b (i+1) b.size (Nat.le_refl _);have b0:0 < i→bat (b.extract 0 i) 0=bat b 0:=fun h0=>by rw [bat_extract b 0 i 0 (by omega) (by omega)]
  by_cases h0:i=0
  · have he:(b.extract 0 i).toList=[]:=by
      have:b.extract 0 i=⟨#[]⟩:=by apply ByteArray.ext;apply Array.eq_empty_of_size_eq_zero;show (b.extract 0 i).size=0;omega
      rw [this,ByteArray.toList_eq]
    generalize b.extract 0 i=wh at *;generalize b.extract (i+1) b.size=la at *;clear b0 hb s1 s2;go_enter Tryz.func11,Tryz.ntmps11
    go_wp2_with fail
    refine (S.out _).mono ?_;rintro e w' ⟨rfl,rfl⟩
    go_wp2_with fail
    refine (C.out _ hm).mono ?_;rintro e w' ⟨rfl,n,rfl⟩;go_wp2;go_ret2;exact CentsP.bad hE.out (by decide) below_auto
  · have he:(b.extract 0 i).toList.isEmpty=false:=by
      have:=empty_toList (s:=b.extract 0 i) (by omega);cases hh:(b.extract 0 i).toList with
      | nil=>rw [hh] at this;cases this
      | cons=>rfl
    have he2:=empty_toList (s:=b.extract 0 i) (by omega)
    by_cases h2:b.size=i+3
    · have hz:=(hb.resolve_left h0).resolve_left (by omega)
      have b1':=b0 (by omega);rw [hz.2] at b1';have l1:((b.extract 0 i).size:Int)=(i:Int):=by omega
      have l2:((b.extract (i+1) b.size).size:Int)=2:=by omega
      have g1:(1:Int) < (i:Int):=by omega
      have g0:0 < (b.extract 0 i).size:=by omega
      generalize b.extract 0 i=wh at *;generalize b.extract (i+1) b.size=la at *;have b1:=bat_eq (s:=wh) (k:=0) g0;rw [b1'] at b1;clear b0 hb s1 s2 hz b1';go_enter Tryz.func11,Tryz.ntmps11
      go_wp2_with fail
      refine (S.out _).mono ?_;rintro e w' ⟨rfl,rfl⟩
      go_wp2_with fail
      refine (C.out _ hm).mono ?_;rintro e w' ⟨rfl,n,rfl⟩;go_wp2;go_ret2;exact CentsP.bad hE.out (by decide) below_auto
    · have l2:¬ ((b.extract (i+1) b.size).size:Int)=2:=by omega
      generalize b.extract 0 i=wh at *;generalize b.extract (i+1) b.size=la at *;clear b0 hb s1 s2;go_enter Tryz.func11,Tryz.ntmps11
      go_wp2_with fail
      refine (S.out _).mono ?_;rintro e w' ⟨rfl,rfl⟩
      go_wp2_with fail
      refine (C.out _ hm).mono ?_;rintro e w' ⟨rfl,n,rfl⟩;go_wp2;go_ret2;exact CentsP.bad hE.out (by decide) below_auto

/-- what the round hands on -/
def CRel (u:ByteArray) (g:Nat) (W:World) (k:Nat) (wr:World):Prop:=(∀ j,j < k→48≤bat u j∧bat u j≤57)∧wr.heap[g]?=some (.stringIter u k)∧Below W.heap.size W wr
theorem CRel.start {u:ByteArray} {W w:World} {g:Nat} (hg:w.heap.size=g) (h:Below W.heap.size W w):CRel u g W 0 (w.iter u 0):=
  ⟨fun j hj=>by omega,hg▸World.iter_heap w u 0,h.trans ((iter_below w u 0).mono h.size)⟩
theorem Cents_on (s : ByteArray) (w : World) (hm : MaxOk w) (h : ¬ 20 < s.size) (i : Nat) (hi : Go.Lib.index (cbody s).data.toList [46] = i) (hil : i < (cbody s).size) (h0 : i ≠ 0) (hl : (cbody s).size = i + 3) (hz : ¬ (1 < i ∧ bat (cbody s) 0 = 48)) : Calls Tryz.prog 11 #[.string s] w (CentsP s w) := by
  have hsz:=cbody_size s
  have hat:bat (cbody s) i=46:=by
    rcases index1 (cbody s) 46 with ⟨hh,hn⟩ | ⟨j,hh,h1,h2,h3⟩
    · rw [hi] at hh;omega
    · obtain rfl:i=j:=by rw [hi] at hh;omega
      exact h2
  have hform:=cform_true hil hat h0 hl hz;have h4:4≤(cbody s).size:=by omega
  have hts:=ctext_size h4;have htat:=fun k=>ctext_at (s:=s) h4 (k:=k);have hlen:(ctext s).size≤20:=by omega
  have hct:ctext s=(cbody s).extract 0 i++(cbody s).extract (i+1) (cbody s).size:=by
    unfold ctext;rw [show (cbody s).size-3=i by omega]
  have hE:Hid (∀ k,k < (ctext s).size→¬ (48≤bat (ctext s) k∧bat (ctext s) k≤57)→centsE s=3):=Lib.hid fun k hk hd=>
    centsE_bad h (.inr (cdigs_no (k:=k) (by omega) (by rw [← htat k hk];exact hd)))
  have hF:Hid ((∀ j,j < (ctext s).size→48≤bat (ctext s) j∧bat (ctext s) j≤57)→centsE s=if cfr s=1∧capN (bat (ctext s)) (ctext s).size=0 then 3 else if 1000000000000 < capN (bat (ctext s)) (ctext s).size then 2 else 0):=Lib.hid fun hd=>by
    have hv:cval s=capN (bat (ctext s)) (ctext s).size:=by
      unfold cval;rw [← hts];exact (capN_congr (fun j hj=>htat j hj)).symm
    have hds:cdigs s=true:=cdigs_true.2 fun k hk=>by rw [← htat k (by omega)];exact hd k (by omega)
    unfold centsE;rw [if_neg h,hform,hds,← hv];rfl
  have hV:Hid (centsE s=0→centsV s=if cfr s=1 then-capN (bat (ctext s)) (ctext s).size else capN (bat (ctext s)) (ctext s).size):=Lib.hid fun he=>by
    have hv:cval s=capN (bat (ctext s)) (ctext s).size:=by
      unfold cval;rw [← hts];exact (capN_congr (fun j hj=>htat j hj)).symm
    unfold centsV;rw [if_pos he,hv]
  have S:=Lib.hid (fun W=>cutSign s W);have C:=Lib.hid (fun W hW=>cutHit (cbody s) 46 i W hW (by omega) hi);have h1:¬ (20:Int) < (s.size:Int):=by omega
  have s1:=size_extract (cbody s) 0 i (by omega);have s2:=size_extract (cbody s) (i+1) (cbody s).size (Nat.le_refl _);have b0:bat ((cbody s).extract 0 i) 0=bat (cbody s) 0:=by rw [bat_extract (cbody s) 0 i 0 (by omega) (by omega)]
  have g0:0 < ((cbody s).extract 0 i).size:=by omega
  have l1:(((cbody s).extract 0 i).size:Int)=(i:Int):=by omega
  have l2:(((cbody s).extract (i+1) (cbody s).size).size:Int)=2:=by omega
  have he:((cbody s).extract 0 i).toList.isEmpty=false:=by
    have:=empty_toList (s:=(cbody s).extract 0 i) (by omega);cases hh:((cbody s).extract 0 i).toList with
    | nil=>rw [hh] at this;cases this
    | cons=>rfl
  have he2:=empty_toList (s:=(cbody s).extract 0 i) (by omega);rw [← b0] at hz;clear hts htat hform hat hi hsz h b0 h4 hil hl s1 s2;have hct':=Lib.hid hct.symm;clear hct;generalize ctext s=u at *;generalize (cbody s).extract 0 i=wh at *;generalize (cbody s).extract (i+1) (cbody s).size=la at *;generalize cbody s=b at *;obtain ⟨sg,hsg⟩:∃ sg,sg=decide (cfr s=1):=⟨_,rfl⟩;rw [← hsg] at S;have HSG:=Lib.hid hsg;clear hsg
  have hz1:¬ (1:Int) < (i:Int)∨(1:Int) < (i:Int)∧¬ (wh[0]'g0).toNat=48:=by
    have:=bat_eq (s:=wh) (k:=0) g0;rw [this];omega
  clear hz
  have hcs:¬ 9223372036854775807 < wh.size+la.size:=by
    have:=congrArg ByteArray.size hct'.out;rw [ByteArray.size_append] at this;omega
  rcases hz1 with hz1 | ⟨hz1,hz2⟩
  all_goals
    go_enter Tryz.func11,Tryz.ntmps11
    go_wp2_with fail
    refine (S.out _).mono ?_;rintro e w' ⟨rfl,rfl⟩
    go_wp2_with fail
    refine (C.out _ hm).mono ?_;rintro e w' ⟨rfl,n,rfl⟩;go_wp2;rw [hct'.out];have kW:Below w.heap.size w (w.drewN n):=drewN_below (Below.refl _ w) n;have hsz0:=Lib.hid (show (w.drewN n).heap.size=w.heap.size from rfl);generalize w.drewN n=w2 at *;clear hct' C S hm he he2
    go_loopw [9,11] (fun nv _ wr=>∃ k:Nat,k≤u.size∧nv=I (capN (bat u) k)∧Hid (CRel u w.heap.size w k wr)) (fun _ _ wr=>u.size-wr.iterPos w.heap.size)
    case atStart=>exact ⟨0,Nat.zero_le _,rfl,CRel.start hsz0.out kW⟩
    case round=>
      obtain ⟨k,hk,rfl,hR⟩:=hrel;obtain ⟨hdg,hit,hbw⟩:=hR.out;have HD:=Lib.hid hdg;clear hdg hR
      by_cases hlt:k < u.size
      · by_cases ha:bat u k < 128
        · have hnx:=next_ascii_at (P:=Tryz.prog) hit hlt ha
          by_cases hd:48≤bat u k∧bat u k≤57
          · obtain ⟨d0,d1⟩:=hd
            have hcb:=capN_bd (f:=bat u) (k:=k) HD.out
            have hnew:Hid (CRel u w.heap.size w (k+1) (iterTo wr w.heap.size u (k+1))):=⟨fun j hj=>by
              by_cases hjk:j < k
              · exact HD.out j hjk
              · obtain rfl:j=k:=by omega
                exact ⟨d0,d1⟩,iterTo_at hit,iterTo_below hbw (by omega) u (k+1)⟩
            have hpos:=iterTo_pos (q:=k+1) hit;have HS:=Lib.hid (show capN (bat u) (k+1)=min (10*capN (bat u) k+((bat u k:Int)-48)) 1000000000001 from rfl);have q1:¬ ((bat u k:Nat):Int) < 48:=by omega
            have q2:¬ (57:Int) < ((bat u k:Nat):Int):=by omega
            have q3:IntKind.i32.wrap (((bat u k:Nat):Int)-48)=((bat u k:Nat):Int)-48:=by simp [IntKind.wrap,IntKind.bits,IntKind.signed];omega
            have q4:(0:Int)≤((bat u k:Nat):Int)-48:=by omega
            have q5:((bat u k:Nat):Int)-48≤9:=by omega
            have hp0:=Lib.hid (iter_pos hit);have hp1:=Lib.hid hpos;clear hpos;generalize hv':capN (bat u) (k+1)=v' at *;have HV':=Lib.hid hv';clear hv';generalize capN (bat u) k=v at *;generalize bat u k=c at *;go_wp2;refine ⟨⟨k+1,by omega,?_,hnew⟩,?_⟩
            · rw [HV'.out,HS.out];exact eI (by omega)
            · rw [hp1.out,hp0.out];omega
          · have hbad:=Lib.hid (hE.out k hlt hd)
            have kI:=iterTo_below hbw (show w.heap.size≤w.heap.size by omega) u (k+1)
            by_cases q1:bat u k < 48
            · have q1':((bat u k:Nat):Int) < 48:=by omega
              clear hd;generalize bat u k=c at *;go_wp2;go_ret2;exact CentsP.bad hbad.out (by decide) kI
            · have q1':¬ ((bat u k:Nat):Int) < 48:=by omega
              have q2':(57:Int) < ((bat u k:Nat):Int):=by omega
              clear hd;generalize bat u k=c at *;go_wp2;go_ret2;exact CentsP.bad hbad.out (by decide) kI
        · obtain ⟨r,q,r0,r1,hnx⟩:=next_high_at (P:=Tryz.prog) hit hlt ha
          have hbad:=Lib.hid (hE.out k hlt (by omega));have kI:=iterTo_below hbw (show w.heap.size≤w.heap.size by omega) u q;have q1':¬ (r:Int) < 48:=by omega
          have q2':(57:Int) < (r:Int):=by omega
          go_wp2;go_ret2;exact CentsP.bad hbad.out (by decide) kI
      · have hnx:=next_end_at (P:=Tryz.prog) hit hlt
        have hks:k=u.size:=by omega
        subst hks;have hE2:=hF.out HD.out;have hcb:=capN_bd (f:=bat u) (k:=u.size) HD.out;generalize capN (bat u) u.size=v at *;have HE:=Lib.hid hE2;clear hE2 hF hE hit hlt hk HD
        by_cases hc:cfr s=1
        · have hsg:sg=true:=by rw [HSG.out];simpa using hc
          subst hsg
          by_cases hv0:v=0
          · have hE3:Hid (centsE s=3):=by have:=HE.out;rw [if_pos ⟨hc,hv0⟩] at this;exact this
            clear hc HSG;go_wp2;go_ret2;exact CentsP.bad hE3.out (by decide) hbw
          · by_cases hbig:1000000000000 < v
            · have hE3:Hid (centsE s=2):=by have:=HE.out;rw [if_neg (by omega),if_pos hbig] at this;exact this
              clear hc HSG;go_wp2;go_ret2;exact CentsP.bad hE3.out (by decide) hbw
            · have hE3:Hid (centsE s=0):=by have:=HE.out;rw [if_neg (by omega),if_neg hbig] at this;exact this
              have hV3:Hid (centsV s=- v):=by have:=hV.out hE3.out;rw [if_pos hc] at this;exact this
              clear hc HSG;go_wp2;go_ret2;exact CentsP.ok hE3.out hV3.out hbw
        · have hsg:sg=false:=by rw [HSG.out];simpa using hc
          subst hsg
          by_cases hbig:1000000000000 < v
          · have hE3:Hid (centsE s=2):=by have:=HE.out;rw [if_neg (by omega),if_pos hbig] at this;exact this
            clear hc HSG;go_wp2;go_ret2;exact CentsP.bad hE3.out (by decide) hbw
          · have hE3:Hid (centsE s=0):=by have:=HE.out;rw [if_neg (by omega),if_neg hbig] at this;exact this
            have hV3:Hid (centsV s=v):=by have:=hV.out hE3.out;rw [if_neg hc] at this;exact this
            clear hc HSG;go_wp2;go_ret2;exact CentsP.ok hE3.out hV3.out hbw
theorem Cents_any (s:ByteArray) (w:World) (hm:MaxOk w):Calls Tryz.prog 11 #[.string s] w (CentsP s w):=by
  by_cases h:20 < s.size
  · exact Cents_size s w h
  · rcases index1 (cbody s) 46 with ⟨hi,_⟩ | ⟨i,hi,hil,_,_⟩
    · exact Cents_miss s w hm h hi
    · by_cases hb:i=0∨(cbody s).size≠i+3∨1 < i∧bat (cbody s) 0=48
      · exact Cents_off s w hm h i hi hil hb
      · exact Cents_on s w hm h i hi hil (by omega) (by omega) (by omega)
end Go.Proofs.YtfhmcahfjoliiaaGreatDoor
