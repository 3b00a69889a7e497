/- receipt.Show -/
import Derived.Test.YtfhmcahfjoliiaaGreatDoorPk28
import Derived.Test.YtfhmcahfjoliiaaGreatDoorRecNum
import Derived.Test.YtfhmcahfjoliiaaGreatDoorPaper
import Derived.Test.YtfhmcahfjoliiaaGreatDoorPk36
set_option maxRecDepth 20000
set_option maxHeartbeats 8000000
set_option linter.unusedSimpArgs false
set_option linter.unusedVariables false
namespace Go.Proofs.YtfhmcahfjoliiaaGreatDoor
open Go Go.RowKit

theorem Own.belowB {w w':World} {B g:Nat} {cs:List Value} (h:Own w g cs) (hb:Below B w w') (hg:g < B):Own w' g cs:=by
  unfold Own at h ⊢;rw [hb.block g hg];exact h
abbrev kMETER:ByteArray:=⟨#[77,69,84,69,82]⟩
abbrev kNUMBER:ByteArray:=⟨#[78,85,77,66,69,82]⟩
abbrev kTENDER:ByteArray:=⟨#[84,69,78,68,69,82]⟩
abbrev kDEBT:ByteArray:=⟨#[68,69,66,84]⟩
abbrev kFEE:ByteArray:=⟨#[70,69,69]⟩
abbrev kPRICE:ByteArray:=⟨#[80,82,73,67,69]⟩
abbrev kCHANGE:ByteArray:=⟨#[67,72,65,78,71,69]⟩
abbrev kUNITS:ByteArray:=⟨#[85,78,73,84,83]⟩
abbrev kTOKEN:ByteArray:=⟨#[84,79,75,69,78]⟩
/-- the paper's text -/
def recTxt (me id te de fe pr ch un:Int) (s:ByteArray):ByteArray:=
  lineS (lineS (lineS (lineS (lineS (lineS (lineS (lineS (lineS ⟨#[]⟩ kMETER (numV me)) kNUMBER (decS id.toNat)) kTENDER (showV te)) kDEBT (showV de)) kFEE (showV fe)) kPRICE (showV pr)) kCHANGE (showV ch)) kUNITS (decS un.toNat)) kTOKEN (grpS s)
def recSE (me id te de fe pr ch un:Int) (s:ByteArray):Int:=recE me id te de fe pr ch un (parT s) (parE s)
def recST (me id te de fe pr ch un:Int) (s:ByteArray):ByteArray:=if recSE me id te de fe pr ch un s=0 then recTxt me id te de fe pr ch un s else ⟨#[]⟩
def RecSP (me id te de fe pr ch un:Int) (s:ByteArray) (w:World) (e:Ending) (w':World):Prop:=Grew (T2 (.string (recST me id te de fe pr ch un s)) (I (recSE me id te de fe pr ch un s))) w e w'
theorem RecSP.bad {me id te de fe pr ch un:Int} {s:ByteArray} {w w':World} {k:Int} (h:recSE me id te de fe pr ch un s=k) (hk:k≠0) (hb:Below w.heap.size w w'):RecSP me id te de fe pr ch un s w (.returned (T2 (.string ⟨#[]⟩) (I k))) w':=by
  unfold RecSP recST;rw [h,if_neg hk];exact ⟨rfl,hb⟩
theorem RecSP.good {me id te de fe pr ch un:Int} {s:ByteArray} {w w':World} {t:ByteArray} (h:recSE me id te de fe pr ch un s=0) (ht:recTxt me id te de fe pr ch un s=t) (hb:Below w.heap.size w w'):RecSP me id te de fe pr ch un s w (.returned (T2 (.string t) (I 0))) w':=by
  unfold RecSP recST;rw [h,if_pos rfl,ht];exact ⟨rfl,hb⟩
theorem recSE_zero {me id te de fe pr ch un : Int} {s : ByteArray} (h : recSE me id te de fe pr ch un s = 0) : (0 ≤ me ∧ me ≤ 49) ∧ (1 ≤ id ∧ id ≤ 1048575) ∧ (0 ≤ un ∧ un ≤ 2097151) ∧ s.size = 20 := by
  unfold recSE recE at h
  split at h
  · cases h
  · rename_i h1
    split at h
    · cases h
    · split at h
      · cases h
      · rename_i h3
        split at h
        · cases h
        · split at h
          · rename_i h5;exact absurd h h5
          · rename_i h5
            have h6:parE s=0:=Decidable.byContradiction h5
            have h7:s.size=20:=by
              unfold parE at h6
              split at h6
              · assumption
              · cases h6
            refine ⟨by omega,by omega,by omega,h7⟩
theorem numV_size (n:Int):(numV n).size≤40:=by
  unfold numV
  split
  · rename_i h
    rw [inB_true] at h;rw [ByteArray.size_append,numS_size _ (by omega)]
    have hd:(decS (numD n.toNat)).size≤19:=decS_20 (by
      unfold numD;have:=chkA_bd (numS n.toNat)
      omega)
    omega
  · decide
theorem centsS_size (n:Int) (h:n.natAbs≤1000000000000):(centsS n).size≤61:=by
  have hb:(bodyS n.natAbs).size≤58:=by
    unfold bodyS;have hs:=decS_20 (n:=n.natAbs / 100) (by omega);have hs1:=decS_20 (n:=n.natAbs / 10%10) (by omega);have hs2:=decS_20 (n:=n.natAbs%10) (by omega);rw [ByteArray.size_append,ByteArray.size_append,ByteArray.size_append];have:(⟨#[46]⟩:ByteArray).size=1:=rfl;omega
  unfold centsS
  split
  · rw [ByteArray.size_append]
    have:(⟨#[45]⟩:ByteArray).size=1:=rfl;omega
  · omega
theorem showV_size (n:Int):(showV n).size≤61:=by
  unfold showV
  split
  · rename_i h
    rw [inB_true] at h;exact centsS_size n (by omega)
  · decide
theorem money_any (b:Nat) (s name:ByteArray) (n:Int) (w:World) (h:Pap b s w) (ht:PowTab w) (hlen:s.size+name.size≤100000):
    Calls Tryz.prog 30 #[.string name,I n,.pointer (some ⟨b,0,none⟩)] w (LineP b s name (showV n) w):=by
  have S:=Lib.hid (Show_any n w ht);unfold ShowP at S;have hv:=showV_size n;have L:=Lib.hid (fun W hW=>line_any b s name (showV n) W hW (by omega));unfold LineP at L;have hbl:=h.lt;have H:=Lib.hid h;generalize showV n=v at *;generalize showE n=e0 at *;clear h ht;go_enter Tryz.func30,Tryz.ntmps30
  go_wp2_with fail
  refine S.out.mono ?_;rintro e w1 ⟨rfl,k1⟩
  go_wp2_with fail
  refine (L.out _ (H.out.below k1)).mono ?_;rintro e w2 ⟨rfl,h2,k2⟩;have kk:=(k1.mono (show b≤w.heap.size by omega)).trans k2;clear k1 k2;go_wp2
  go_end0
  exact ⟨rfl,h2,kk⟩
theorem Show_good (m id un:Nat) (te de fe pr ch:Int) (s:ByteArray) (w:World) (ht:PowTab w) (h0:recSE m id te de fe pr ch un s=0):Calls Tryz.prog 12 #[recV m id te de fe pr ch un s] w (RecSP m id te de fe pr ch un s w):=by
  obtain ⟨z1,z2,z3,hs20⟩:=recSE_zero h0;have H0:=Lib.hid h0;have C:=Lib.hid (fun W=>Check_any m id te de fe pr ch un s W);unfold RP at C;have e0:recE m id te de fe pr ch un (parT s) (parE s)=0:=h0;rw [e0] at C;have HT:=Lib.hid ht;have NU:=Lib.hid (fun W hW=>Number_any m W hW);unfold NumP at NU;have IA:=Lib.hid (fun W hW=>Itoa_nat id W (by omega) hW);have IB:=Lib.hid (fun W hW=>Itoa_nat un W (by omega) hW);have GR:=Lib.hid (fun W=>grouped_any s W hs20);have q1:=numV_size (m:Int);have q2:=decS_20 (n:=id) (by omega);have q3:=decS_20 (n:=un) (by omega);have q4:=grp_len s hs20;have HTX:=Lib.hid (show recTxt m id te de fe pr ch un s=lineS (lineS (lineS (lineS (lineS (lineS (lineS (lineS (lineS ⟨#[]⟩ kMETER (numV m)) kNUMBER (decS id)) kTENDER (showV te)) kDEBT (showV de)) kFEE (showV fe)) kPRICE (showV pr)) kCHANGE (showV ch)) kUNITS (decS un)) kTOKEN (grpS s) from rfl);have q5:=showV_size te;have q6:=showV_size de;have q7:=showV_size fe;have q8:=showV_size pr;have q9:=showV_size ch;generalize numV (m:Int)=nv at *;generalize nmbE (m:Int)=ne at *;generalize decS id=dv at *;generalize decS un=uv at *;generalize grpS s=gv at *;obtain ⟨T1,hT1⟩:∃ T,T=lineS ⟨#[]⟩ kMETER nv:=⟨_,rfl⟩;obtain ⟨T2',hT2⟩:∃ T,T=lineS T1 kNUMBER dv:=⟨_,rfl⟩;obtain ⟨T3,hT3⟩:∃ T,T=lineS T2' kTENDER (showV te):=⟨_,rfl⟩;obtain ⟨T4,hT4⟩:∃ T,T=lineS T3 kDEBT (showV de):=⟨_,rfl⟩;obtain ⟨T5,hT5⟩:∃ T,T=lineS T4 kFEE (showV fe):=⟨_,rfl⟩;obtain ⟨T6,hT6⟩:∃ T,T=lineS T5 kPRICE (showV pr):=⟨_,rfl⟩;obtain ⟨T7,hT7⟩:∃ T,T=lineS T6 kCHANGE (showV ch):=⟨_,rfl⟩;obtain ⟨T8,hT8⟩:∃ T,T=lineS T7 kUNITS uv:=⟨_,rfl⟩;obtain ⟨T9,hT9⟩:∃ T,T=lineS T8 kTOKEN gv:=⟨_,rfl⟩;have hE9:=HTX.out;rw [← hT1,← hT2,← hT3,← hT4,← hT5,← hT6,← hT7,← hT8,← hT9] at hE9;have c1:T1.size≤100:=by rw [hT1,lineS_size];show 0+5+_+2≤_;omega
  have c2:T2'.size≤200:=by rw [hT2,lineS_size];show _+6+_+2≤_;omega
  have c3:T3.size≤300:=by rw [hT3,lineS_size];show _+6+_+2≤_;omega
  have c4:T4.size≤400:=by rw [hT4,lineS_size];show _+4+_+2≤_;omega
  have c5:T5.size≤500:=by rw [hT5,lineS_size];show _+3+_+2≤_;omega
  have c6:T6.size≤600:=by rw [hT6,lineS_size];show _+5+_+2≤_;omega
  have c7:T7.size≤700:=by rw [hT7,lineS_size];show _+6+_+2≤_;omega
  have c8:T8.size≤800:=by rw [hT8,lineS_size];show _+5+_+2≤_;omega
  have c9:0 < T9.size:=by rw [hT9,lineS_size];omega
  have HE9:=Lib.hid hE9;have HT1:=Lib.hid hT1;have HT2:=Lib.hid hT2;have HT3:=Lib.hid hT3;have HT4:=Lib.hid hT4;have HT5:=Lib.hid hT5;have HT6:=Lib.hid hT6;have HT7:=Lib.hid hT7;have HT8:=Lib.hid hT8;have HT9:=Lib.hid hT9;have kB:=boxed_below w (.cells #[I m,I id,I te,I de,I fe,I pr,I ch,I un,.string s] 25);have oR:=Own.new (w:=w) rfl [I m,I id,I te,I de,I fe,I pr,I ch,I un,.string s] 25;have HV:=Lib.hid (And.intro q1 (And.intro q2 (And.intro q3 q4)));have HC9:=Lib.hid c9;clear hT1 hT2 hT3 hT4 hT5 hT6 hT7 hT8 hT9 hE9 HTX ht h0 e0 z1 z2 z3 q5 q6 q7 q8 q9 c9;have KB:=Lib.hid kB;have OR0:=Lib.hid oR;have rO:=oR;have rA:=rO.s9;clear rO;clear kB oR;go_enter Tryz.func12,Tryz.ntmps12
  go_wp2_with fail
  refine (C.out _).mono ?_;rintro e w1 ⟨rfl,k1⟩;have OR:=Lib.hid ((OR0.out.below k1).alloc (.cells #[.pointer none,.slice none 0 0] 62));have kk1:=KB.out.trans (k1.mono KB.out.size);have KK:=Lib.hid (kk1.trans ((boxed_below w1 (.cells #[.pointer none,.slice none 0 0] 62)).mono kk1.size));have P0:=Lib.hid (pap_fresh w1);have hbr:w.heap.size < w1.heap.size:=(OR0.out.below k1).lt;have hbb:w.heap.size≤w1.heap.size:=kk1.size;clear rA k1 kk1 C OR0 KB;have rO:=OR.out;have rA:=rO.s9;clear rO
  go_wp2_with fail
  refine (NU.out _ (HT.out.below KK.out)).mono ?_;rintro e w2 ⟨rfl,k2⟩;have OR:=Lib.hid (OR.out.below k2);have KK:=Lib.hid (KK.out.trans (k2.mono KK.out.size));have P1:=Lib.hid (P0.out.below k2);clear rA k2 NU P0;have rO:=OR.out;have rA:=rO.s9;clear rO
  go_wp2_with fail
  refine (line_any _ ⟨#[]⟩ kMETER nv _ P1.out (by have:=HV.out.1;show 0+5+_+2≤_;omega)).mono ?_;rintro e wN ⟨rfl,hp,kp⟩;have OR:=Lib.hid (OR.out.belowB kp hbr);have KK:=Lib.hid (KK.out.trans (kp.mono hbb));rw [← HT1.out] at hp;have PA:=Lib.hid hp;clear hp kp rA;have rO:=OR.out;have rA:=rO.s9;clear rO
  go_wp2_with fail
  refine (IA.out _ (HT.out.below KK.out)).mono ?_;rintro e w4 ⟨rfl,k4⟩;have OR:=Lib.hid (OR.out.below k4);have KK:=Lib.hid (KK.out.trans (k4.mono KK.out.size));have PA:=Lib.hid (PA.out.below k4);clear rA k4 IA;have rO:=OR.out;have rA:=rO.s9;clear rO
  go_wp2_with fail
  refine (line_any _ T1 kNUMBER dv _ PA.out.pap (by have:=HV.out.2.1;show _+6+_+2≤_;omega)).mono ?_;rintro e wN ⟨rfl,hp,kp⟩;have OR:=Lib.hid (OR.out.belowB kp hbr);have KK:=Lib.hid (KK.out.trans (kp.mono hbb));rw [← HT2.out] at hp;have PA:=Lib.hid hp;clear hp kp rA;have rO:=OR.out;have rA:=rO.s9;clear rO
  go_wp2_with fail
  (with_reducible refine (money_any _ T2' kTENDER te _ PA.out.pap (HT.out.below KK.out) (by have e:(kTENDER:ByteArray).size=6:=rfl;omega)).mono ?_);rintro e wN ⟨rfl,hp,kp⟩;have OR:=Lib.hid (OR.out.belowB kp hbr);have KK:=Lib.hid (KK.out.trans (kp.mono hbb));rw [← HT3.out] at hp;have PA:=Lib.hid hp;clear hp kp rA;have rO:=OR.out;have rA:=rO.s9;clear rO
  go_wp2_with fail
  (with_reducible refine (money_any _ T3 kDEBT de _ PA.out.pap (HT.out.below KK.out) (by have e:(kDEBT:ByteArray).size=4:=rfl;omega)).mono ?_);rintro e wN ⟨rfl,hp,kp⟩;have OR:=Lib.hid (OR.out.belowB kp hbr);have KK:=Lib.hid (KK.out.trans (kp.mono hbb));rw [← HT4.out] at hp;have PA:=Lib.hid hp;clear hp kp rA;have rO:=OR.out;have rA:=rO.s9;clear rO
  go_wp2_with fail
  (with_reducible refine (money_any _ T4 kFEE fe _ PA.out.pap (HT.out.below KK.out) (by have e:(kFEE:ByteArray).size=3:=rfl;omega)).mono ?_);rintro e wN ⟨rfl,hp,kp⟩;have OR:=Lib.hid (OR.out.belowB kp hbr);have KK:=Lib.hid (KK.out.trans (kp.mono hbb));rw [← HT5.out] at hp;have PA:=Lib.hid hp;clear hp kp rA;have rO:=OR.out;have rA:=rO.s9;clear rO
  go_wp2_with fail
  (with_reducible refine (money_any _ T5 kPRICE pr _ PA.out.pap (HT.out.below KK.out) (by have e:(kPRICE:ByteArray).size=5:=rfl;omega)).mono ?_);rintro e wN ⟨rfl,hp,kp⟩;have OR:=Lib.hid (OR.out.belowB kp hbr);have KK:=Lib.hid (KK.out.trans (kp.mono hbb));rw [← HT6.out] at hp;have PA:=Lib.hid hp;clear hp kp rA;have rO:=OR.out;have rA:=rO.s9;clear rO
  go_wp2_with fail
  (with_reducible refine (money_any _ T6 kCHANGE ch _ PA.out.pap (HT.out.below KK.out) (by have e:(kCHANGE:ByteArray).size=6:=rfl;omega)).mono ?_);rintro e wN ⟨rfl,hp,kp⟩;have OR:=Lib.hid (OR.out.belowB kp hbr);have KK:=Lib.hid (KK.out.trans (kp.mono hbb));rw [← HT7.out] at hp;have PA:=Lib.hid hp;clear hp kp rA;have rO:=OR.out;have rA:=rO.s9;clear rO
  go_wp2_with fail
  refine (IB.out _ (HT.out.below KK.out)).mono ?_;rintro e w5 ⟨rfl,k5⟩;have OR:=Lib.hid (OR.out.below k5);have KK:=Lib.hid (KK.out.trans (k5.mono KK.out.size));have PA:=Lib.hid (PA.out.below k5);clear rA k5 IB;have rO:=OR.out;have rA:=rO.s9;clear rO
  go_wp2_with fail
  refine (line_any _ T7 kUNITS uv _ PA.out.pap (by have:=HV.out.2.2.1;show _+5+_+2≤_;omega)).mono ?_;rintro e wN ⟨rfl,hp,kp⟩;have OR:=Lib.hid (OR.out.belowB kp hbr);have KK:=Lib.hid (KK.out.trans (kp.mono hbb));rw [← HT8.out] at hp;have PA:=Lib.hid hp;clear hp kp rA;have rO:=OR.out;have rA:=rO.s9;clear rO
  go_wp2_with fail
  refine (GR.out _).mono ?_;rintro e w6 ⟨rfl,k6⟩;have OR:=Lib.hid (OR.out.below k6);have KK:=Lib.hid (KK.out.trans (k6.mono KK.out.size));have PA:=Lib.hid (PA.out.below k6);clear rA k6 GR;have rO:=OR.out;have rA:=rO.s9;clear rO
  go_wp2_with fail
  refine (line_any _ T8 kTOKEN gv _ PA.out.pap (by have:=HV.out.2.2.2;show _+5+_+2≤_;omega)).mono ?_;rintro e wN ⟨rfl,hp,kp⟩;have OR:=Lib.hid (OR.out.belowB kp hbr);have KK:=Lib.hid (KK.out.trans (kp.mono hbb));rw [← HT9.out] at hp;have PA:=Lib.hid hp;clear hp kp rA;have rO:=OR.out;have rA:=rO.s9;clear rO
  go_wp2_with fail
  refine (papText_any _ T9 _ PA.out.pap HC9.out).mono ?_;rintro e w7 ⟨rfl,k7⟩;have kk7:=KK.out.trans (k7.mono hbb);clear k7;go_wp2;go_ret2;exact RecSP.good H0.out HE9.out kk7
theorem RShow_any (me id te de fe pr ch un:Int) (s:ByteArray) (w:World) (ht:PowTab w):Calls Tryz.prog 12 #[recV me id te de fe pr ch un s] w (RecSP me id te de fe pr ch un s w):=by
  by_cases h0:recSE me id te de fe pr ch un s=0
  · obtain ⟨z1,z2,z3,-⟩:=recSE_zero h0
    obtain ⟨m,rfl⟩:=Int.eq_ofNat_of_zero_le z1.1;obtain ⟨i,rfl⟩:=Int.eq_ofNat_of_zero_le (show 0≤id by omega);obtain ⟨u,rfl⟩:=Int.eq_ofNat_of_zero_le z3.1;exact Show_good m i u te de fe pr ch s w ht h0
  · have C:=Lib.hid (fun W=>Check_any me id te de fe pr ch un s W)
    unfold RP at C;have H0:=Lib.hid h0;have HE:=Lib.hid (show recSE me id te de fe pr ch un s=recE me id te de fe pr ch un (parT s) (parE s) from rfl);have hb:(recE me id te de fe pr ch un (parT s) (parE s) != 0)=true:=by rw [bne_iff_ne];exact h0
    rw [HE.out] at H0;generalize recE me id te de fe pr ch un (parT s) (parE s)=E at *;have kB:=boxed_below w (.cells #[I me,I id,I te,I de,I fe,I pr,I ch,I un,.string s] 25);have oR:=Own.new (w:=w) rfl [I me,I id,I te,I de,I fe,I pr,I ch,I un,.string s] 25;have rO:=oR;have rA:=rO.s9;clear rO;clear h0 oR;go_enter Tryz.func12,Tryz.ntmps12
    go_wp2_with fail
    refine (C.out _).mono ?_;rintro e w1 ⟨rfl,k1⟩;have kk:=kB.trans (k1.mono kB.size);clear k1 kB rA;go_wp2;go_ret2;exact RecSP.bad HE.out H0.out kk
end Go.Proofs.YtfhmcahfjoliiaaGreatDoor
