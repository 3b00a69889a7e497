/- ref.ReceiptShown -/
import Derived.Test.YtfhmcahfjoliiaaGreatDoorRecShow
import Derived.Test.YtfhmcahfjoliiaaGreatDoorRecFault
set_option maxRecDepth 20000
set_option maxHeartbeats 8000000
set_option linter.unusedSimpArgs false
set_option linter.unusedVariables false
namespace Go.Proofs.YtfhmcahfjoliiaaGreatDoor
open Go Go.RowKit
/-- the reference's text, in its own order -/
def refTxt (nv dv te de fe pr ch uv:ByteArray):ByteArray:=
  ⟨#[77,69,84,69,82,32]⟩++nv++⟨#[10,78,85,77,66,69,82,32]⟩++dv++⟨#[10,84,69,78,68,69,82,32]⟩++te++⟨#[10,68,69,66,84,32]⟩++de++⟨#[10,70,69,69,32]⟩++fe++⟨#[10,80,82,73,67,69,32]⟩++pr++⟨#[10,67,72,65,78,71,69,32]⟩++ch++⟨#[10,85,78,73,84,83,32]⟩++uv
def refTok (a s:ByteArray):ByteArray:=
  a++⟨#[10,84,79,75,69,78,32]⟩++s.extract 0 4++⟨#[32]⟩++s.extract 4 8++⟨#[32]⟩++s.extract 8 12++⟨#[32]⟩++s.extract 12 16++⟨#[32]⟩++s.extract 16 20++⟨#[10]⟩
theorem grpS_eq (s:ByteArray):grpS s=s.extract 0 4++⟨#[32]⟩++s.extract 4 8++⟨#[32]⟩++s.extract 8 12++⟨#[32]⟩++s.extract 12 16++⟨#[32]⟩++s.extract 16 20:=by
  apply ByteArray.ext;apply Array.toList_inj.1;simp [grpS,quad,Go.Lib.join,List.range,List.range.loop,List.intercalate,ByteArray.data_append]
theorem rec_ref (nv dv te de fe pr ch uv s:ByteArray):
    refTok (refTxt nv dv te de fe pr ch uv) s=lineS (lineS (lineS (lineS (lineS (lineS (lineS (lineS (lineS ⟨#[]⟩ kMETER nv) kNUMBER dv) kTENDER te) kDEBT de) kFEE fe) kPRICE pr) kCHANGE ch) kUNITS uv) kTOKEN (grpS s):=by
  rw [grpS_eq];unfold refTok;generalize s.extract 0 4=x0;generalize s.extract 4 8=x1;generalize s.extract 8 12=x2;generalize s.extract 12 16=x3;generalize s.extract 16 20=x4;apply ByteArray.ext;apply Array.toList_inj.1;simp [refTxt,lineS,ByteArray.data_append]
theorem refTxt_size (nv dv te de fe pr ch uv:ByteArray):(refTxt nv dv te de fe pr ch uv).size=6+nv.size+8+dv.size+8+te.size+6+de.size+5+fe.size+7+pr.size+8+ch.size+7+uv.size:=by
  unfold refTxt
  repeat rw [ByteArray.size_append]
  rfl
theorem Shown_good (m id un:Nat) (te de fe pr ch:Int) (s:ByteArray) (w:World) (h0:recSE m id te de fe pr ch un s=0):Calls Tryz.prog 17 #[recV m id te de fe pr ch un s] w (RecSP m id te de fe pr ch un s w):=by
  obtain ⟨z1,z2,z3,hs20⟩:=recSE_zero h0;have H0:=Lib.hid h0;have C:=Lib.hid (fun W=>ReceiptFault_any m id te de fe pr ch un s W);unfold RP at C;have e0:recE m id te de fe pr ch un (parT s) (parE s)=0:=h0;rw [e0] at C;have NU:=Lib.hid (fun W=>NumberOf_any m W);unfold NumP at NU;have S0:=Lib.hid (fun W=>Shown_any te W);have S1:=Lib.hid (fun W=>Shown_any de W);have S2:=Lib.hid (fun W=>Shown_any fe W);have S3:=Lib.hid (fun W=>Shown_any pr W);have S4:=Lib.hid (fun W=>Shown_any ch W);unfold ShowP at S0 S1 S2 S3 S4;have DA:=Lib.hid (fun W=>Dec_nat id W (by omega));have DB:=Lib.hid (fun W=>Dec_nat un W (by omega));have q1:=numV_size (m:Int);have q2:=decS_20 (n:=id) (by omega);have q3:=decS_20 (n:=un) (by omega);have q5:=showV_size te;have q6:=showV_size de;have q7:=showV_size fe;have q8:=showV_size pr;have q9:=showV_size ch;have HTX:=Lib.hid (show recTxt m id te de fe pr ch un s=refTok (refTxt (numV m) (decS id) (showV te) (showV de) (showV fe) (showV pr) (showV ch) (decS un)) s from (rec_ref _ _ _ _ _ _ _ _ _).symm);generalize numV (m:Int)=nv at *;generalize nmbE (m:Int)=ne at *;generalize decS id=dv at *;generalize decS un=uv at *;generalize showE te=e1 at *;generalize showE de=e2 at *;generalize showE fe=e3 at *;generalize showE pr=e4 at *;generalize showE ch=e5 at *;generalize hx1:showV te=xte at *;generalize hx2:showV de=xde at *;generalize hx3:showV fe=xfe at *;generalize hx4:showV pr=xpr at *;generalize hx5:showV ch=xch at *;have HQ:=Lib.hid (And.intro q1 (And.intro q2 (And.intro q3 (And.intro q5 (And.intro q6 (And.intro q7 (And.intro q8 q9)))))));have HS20:=Lib.hid hs20;have kB:=boxed_below w (.cells #[I m,I id,I te,I de,I fe,I pr,I ch,I un,.string s] 25);have oR:=Own.new (w:=w) rfl [I m,I id,I te,I de,I fe,I pr,I ch,I un,.string s] 25;have KB:=Lib.hid kB;have OR0:=Lib.hid oR;have rO:=oR;have rA:=rO.s9;clear rO;clear kB oR hx1 hx2 hx3 hx4 hx5 q1 q2 q3 q5 q6 q7 q8 q9 hs20 h0 e0 z1 z2 z3;go_enter Tryz.func17,Tryz.ntmps17
  go_wp2_with fail
  refine (C.out _).mono ?_;rintro e w1 ⟨rfl,k1⟩;have OR:=Lib.hid (OR0.out.below k1);have KK:=Lib.hid (KB.out.trans (k1.mono KB.out.size));clear rA k1 C OR0 KB;have rO:=OR.out;have rA:=rO.s9;clear rO
  go_wp2_with fail
  refine (NU.out _).mono ?_;rintro e w2 ⟨rfl,k2⟩;have OR0b:=Lib.hid OR.out;have OR:=Lib.hid ((OR.out.below k2).alloc (.cells #[I id,I te,I de,I fe,I pr,I ch,I un] 23));have OB:=Lib.hid (Own.new (w:=w2) rfl [I id,I te,I de,I fe,I pr,I ch,I un] 23);have kk2:=KK.out.trans (k2.mono KK.out.size);have KK:=Lib.hid (kk2.trans ((boxed_below w2 (.cells #[I id,I te,I de,I fe,I pr,I ch,I un] 23)).mono kk2.size));clear rA NU;have rO:=(OR0b.out.below k2);have rA:=rO.s9;clear rO;clear k2 kk2;have bO:=OB.out;have bfA:=bO.f;have b0:=bO.c0;have b1:=bO.c1;have b2:=bO.c2;have b3:=bO.c3;have b4:=bO.c4;have b5:=bO.c5;have b6:=bO.c6;clear bO
  go_wp2_with fail
  refine (S0.out _).mono ?_;rintro e w3 ⟨rfl,k3⟩;have OR:=Lib.hid (OR.out.below k3);have OB:=Lib.hid (OB.out.below k3);have KK:=Lib.hid (KK.out.trans (k3.mono KK.out.size));clear b0 b1 b2 b3 b4 b5 b6 bfA k3 S0 rA;have bO:=OB.out;have bfA:=bO.f;have b0:=bO.c0;have b1:=bO.c1;have b2:=bO.c2;have b3:=bO.c3;have b4:=bO.c4;have b5:=bO.c5;have b6:=bO.c6;clear bO
  go_wp2_with fail
  refine (S1.out _).mono ?_;rintro e w4 ⟨rfl,k4⟩;have OR:=Lib.hid (OR.out.below k4);have OB:=Lib.hid (OB.out.below k4);have KK:=Lib.hid (KK.out.trans (k4.mono KK.out.size));clear b0 b1 b2 b3 b4 b5 b6 bfA k4 S1;have bO:=OB.out;have bfA:=bO.f;have b0:=bO.c0;have b1:=bO.c1;have b2:=bO.c2;have b3:=bO.c3;have b4:=bO.c4;have b5:=bO.c5;have b6:=bO.c6;clear bO
  go_wp2_with fail
  refine (S2.out _).mono ?_;rintro e w5 ⟨rfl,k5⟩;have OR:=Lib.hid (OR.out.below k5);have OB:=Lib.hid (OB.out.below k5);have KK:=Lib.hid (KK.out.trans (k5.mono KK.out.size));clear b0 b1 b2 b3 b4 b5 b6 bfA k5 S2;have bO:=OB.out;have bfA:=bO.f;have b0:=bO.c0;have b1:=bO.c1;have b2:=bO.c2;have b3:=bO.c3;have b4:=bO.c4;have b5:=bO.c5;have b6:=bO.c6;clear bO
  go_wp2_with fail
  refine (S3.out _).mono ?_;rintro e w6 ⟨rfl,k6⟩;have OR:=Lib.hid (OR.out.below k6);have OB:=Lib.hid (OB.out.below k6);have KK:=Lib.hid (KK.out.trans (k6.mono KK.out.size));clear b0 b1 b2 b3 b4 b5 b6 bfA k6 S3;have bO:=OB.out;have bfA:=bO.f;have b0:=bO.c0;have b1:=bO.c1;have b2:=bO.c2;have b3:=bO.c3;have b4:=bO.c4;have b5:=bO.c5;have b6:=bO.c6;clear bO
  go_wp2_with fail
  refine (S4.out _).mono ?_;rintro e w7 ⟨rfl,k7⟩;have OR:=Lib.hid (OR.out.below k7);have OB:=Lib.hid (OB.out.below k7);have KK:=Lib.hid (KK.out.trans (k7.mono KK.out.size));clear b0 b1 b2 b3 b4 b5 b6 bfA k7 S4;have bO:=OB.out;have bfA:=bO.f;have b0:=bO.c0;have b1:=bO.c1;have b2:=bO.c2;have b3:=bO.c3;have b4:=bO.c4;have b5:=bO.c5;have b6:=bO.c6;clear bO;have rO:=OR.out;have rA:=rO.s9;clear rO;have hB0:=OB.out.lt;have kk7:=KK.out;obtain ⟨q1,q2,q3,q5,q6,q7,q8,q9⟩:=HQ.out;have ov0:¬ 9223372036854775807 < 6+nv.size:=by omega
  have ov1:¬ 9223372036854775807 < 6+nv.size+8:=by omega
  have ov2:¬ 9223372036854775807 < 6+nv.size+8+dv.size:=by omega
  have ov3:¬ 9223372036854775807 < 6+nv.size+8+dv.size+8:=by omega
  have ov4:¬ 9223372036854775807 < 6+nv.size+8+dv.size+8+xte.size:=by omega
  have ov5:¬ 9223372036854775807 < 6+nv.size+8+dv.size+8+xte.size+6:=by omega
  have ov6:¬ 9223372036854775807 < 6+nv.size+8+dv.size+8+xte.size+6+xde.size:=by omega
  have ov7:¬ 9223372036854775807 < 6+nv.size+8+dv.size+8+xte.size+6+xde.size+5:=by omega
  have ov8:¬ 9223372036854775807 < 6+nv.size+8+dv.size+8+xte.size+6+xde.size+5+xfe.size:=by omega
  have ov9:¬ 9223372036854775807 < 6+nv.size+8+dv.size+8+xte.size+6+xde.size+5+xfe.size+7:=by omega
  have ov10:¬ 9223372036854775807 < 6+nv.size+8+dv.size+8+xte.size+6+xde.size+5+xfe.size+7+xpr.size:=by omega
  have ov11:¬ 9223372036854775807 < 6+nv.size+8+dv.size+8+xte.size+6+xde.size+5+xfe.size+7+xpr.size+8:=by omega
  have ov12:¬ 9223372036854775807 < 6+nv.size+8+dv.size+8+xte.size+6+xde.size+5+xfe.size+7+xpr.size+8+xch.size:=by omega
  have ov13:¬ 9223372036854775807 < 6+nv.size+8+dv.size+8+xte.size+6+xde.size+5+xfe.size+7+xpr.size+8+xch.size+7:=by omega
  have ov14:¬ 9223372036854775807 < 6+nv.size+8+dv.size+8+xte.size+6+xde.size+5+xfe.size+7+xpr.size+8+xch.size+7+uv.size:=by omega
  clear q1 q2 q3 q5 q6 q7 q8 q9;go_wp2
  go_region_held3 (fun W=>W.cell? ⟨w2.heap.size,0,none⟩=some (I id)∧W.cell? ⟨w2.heap.size,6,none⟩=some (I un)) (first | go_keep | (go_split_ands;refine ⟨?_,?_⟩<;>assumption))
    ((first
      | ((with_reducible refine (DA.out _).mono ?_)
         rintro e wA ⟨rfl,kA⟩;have b0a:wA.cell? ⟨w2.heap.size,0,none⟩=some (I id):=by first | exact (kA.cell (p:=⟨w2.heap.size,0,none⟩) hB0).trans b0 | exact (kA.cell (p:=⟨w2.heap.size,0,none⟩) hBb).trans b0b
         have b6a:wA.cell? ⟨w2.heap.size,6,none⟩=some (I un):=by first | exact (kA.cell (p:=⟨w2.heap.size,6,none⟩) hB0).trans b6 | exact (kA.cell (p:=⟨w2.heap.size,6,none⟩) hBb).trans b6b
         have kkA:Below w.heap.size w wA:=by first | exact kk7.trans ((show Below w7.heap.size w7 wA from ⟨kA.os,kA.tape,kA.output,kA.size,kA.block⟩).mono kk7.size) | exact kkB.trans ((show Below wB.heap.size wB wA from ⟨kA.os,kA.tape,kA.output,kA.size,kA.block⟩).mono kkB.size)
         have hBa:w2.heap.size < wA.heap.size:=by first | exact Nat.lt_of_lt_of_le hB0 kA.size | exact Nat.lt_of_lt_of_le hBb kA.size)
      | ((with_reducible refine (DB.out _).mono ?_)
         rintro e wB ⟨rfl,kB⟩;have b0b:wB.cell? ⟨w2.heap.size,0,none⟩=some (I id):=by first | exact (kB.cell (p:=⟨w2.heap.size,0,none⟩) hB0).trans b0 | exact (kB.cell (p:=⟨w2.heap.size,0,none⟩) hBa).trans b0a
         have b6b:wB.cell? ⟨w2.heap.size,6,none⟩=some (I un):=by first | exact (kB.cell (p:=⟨w2.heap.size,6,none⟩) hB0).trans b6 | exact (kB.cell (p:=⟨w2.heap.size,6,none⟩) hBa).trans b6a
         have kkB:Below w.heap.size w wB:=by first | exact kk7.trans ((show Below w7.heap.size w7 wB from ⟨kB.os,kB.tape,kB.output,kB.size,kB.block⟩).mono kk7.size) | exact kkA.trans ((show Below wA.heap.size wA wB from ⟨kB.os,kB.tape,kB.output,kB.size,kB.block⟩).mono kkA.size)
         have hBb:w2.heap.size < wB.heap.size:=by first | exact Nat.lt_of_lt_of_le hB0 kB.size | exact Nat.lt_of_lt_of_le hBa kB.size)
      | fail))
  all_goals
    have hsz:=refTxt_size nv dv xte xde xfe xpr xch uv;obtain ⟨q1,q2,q3,q5,q6,q7,q8,q9⟩:=HQ.out;obtain ⟨A,hA⟩:∃ A,refTxt nv dv xte xde xfe xpr xch uv=A:=⟨_,rfl⟩;have hTX:=HTX.out;rw [hA] at hsz hTX;have HTA:=Lib.hid hTX;have hA2:=hA;unfold refTxt at hA2;rw [hA2];have hs20:=HS20.out;have ow0:¬ 9223372036854775807 < A.size+7:=by omega
    have ow1:¬ 9223372036854775807 < A.size+7+4:=by omega
    have ow2:¬ 9223372036854775807 < A.size+7+4+1:=by omega
    have ow3:¬ 9223372036854775807 < A.size+7+4+1+4:=by omega
    have ow4:¬ 9223372036854775807 < A.size+7+4+1+4+1:=by omega
    have ow5:¬ 9223372036854775807 < A.size+7+4+1+4+1+4:=by omega
    have ow6:¬ 9223372036854775807 < A.size+7+4+1+4+1+4+1:=by omega
    have ow7:¬ 9223372036854775807 < A.size+7+4+1+4+1+4+1+4:=by omega
    have ow8:¬ 9223372036854775807 < A.size+7+4+1+4+1+4+1+4+1:=by omega
    have ow9:¬ 9223372036854775807 < A.size+7+4+1+4+1+4+1+4+1+4:=by omega
    have ow10:¬ 9223372036854775807 < A.size+7+4+1+4+1+4+1+4+1+4+1:=by omega
    clear hA hA2 hTX hsz q1 q2 q3 q5 q6 q7 q8 q9 b0 b1 b2 b3 b4 b5 b6 bfA rA ov0 ov1 ov2 ov3 ov4 ov5 ov6 ov7 ov8 ov9 ov10 ov11 ov12 ov13 ov14;have kkF:Below w.heap.size w wB:=kkB;clear kkB b0a b6a b0b b6b hBa hBb kkA;go_wp2;go_region
    all_goals
      go_wp2;go_ret2;exact RecSP.good H0.out HTA.out kkF.drew
theorem Shown2_any (me id te de fe pr ch un:Int) (s:ByteArray) (w:World):Calls Tryz.prog 17 #[recV me id te de fe pr ch un s] w (RecSP me id te de fe pr ch un s w):=by
  by_cases h0:recSE me id te de fe pr ch un s=0
  · obtain ⟨z1,z2,z3,-⟩:=recSE_zero h0
    obtain ⟨m,rfl⟩:=Int.eq_ofNat_of_zero_le z1.1;obtain ⟨i,rfl⟩:=Int.eq_ofNat_of_zero_le (show 0≤id by omega);obtain ⟨u,rfl⟩:=Int.eq_ofNat_of_zero_le z3.1;exact Shown_good m i u te de fe pr ch s w h0
  · have C:=Lib.hid (fun W=>ReceiptFault_any me id te de fe pr ch un s W)
    unfold RP at C;have H0:=Lib.hid h0;have HE:=Lib.hid (show recSE me id te de fe pr ch un s=recE me id te de fe pr ch un (parT s) (parE s) from rfl);have hb:(recE me id te de fe pr ch un (parT s) (parE s) != 0)=true:=by rw [bne_iff_ne];exact h0
    rw [HE.out] at H0;generalize recE me id te de fe pr ch un (parT s) (parE s)=E at *;have kB:=boxed_below w (.cells #[I me,I id,I te,I de,I fe,I pr,I ch,I un,.string s] 25);have oR:=Own.new (w:=w) rfl [I me,I id,I te,I de,I fe,I pr,I ch,I un,.string s] 25;have rO:=oR;have rA:=rO.s9;clear rO;clear h0 oR;go_enter Tryz.func17,Tryz.ntmps17
    go_wp2_with fail
    refine (C.out _).mono ?_;rintro e w1 ⟨rfl,k1⟩;have kk:=kB.trans (k1.mono kB.size);clear k1 kB rA;go_wp2;go_ret2;exact RecSP.bad HE.out H0.out kk
end Go.Proofs.YtfhmcahfjoliiaaGreatDoor
