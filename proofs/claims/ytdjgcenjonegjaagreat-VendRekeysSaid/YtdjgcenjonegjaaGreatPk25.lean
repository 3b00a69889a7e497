/- ref.Decoded · ref.Kept · disk.Replay: the closure that keeps a record, and the walk with it -/
import Derived.Test.YtdjgcenjonegjaaGreatPk24
import Derived.Deep.RegionHeld3
import Derived.Test.YtdjgcenjonegjaaGreatPk06
import Derived.Test.YtdjgcenjonegjaaGreatPk23
import Derived.Deep.RegionLaw
set_option maxRecDepth 20000
set_option maxHeartbeats 8000000
set_option linter.unusedSimpArgs false
set_option linter.unusedVariables false
namespace Go.Proofs.YtdjgcenjonegjaaGreat
section
open Go Go.RowKit

theorem Decoded_len (v:Value) (l:List Int) (w:World) (hS:Sl w v 1 l.length (l.map U32)) (h:l.length≠13):Calls Tryz.prog 96 #[v] w (DecdP l w):=by
  have HE:=Lib.hid (show decE l=1 by unfold decE;rw [if_neg h]);obtain ⟨a,cap,rfl,hn,hl,h0,hr⟩:=hS;have h1:((l.length:Int)==13)=false:=by rw [beq_eq_false_iff_ne];omega
  have h2:¬ ((l.length:Nat):Int)=13:=by omega
  clear hl h0 hr h;generalize l.length=n at *;have zO:=(Own.new (w:=w) rfl z13 48);have zfA:=zO.f;have z0:=zO.c0;have z1:=zO.c1;have z2:=zO.c2;have z3:=zO.c3;have z4:=zO.c4;have z5:=zO.c5;have z6:=zO.c6;have z7:=zO.c7;have z8:=zO.c8;have z9:=zO.c9;have z10:=zO.c10;have z11:=zO.c11;have z12:=zO.c12;clear zO;have r1:=set_same;have r2:=set_off;have r3:=set_blk;go_enter Tryz.func96,Tryz.ntmps96;go_wp2;exact bodyPost_ret (v:=T2 (evV 0 0 0 0 0 0 0 0 0 0 0 0 0) (I 1)) (by simp [results,Tryz.results96,go_sem, *];try omega) rfl (DecdP.bad HE.out (by decide) below_autor)
theorem Decoded_13 (v:Value) (l:List Int) (w:World) (hlen:l.length=13) (hw:∀ k,k < 13→0≤l.getD k 0∧l.getD k 0 < 4294967296) (hS:Sl w v 1 13 (l.map U32)):Calls Tryz.prog 96 #[v] w (DecdP l w):=by
  have M:=Lib.hid (fun W=>EventMay_any (l.getD 0 0) (l.getD 1 0) (l.getD 2 0) (l.getD 3 0) (l.getD 4 0) (l.getD 5 0) (l.getD 6 0) (l.getD 7 0) (l.getD 8 0) (l.getD 9 0) (l.getD 10 0) (l.getD 11 0) (l.getD 12 0) W);change Hid (∀ W,Calls _ _ _ W (Grew (.bool (evL l)) W)) at M;have HE:Hid (decE l=if evL l then 0 else 5):=by unfold Hid decE;rw [if_pos hlen]
  obtain ⟨a,cap,rfl,hn,hl,h0,hr⟩:=hS;obtain ⟨b,off,rfl,hbl,hcl⟩:=hr.resolve_left (by decide)
  have hcell:∀ k,k < 13→w.cell? ⟨b,off+k,none⟩=some (U32 (l.getD k 0)):=fun k hk=>by
    rw [hcl k (by rw [hl];omega)];rw [List.getD_eq_getElem?_getD,List.getElem?_map,List.getD_eq_getElem?_getD];have:k < l.length:=by omega
    rw [List.getElem?_eq_getElem this]
    rfl
  have k0:=boxed_below w (.cells z13.toArray 48);have HO:=Lib.hid (Own.new (w:=w) rfl z13 48);have HC:Hid (∀ k,k < 13→(w.alloc (.cells z13.toArray 48)).cell? ⟨b,off+k,none⟩=some (U32 (l.getD k 0))):=Lib.hid fun k hk=>(k0.cell (p:=⟨b,off+k,none⟩) hbl).trans (hcell k hk);generalize evL l=eb at *;have b0:=hw 0 (by decide);have b1:=hw 1 (by decide);have b2:=hw 2 (by decide);have b3:=hw 3 (by decide);have b4:=hw 4 (by decide);have b5:=hw 5 (by decide);have b6:=hw 6 (by decide);have b7:=hw 7 (by decide);have b8:=hw 8 (by decide);have b9:=hw 9 (by decide);have b10:=hw 10 (by decide);have b11:=hw 11 (by decide);have b12:=hw 12 (by decide);generalize hy0:l.getD 0 0=y0 at *;have HY0:=Lib.hid hy0;clear hy0;generalize hy1:l.getD 1 0=y1 at *;have HY1:=Lib.hid hy1;clear hy1;generalize hy2:l.getD 2 0=y2 at *;have HY2:=Lib.hid hy2;clear hy2;generalize hy3:l.getD 3 0=y3 at *;have HY3:=Lib.hid hy3;clear hy3;generalize hy4:l.getD 4 0=y4 at *;have HY4:=Lib.hid hy4;clear hy4;generalize hy5:l.getD 5 0=y5 at *;have HY5:=Lib.hid hy5;clear hy5;generalize hy6:l.getD 6 0=y6 at *;have HY6:=Lib.hid hy6;clear hy6;generalize hy7:l.getD 7 0=y7 at *;have HY7:=Lib.hid hy7;clear hy7;generalize hy8:l.getD 8 0=y8 at *;have HY8:=Lib.hid hy8;clear hy8;generalize hy9:l.getD 9 0=y9 at *;have HY9:=Lib.hid hy9;clear hy9;generalize hy10:l.getD 10 0=y10 at *;have HY10:=Lib.hid hy10;clear hy10;generalize hy11:l.getD 11 0=y11 at *;have HY11:=Lib.hid hy11;clear hy11;generalize hy12:l.getD 12 0=y12 at *;have HY12:=Lib.hid hy12;clear hy12;have q0:IntKind.i64.wrap y0=y0:=IntWalk.i64_in _ (by omega);have q1:IntKind.i64.wrap y1=y1:=IntWalk.i64_in _ (by omega);have q2:IntKind.i64.wrap y2=y2:=IntWalk.i64_in _ (by omega);have q3:IntKind.i64.wrap y3=y3:=IntWalk.i64_in _ (by omega);have q4:IntKind.i64.wrap y4=y4:=IntWalk.i64_in _ (by omega);have q5:IntKind.i64.wrap y5=y5:=IntWalk.i64_in _ (by omega);have q6:IntKind.i64.wrap y6=y6:=IntWalk.i64_in _ (by omega);have q7:IntKind.i64.wrap y7=y7:=IntWalk.i64_in _ (by omega);have q8:IntKind.i64.wrap y8=y8:=IntWalk.i64_in _ (by omega);have q9:IntKind.i64.wrap y9=y9:=IntWalk.i64_in _ (by omega);have q10:IntKind.i64.wrap y10=y10:=IntWalk.i64_in _ (by omega);have q11:IntKind.i64.wrap y11=y11:=IntWalk.i64_in _ (by omega);have q12:IntKind.i64.wrap y12=y12:=IntWalk.i64_in _ (by omega);have HBL:=Lib.hid (show b < (w.alloc (.cells z13.toArray 48)).heap.size by simp;omega);clear hw hcl hl h0 hr hcell hbl hlen;go_enter Tryz.func96,Tryz.ntmps96;go_wp2;have K0:=Lib.hid k0;clear k0;generalize hW:w.alloc (.cells z13.toArray 48)=W at *;have HWW:=Lib.hid hW;clear hW;have g0:W.cell? ⟨b,off,none⟩=some (U32 y0):=by rw [← HY0.out];exact HC.out 0 (by decide)
  have g1:W.cell? ⟨b,off+1,none⟩=some (U32 y1):=by rw [← HY1.out];exact HC.out 1 (by decide)
  have g2:W.cell? ⟨b,off+2,none⟩=some (U32 y2):=by rw [← HY2.out];exact HC.out 2 (by decide)
  have g3:W.cell? ⟨b,off+3,none⟩=some (U32 y3):=by rw [← HY3.out];exact HC.out 3 (by decide)
  have g4:W.cell? ⟨b,off+4,none⟩=some (U32 y4):=by rw [← HY4.out];exact HC.out 4 (by decide)
  have g5:W.cell? ⟨b,off+5,none⟩=some (U32 y5):=by rw [← HY5.out];exact HC.out 5 (by decide)
  have g6:W.cell? ⟨b,off+6,none⟩=some (U32 y6):=by rw [← HY6.out];exact HC.out 6 (by decide)
  have g7:W.cell? ⟨b,off+7,none⟩=some (U32 y7):=by rw [← HY7.out];exact HC.out 7 (by decide)
  have g8:W.cell? ⟨b,off+8,none⟩=some (U32 y8):=by rw [← HY8.out];exact HC.out 8 (by decide)
  have g9:W.cell? ⟨b,off+9,none⟩=some (U32 y9):=by rw [← HY9.out];exact HC.out 9 (by decide)
  have g10:W.cell? ⟨b,off+10,none⟩=some (U32 y10):=by rw [← HY10.out];exact HC.out 10 (by decide)
  have g11:W.cell? ⟨b,off+11,none⟩=some (U32 y11):=by rw [← HY11.out];exact HC.out 11 (by decide)
  have g12:W.cell? ⟨b,off+12,none⟩=some (U32 y12):=by rw [← HY12.out];exact HC.out 12 (by decide)
  go_region_held3 (fun w'=>w'.cell? ⟨b,off+3,none⟩=some (U32 y3)∧w'.cell? ⟨b,off+4,none⟩=some (U32 y4)∧w'.cell? ⟨b,off+5,none⟩=some (U32 y5)∧w'.cell? ⟨b,off+6,none⟩=some (U32 y6)∧w'.cell? ⟨b,off+7,none⟩=some (U32 y7)∧w'.cell? ⟨b,off+8,none⟩=some (U32 y8)∧w'.cell? ⟨b,off+9,none⟩=some (U32 y9)) (first | go_keep | (go_split_ands;refine ⟨?_,?_,?_,?_,?_,?_,?_⟩<;>assumption)) (fail)
  have hb2:=Lib.hid (Own.new (w:=W) rfl [I y3,I y4,I y5,I y6,I y7,I y8,I y9] 39);have k2:=boxed_below W (.cells #[I y3,I y4,I y5,I y6,I y7,I y8,I y9] 39);have h0:(W.alloc (.cells #[I y3,I y4,I y5,I y6,I y7,I y8,I y9] 39)).drew.cell? ⟨b,off,none⟩=some (U32 y0):=(k2.cell (p:=⟨b,off,none⟩) HBL.out).trans g0;have h1:(W.alloc (.cells #[I y3,I y4,I y5,I y6,I y7,I y8,I y9] 39)).drew.cell? ⟨b,off+1,none⟩=some (U32 y1):=(k2.cell (p:=⟨b,off+1,none⟩) HBL.out).trans g1;have h2:(W.alloc (.cells #[I y3,I y4,I y5,I y6,I y7,I y8,I y9] 39)).drew.cell? ⟨b,off+2,none⟩=some (U32 y2):=(k2.cell (p:=⟨b,off+2,none⟩) HBL.out).trans g2;have h10:(W.alloc (.cells #[I y3,I y4,I y5,I y6,I y7,I y8,I y9] 39)).drew.cell? ⟨b,off+10,none⟩=some (U32 y10):=(k2.cell (p:=⟨b,off+10,none⟩) HBL.out).trans g10;have h11:(W.alloc (.cells #[I y3,I y4,I y5,I y6,I y7,I y8,I y9] 39)).drew.cell? ⟨b,off+11,none⟩=some (U32 y11):=(k2.cell (p:=⟨b,off+11,none⟩) HBL.out).trans g11;have h12:(W.alloc (.cells #[I y3,I y4,I y5,I y6,I y7,I y8,I y9] 39)).drew.cell? ⟨b,off+12,none⟩=some (U32 y12):=(k2.cell (p:=⟨b,off+12,none⟩) HBL.out).trans g12;have e0:(W.alloc (.cells #[I y3,I y4,I y5,I y6,I y7,I y8,I y9] 39)).drew.cell? ⟨W.heap.size,0,none⟩=some (I y3):=by have:=hb2.out.cell 0 (by simp);rw [Nat.zero_add] at this;exact this
  have e1:(W.alloc (.cells #[I y3,I y4,I y5,I y6,I y7,I y8,I y9] 39)).drew.cell? ⟨W.heap.size,1,none⟩=some (I y4):=by have:=hb2.out.cell 1 (by simp);rw [Nat.zero_add] at this;exact this
  have e2:(W.alloc (.cells #[I y3,I y4,I y5,I y6,I y7,I y8,I y9] 39)).drew.cell? ⟨W.heap.size,2,none⟩=some (I y5):=by have:=hb2.out.cell 2 (by simp);rw [Nat.zero_add] at this;exact this
  have e3:(W.alloc (.cells #[I y3,I y4,I y5,I y6,I y7,I y8,I y9] 39)).drew.cell? ⟨W.heap.size,3,none⟩=some (I y6):=by have:=hb2.out.cell 3 (by simp);rw [Nat.zero_add] at this;exact this
  have e4:(W.alloc (.cells #[I y3,I y4,I y5,I y6,I y7,I y8,I y9] 39)).drew.cell? ⟨W.heap.size,4,none⟩=some (I y7):=by have:=hb2.out.cell 4 (by simp);rw [Nat.zero_add] at this;exact this
  have e5:(W.alloc (.cells #[I y3,I y4,I y5,I y6,I y7,I y8,I y9] 39)).drew.cell? ⟨W.heap.size,5,none⟩=some (I y8):=by have:=hb2.out.cell 5 (by simp);rw [Nat.zero_add] at this;exact this
  have e6:(W.alloc (.cells #[I y3,I y4,I y5,I y6,I y7,I y8,I y9] 39)).drew.cell? ⟨W.heap.size,6,none⟩=some (I y9):=by have:=hb2.out.cell 6 (by simp);rw [Nat.zero_add] at this;exact this
  have kW:Below w.heap.size w (W.alloc (.cells #[I y3,I y4,I y5,I y6,I y7,I y8,I y9] 39)).drew:=(K0.out.alloc K0.out.size _).drew;have hoW:Own (W.alloc (.cells #[I y3,I y4,I y5,I y6,I y7,I y8,I y9] 39)).drew w.heap.size z13:=HO.out.alloc _;have HOW:=Lib.hid hoW;clear hb2 k2 hoW HO K0 g0 g1 g2 g3 g4 g5 g6 g7 g8 g9 g10 g11 g12 HC HBL HWW;generalize (W.alloc (.cells #[I y3,I y4,I y5,I y6,I y7,I y8,I y9] 39)).drew=W2 at *;generalize W.heap.size=zb at *;go_wp2
  go_region_held3 (fun w'=>w'.cell? ⟨b,off,none⟩=some (U32 y0)∧w'.cell? ⟨b,off+1,none⟩=some (U32 y1)∧w'.cell? ⟨b,off+2,none⟩=some (U32 y2)∧w'.cell? ⟨b,off+10,none⟩=some (U32 y10)∧w'.cell? ⟨b,off+11,none⟩=some (U32 y11)∧w'.cell? ⟨b,off+12,none⟩=some (U32 y12)∧w'.cell? ⟨zb,0,none⟩=some (I y3)∧w'.cell? ⟨zb,1,none⟩=some (I y4)∧w'.cell? ⟨zb,2,none⟩=some (I y5)∧w'.cell? ⟨zb,3,none⟩=some (I y6)∧w'.cell? ⟨zb,4,none⟩=some (I y7)∧w'.cell? ⟨zb,5,none⟩=some (I y8)∧w'.cell? ⟨zb,6,none⟩=some (I y9)) (first | go_keep | (go_split_ands;refine ⟨?_,?_,?_,?_,?_,?_,?_,?_,?_,?_,?_,?_,?_⟩<;>assumption)) (fail)
  all_goals
    clear h0 h1 h2 h10 h11 h12 e0 e1 e2 e3 e4 e5 e6;have oE:Own (W2.alloc (.cells #[I y0,I y1,I y2,I y3,I y4,I y5,I y6,I y7,I y8,I y9,I y10,I y11,I y12] 48)).drew W2.heap.size [I y0,I y1,I y2,I y3,I y4,I y5,I y6,I y7,I y8,I y9,I y10,I y11,I y12]:=Own.new (w:=W2) rfl [I y0,I y1,I y2,I y3,I y4,I y5,I y6,I y7,I y8,I y9,I y10,I y11,I y12] 48;have oZ:Own (W2.alloc (.cells #[I y0,I y1,I y2,I y3,I y4,I y5,I y6,I y7,I y8,I y9,I y10,I y11,I y12] 48)).drew w.heap.size z13:=HOW.out.alloc _;have hzz:w.heap.size < W2.heap.size:=HOW.out.lt;have kE:Below w.heap.size w (W2.alloc (.cells #[I y0,I y1,I y2,I y3,I y4,I y5,I y6,I y7,I y8,I y9,I y10,I y11,I y12] 48)).drew:=(kW.alloc kW.size _).drew;have OE:=Lib.hid oE;have OZ:=Lib.hid oZ;have dO:=oE;have dA:=dO.s13;clear dO;clear oE oZ HOW kW;generalize (W2.alloc (.cells #[I y0,I y1,I y2,I y3,I y4,I y5,I y6,I y7,I y8,I y9,I y10,I y11,I y12] 48)).drew=W3 at *;generalize W2.heap.size=ze at *
    go_wp2_with fail
    refine (M.out _).mono ?_;rintro e w4 ⟨rfl,k4⟩;have kk:=kE.trans (k4.mono kE.size);have zO:=OZ.out.below k4;have zA:=zO.s13;clear zO;have xO:=OE.out.below k4;have xA:=xO.s13;clear xO;clear k4 kE dA OE OZ M;have r1:=set_same;have r2:=set_off;have r3:=set_blk;have n1:¬ w.heap.size=ze:=by omega
    have n2:¬ ze=w.heap.size:=by omega
    cases eb
    · have HE:=Lib.hid (show decE l=5 from HE.out)
      go_wp2;exact bodyPost_ret (v:=T2 (evV 0 0 0 0 0 0 0 0 0 0 0 0 0) (I 5)) (by simp [results,Tryz.results96,go_sem, *];try omega) rfl (DecdP.bad HE.out (by decide) below_autor)
    · have HE:=Lib.hid (show decE l=0 from HE.out)
      have hfin:=fun (w':World) (hb:Below w.heap.size w w')=>DecdP.ok HE.out hb;rw [HY0.out,HY1.out,HY2.out,HY3.out,HY4.out,HY5.out,HY6.out,HY7.out,HY8.out,HY9.out,HY10.out,HY11.out,HY12.out] at hfin;have HFIN:=Lib.hid hfin;clear hfin;go_wp2;exact bodyPost_ret (v:=T2 (evV y0 y1 y2 y3 y4 y5 y6 y7 y8 y9 y10 y11 y12) (I 0)) (by simp [results,Tryz.results96,go_sem, *];try omega) rfl (HFIN.out _ below_autor)
theorem Decoded_any (v:Value) (l:List Int) (w:World) (hw:∀ x∈l,W32 x) (hS:Sl w v 1 l.length (l.map U32)):Calls Tryz.prog 96 #[v] w (DecdP l w):=by
  by_cases hlen:l.length=13
  · have hw':∀ k,k < 13→0≤l.getD k 0∧l.getD k 0 < 4294967296:=fun k hk=>by
      have hk':k < l.length:=by omega
      rw [List.getD_eq_getElem?_getD,List.getElem?_eq_getElem hk'];have h:=hw _ (List.getElem_mem hk');unfold W32 at h;simp only [Option.getD_some];omega
    rw [hlen] at hS;exact Decoded_13 v l w hlen hw' hS
  · exact Decoded_len v l w hS hlen
end
section
open Go Go.RowKit
/-- the loop over the records -/
def KptRel (w1:World) (xs:List Int) (k:Nat) (v:Value) (l:List AEvent) (wr:World):Prop:=
  wr.ownsRow w1.heap.size 48 13 v l.length (l.flatMap AEvent.cells)∧runK l ((recR xs).drop k)=runK [] (recR xs)∧Below w1.heap.size w1 wr∧l.length≤k
theorem drop_nil_at {α:Type} {l:List α} {k:Nat} (h:¬ k < l.length):l.drop k=[]:=List.drop_eq_nil_of_le (by omega)
theorem drop_recs {l:List (List Int)} {k:Nat} (h:k < l.length):l.drop k=l.getD k []::l.drop (k+1):=by
  rw [List.getD_eq_getElem?_getD,List.getElem?_eq_getElem h];simp
theorem Kept_any (v : Value) (xs : List Int) (w : World) (h : Sl w v 1 xs.length (xs.map U32)) (hw : ∀ x ∈ xs, W32 x) :
    Calls Tryz.prog 45 #[v] w (KeptP xs w):=by
  obtain ⟨i0,hi,hz0,hz1,hz2⟩:=info_parts info_events;have R:=Lib.hid (Replayed_recs v xs w h hw);have D:=Lib.hid (fun u r W (hS:Sl W u 1 r.length (r.map U32)) (hr:∀ x∈r,W32 x)=>Decoded_any u r W hr hS);have HW:=Lib.hid (recT_w32 hw (xs.length+1) 0);obtain ⟨a,cap,rfl,-⟩:=h;clear hw;go_enter Tryz.func45,Tryz.ntmps45
  go_wp2_with fail
  refine R.out.mono ?_;rintro e w1 ⟨rv,us,rfl,hR,k1⟩
  by_cases hE:tapeE xs=0
  · have hrun:=Lib.hid (keptR_run hE)
    have hlen:=recR_len hE;have hrec:recsOf xs=recR xs:=by unfold recsOf;rw [if_pos hE]
    rw [hrec] at hR;rw [hE];generalize tapeA xs=p at *
    obtain ⟨ra,rc,rfl⟩:∃ a c,rv=.slice a (recR xs).length c:=by
      rcases owns_cases hR.2.1 with ⟨h,hn⟩ | ⟨g,c,h,_⟩
      · exact ⟨none,0,by rw [h,hn]⟩
      · exact ⟨_,c,h⟩
    have hD0:Hid (KptRel w1 xs 0 (.slice none 0 0) [] w1):=⟨World.ownsRow_nil _ _ _ _,rfl,Below.refl _ _,Nat.le_refl _⟩;have HR1:=Lib.hid hR;have K1:=Lib.hid k1;clear R hE hrec hR k1;go_wp2
    go_loopw [7,8] (fun v i wr=>∃ (k:Nat) (l:List AEvent),k≤(recR xs).length∧i=I k∧Hid (KptRel w1 xs k v l wr)) (fun _ i _=>(recR xs).length-(intOf i).toNat)
    case atStart=>exact ⟨0,[],Nat.zero_le _,rfl,hD0⟩
    case round =>
      obtain ⟨k,l,hk,rfl,hD⟩:=hrel;obtain ⟨hown,hacc,hbw,hlk⟩:=hD.out;have hRr:=HR1.out.below hbw
      by_cases hlt:k < (recR xs).length
      · obtain ⟨g, cap2, hv, hg1, hg2⟩ := owns_pos hRr.2.1 (by omega)
        simp only [Value.slice.injEq] at hv;obtain ⟨rfl,-,rfl⟩:=hv;have hO:=Own.of_owns hRr.2.1;have e0:=hO.cell k (by rw [hRr.1];exact hlt);rw [Nat.zero_add] at e0;have hrec:=(hRr.2.2 k hlt).sl
        have hr32:=HW.out _ (by
          have:(recR xs).getD k []∈recR xs:=by
            rw [List.getD_eq_getElem?_getD,List.getElem?_eq_getElem hlt];exact List.getElem_mem hlt
          exact this)
        rw [drop_recs hlt] at hacc;have hi0:(0:Int)≤(k:Int):=by omega
        have hi1:(k:Int) < ((recR xs).length:Int):=by omega
        have HD:=Lib.hid (D.out (us.getD k undef) ((recR xs).getD k []) wr hrec hr32);generalize us.getD k undef=u at *;generalize (recR xs).getD k []=r at *;clear hO hrec hr32 hRr D HW
        go_wp2_with fail
        refine (HD.out).mono ?_;rintro e w2 ⟨rfl,k2⟩;have kw2:=hbw.trans (k2.mono hbw.size);have hown2:=owns_below hown k2;have hbs2:w1.heap.size≤w2.heap.size:=kw2.size
        by_cases h0:decE r=0
        · rw [runK_go h0] at hacc
          have HACC:=Lib.hid hacc;rw [h0];have HOWN:=Lib.hid hown2;have KW2:=Lib.hid kw2;have hdec:=Lib.hid (show decVal r=(decEv r).v from rfl);rw [hdec.out];generalize decEv r=ev at *;obtain ⟨ki,me,mo,⟨id,te,de,fe,pr,ch,un⟩,ta,⟨ow,bp⟩⟩:=ev;have hll:l.length < 2100:=by omega
          clear hacc h0 hown hown2 hdec kw2 k2 HD hD hbw hD0
          go_wp2_with
            (at_builtin
             refine wpList_append_lies _ rfl _ _ 104 rfl w1.heap.size 48 i0 (.agg #[.int .i64 0,.int .i64 0,.int .i64 0,.int .i64 0,.int .i64 0,.int .i64 0,.int .i64 0,.int .i64 0,.int .i64 0,.int .i64 0,.int .i64 0,.int .i64 0,.int .i64 0]) 13 104 Tryz.underlying104 hi hz0 hz1 hz2 rfl (by decide) _ l.length (l.flatMap AEvent.cells) rfl (owns_below HOWN.out below_autor) ⟨w2.heap.size+1,0,none⟩ 1 1 [I ki,I me,I mo,I id,I te,I de,I fe,I pr,I ch,I un,I ta,I ow,I bp] rfl rfl (news_own (Own.new (by simp) _ 48)) (oneCells_lit rfl) (by omega) (by unfold maxLen;omega) (by omega) (by simp;omega) _ rfl ?_;intro gg cap3 w5 hown' hgrow hat hlt1;have hbP:Below w2.heap.size w2 ((w2.alloc (.cells #[I ki,I me,I mo,I id,I te,I de,I fe,I pr,I ch,I un,I ta,I ow,I bp] 48)).alloc (.cells #[I ki,I me,I mo,I id,I te,I de,I fe,I pr,I ch,I un,I ta,I ow,I bp] 48)):=below_autor;have hG:=grown_pre hgrow hbP
             have hN:Hid (KptRel w1 xs (k+1) (.slice (some ⟨gg,0,none⟩) (l.length+1) cap3) (l++[⟨ki,me,mo,⟨id,te,de,fe,pr,ch,un⟩,ta,⟨ow,bp⟩⟩]) w5):=by
               refine ⟨?_,HACC.out,Below.grown (B:=w1.heap.size) KW2.out hG hbs2 (fun z hz=>(HOWN.out.lt z hz).1),by simp;omega⟩;simpa [List.flatMap_append,AEvent.cells] using hown'
             clear hown' hgrow hat hG hbP)
          exact ⟨⟨k+1,_,by omega,by go_num,hN⟩,by simp [intOf];omega⟩
        · rw [runK_bad h0] at hacc
          have hb:(decE r != 0)=true:=by simp [h0]
          have HACC:=Lib.hid (hrun.out.trans hacc.symm);have kk:=K1.out.trans (kw2.mono K1.out.size);clear hacc h0 hown hown2 hrun k2 HD hD hbw hD0 kw2;rw [decVal_ev];generalize decEv r=ev at *;obtain ⟨ki,me,mo,⟨id,te,de,fe,pr,ch,un⟩,ta,⟨ow,bp⟩⟩:=ev;generalize decE r=E at *;go_wp2;go_ret2;exact KeptP.bad HACC.out below_auto
      · have hS:=Sl.of_owns hown (by omega)
        rw [drop_nil_at hlt] at hacc;have HACC:=Lib.hid (hrun.out.trans hacc.symm);have hge:((recR xs).length:Int)≤(k:Int):=by omega
        have HS:=Lib.hid hS;have kk:=K1.out.trans (hbw.mono K1.out.size);clear hacc hown hRr hD hD0 hS hbw;go_wp2;go_ret2;exact KeptP.good HACC.out HS.out kk
  · have hR':=Lib.hid (keptR_tape hE)
    have hb:(tapeE xs != 0)=true:=by simp [hE]
    generalize tapeE xs=E at *;generalize tapeA xs=p at *;clear hR R hE;go_wp2;go_ret2;exact KeptP.bad hR'.out k1
end
section
open Go.RowKit

theorem cell_ltD {W:World} {b o:Nat} {x:Value} (h:W.cell? ⟨b,o,none⟩=some x):b < W.heap.size:=World.block_lt_of_cell? W _ h
theorem rec_copy {W w1:World} {g cap:Nat} {blk:Option Nat} {ws:List Int} (hlt:ws.length≤64) (hown:w1.ownsRow W.heap.size 80 1 (.slice (some ⟨g,0,none⟩) (0+ws.length) cap) (0+ws.length) ([]++ws.map U32)) (hb:∀ j,blk=some j→j < W.heap.size):
    Rec w1 blk (.slice (some ⟨g,0,none⟩) ws.length cap) ws:=by
  rw [Nat.zero_add,List.nil_append] at hown;have hO:=Own.of_owns hown;rcases owns_cases hown with ⟨h,_⟩ | ⟨g',cap',hv,hg,hc,_⟩
  · cases h
  · injection hv with h1 h2 h3
    injection h1 with h1
    injection h1 with h1 h4 h5
    subst h1 h3;exact ⟨g,cap,rfl,hc,hlt,hO,fun e=>by have:=hb _ e;omega⟩
theorem rec_set {W:World} {blk:Option Nat} {u v:Value} {ws:List Int} {B:Nat} (h:Rec W blk u ws) (hB:W.cell? ⟨B,0,none⟩=some v) (hv:∀ n,v≠U32 n) (x:Value):Rec (W.setCell ⟨B,0,none⟩ x) blk u ws:=by
  obtain ⟨g,c,hu,q1,q2,q3,q4⟩:=h;refine ⟨g,c,hu,q1,q2,?_,q4⟩
  by_cases e:B=g
  · subst e
    cases ws with
    | nil=>exact q3.set 0 x
    | cons a t=>
      have:=q3.cell 0 (by simp);rw [Nat.zero_add,hB] at this;injection this with this
      exact absurd this (hv a)
  · exact q3.other e x
theorem recs_slice {W:World} {base:Nat} {v:Value} {rs:List (List Int)} {us:List Value} (h:Recs W base v rs us):∀ n,v≠U32 n:=by
  rcases owns_cases h.2.1 with ⟨h,_⟩ | ⟨g,c,h,_⟩<;>subst h<;>intro n e<;>cases e
/-- what the closure leaves: its variable holds one record more -/
def KeptRec (B base:Nat) (rs:List (List Int)) (w:World) (e:Ending) (w':World):Prop:=
  e=.returned (.tuple #[])∧∃ v us,w'.cell? ⟨B,0,none⟩=some v∧w'.frozen? ⟨B,0,none⟩=false∧Recs w' base v rs us∧Below B w w'

theorem Replay1_any (B b off n c:Nat) (ws:List Int) (v:Value) (rs:List (List Int)) (us:List Value) (w:World) (hB:w.cell? ⟨B,0,none⟩=some v) (hf:w.frozen? ⟨B,0,none⟩=false)
    (hR:Recs w (B+1) v rs us) (hrec:∀ j,j < n→w.cell? ⟨b,off+j,none⟩=some (U32 (ws.getD j 0))) (hl:ws.length=n) (hn0:0 < n) (hn:n≤64) (hrs:rs.length≤4096):
    Calls Tryz.prog 72 #[.slice (some ⟨b,off,none⟩) n c,.pointer (some ⟨B,0,none⟩)] w (KeptRec B (B+1) (rs++[ws]) w):=by
  obtain ⟨i0,hi,hz0,hz1,hz2⟩:=info_parts infoRec;obtain ⟨j0,hj,hy0,hy1,hy2⟩:=info_parts infoU32d;have hBlt:=cell_ltD hB;subst hl
  have hnews:∀ (j:Nat) (u:Value),(ws.map U32)[j]?=some u→w.cell? ((⟨b,off,none⟩:Addr).add j)=some u:=by
    intro j u hu;have hj:=(List.getElem?_eq_some_iff.1 hu).1;rw [List.length_map] at hj;have:=hrec j hj;rw [List.getElem?_map,List.getElem?_eq_getElem hj] at hu;rw [List.getD_eq_getElem?_getD,List.getElem?_eq_getElem hj] at this;unfold Addr.add
    split
    · subst_vars;simpa using this.trans hu
    · simpa using this.trans hu
  have hone:∀ u∈ws.map U32,u.oneCell'=true:=oneCells_map (fun _=>rfl) ws;have Hnews:=Lib.hid hnews;have Hone:=Lib.hid hone;have HR:=Lib.hid hR;have HV:=Lib.hid (recs_slice hR);have hvb:∀ j,v.ownBlock=some j→B+1≤j∧j < w.heap.size:=fun j hj=>hR.2.1.lt j hj;have Hvb:=Lib.hid hvb;clear hnews hone hR hvb hrec;go_enter Tryz.func72,Tryz.ntmps72;go_wp2
  go_region_law (first
    | (refine step_append_lies _ (by rfl) _ _ _ (by rfl) w.heap.size 80 j0 (.int .u32 0) 1 4 Tryz.underlying25 hj hy0 hy1 hy2 rfl (by decide) (.slice none 0 0) 0 [] (by rfl) (World.ownsRow_nil _ _ _ _) ⟨b, off, none⟩ ws.length c (ws.map U32) (by rfl) (by simp) Hnews.out Hone.out hn0 (by unfold maxLen; omega) (by omega) (Nat.le_refl _) w.heap.size rfl ?_; intro g1 cap1 w1 hown1 hgrow1 hat1 hlt1
       have hb1:Below w.heap.size w w1:=Below.grown (B:=w.heap.size) (drewN_below (Below.refl _ w) 1) hgrow1 (Nat.le_refl _) (fun j hj=>by cases hj);have hu1:Hid (Rec w1 v.ownBlock (.slice (some ⟨g1,0,none⟩) ws.length cap1) ws):=rec_copy hn hown1 (fun j hj=>(Hvb.out j hj).2);have hR1:Hid (Recs w1 (B+1) v rs us):=HR.out.below hb1;have hown2:=hR1.out.2.1;have hc1:=(hb1.cell (p:=⟨B,0,none⟩) hBlt).trans hB;have hf1:=(hb1.frozen (p:=⟨B,0,none⟩) hBlt).trans hf;have hsz1:=hb1.size;have hBl1:B < w1.heap.size:=by omega
       have hc1a:∀ o,(w1.alloc o).cell? ⟨B,0,none⟩=some v:=fun o=>((boxed_below w1 o).cell (p:=⟨B,0,none⟩) hBl1).trans hc1;have hf1a:∀ o,(w1.alloc o).frozen? ⟨B,0,none⟩=false:=fun o=>((boxed_below w1 o).frozen (p:=⟨B,0,none⟩) hBl1).trans hf1;clear hown1 hgrow1 hat1)
    | (refine step_append_lies _ (by rfl) _ _ _ (by rfl) (B + 1) 25 i0 (.slice none 0 0) 1 24 Tryz.underlying101 hi hz0 hz1 hz2 rfl (by decide) v rs.length us (by rfl) (hown2.alloc _) ⟨w1.heap.size, 0, none⟩ 1 1 [.slice (some ⟨g1, 0, none⟩) ws.length cap1] (by rfl) (by rfl) (news_lit _ _ _) (oneCells_lit rfl) (by omega) (by unfold maxLen; omega) (by omega) (by simp; omega) _ rfl ?_; intro g2 cap2 w2 hown3 hgrow2 hat2 hlt2
       have hb2:Below (B+1) (w1.alloc (.cells #[.slice (some ⟨g1,0,none⟩) ws.length cap1] 25)) w2:=Below.grown (B:=B+1) (Below.refl _ _) hgrow2 (by simp;omega) (fun j hj=>(Hvb.out j hj).1);have hc2:=(hb2.cell (p:=⟨B,0,none⟩) (by simp)).trans (((boxed_below w1 _).cell (p:=⟨B,0,none⟩) (by show B < _;omega)).trans hc1);have hf2:=(hb2.frozen (p:=⟨B,0,none⟩) (by simp)).trans (((boxed_below w1 _).frozen (p:=⟨B,0,none⟩) (by show B < _;omega)).trans hf1);have hR2:Hid (Recs w2 (B+1) (.slice (some ⟨g2,0,none⟩) (rs.length+1) cap2) (rs++[ws]) (us++[.slice (some ⟨g1,0,none⟩) ws.length cap1])):=recs_snoc (hR1.out.below (boxed_below w1 _)) (hu1.out.below (boxed_below w1 _)) hown3 rfl hgrow2 hat2;have hbw:Below B w w2:=((hb1.mono (Nat.le_of_lt hBlt)).trans ((boxed_below w1 _).mono (by omega))).trans (hb2.mono (by omega));clear hown3 hgrow2 hat2 hb2))
  all_goals
    go_wp2
    go_end0
    exact ⟨rfl,_,_,by rw [set_same,hc2];rfl,(World.frozen?_setCell _ _ _ _).trans hf2,⟨hR2.out.1,ownsRow_setCell_below hR2.out.2.1 (by show B < B+1;omega) _,fun k hk=>rec_set (hR2.out.2.2 k hk) hc2 HV.out _⟩,hbw.setCell (Nat.le_refl _) _⟩
end
end Go.Proofs.YtdjgcenjonegjaaGreat
