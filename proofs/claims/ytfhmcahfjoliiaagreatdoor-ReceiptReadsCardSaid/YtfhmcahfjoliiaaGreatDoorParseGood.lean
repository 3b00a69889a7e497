/- token.Parse at twenty digits -/
import Derived.Test.YtfhmcahfjoliiaaGreatDoorParseProg
set_option maxRecDepth 20000
set_option maxHeartbeats 8000000
set_option linter.unusedSimpArgs false
set_option linter.unusedVariables false
namespace Go.Proofs.YtfhmcahfjoliiaaGreatDoor
open Go.RowKit

theorem Parse_good (s : ByteArray) (w : World) (hs : s.size = 20) (hd : allDig s 20 = true) : Calls Tryz.prog 56 #[.string s] w (ParP s w) := by
  have HB:Hid (allDig s 20=false→parE s=7):=fun h=>by rw [hd] at h;cases h
  have hN:=decV_lt20 hd;obtain ⟨b1,b2,b3,b4⟩:=bare_reads hs hd;have hC:=parCase hN;rw [← parE_num hs hd] at hC;have HC:=Lib.hid hC;have hz:=bareL_size hs
  have R:Hid (∀ W,Calls Tryz.prog 83 #[.string (bareL s++s.extract 19 s.size)] W (GrewW2 (decV s 20%4294967296) (decV s 20 / 4294967296%4294967296) (decV s 20 / 18446744073709551616%4294967296) 0 W)):=Lib.hid fun W=>by
    have:=Read_main _ W b1 b2;rw [b3,b4] at this;exact this
  have T:Hid (∀ W,Calls Tryz.prog 82 #[.string (s.extract 0 19),.string ⟨#[48]⟩] W fun e w'=>e=.returned (.string (bareL s))∧w'=W):=Lib.hid fun W=>Tryz.strings_TrimLeft_one (s.extract 0 19) 48 (by decide) W;obtain ⟨q0,q1,q2,l0,l1,l2,hv,hO⟩:=over97 (decV s 20) hN;have O:=Lib.hid hO;have F0:Hid (∀ W g,Own W g [I 0]→Calls Tryz.prog 85 #[wideV q0 q1 q2,.pointer (some ⟨g,0,none⟩),I 16] W (TF g (fld (val [q0,q1,q2]) 0 16) 16 W)):=Lib.hid (fun W g hg=>tfield_any q0 q1 q2 0 16 g W l0 l1 l2 (by decide) (by decide) (by decide) hg);have F1:Hid (∀ W g,Own W g [I 16]→Calls Tryz.prog 85 #[wideV q0 q1 q2,.pointer (some ⟨g,0,none⟩),I 21] W (TF g (fld (val [q0,q1,q2]) 16 21) 37 W)):=Lib.hid (fun W g hg=>tfield_any q0 q1 q2 16 21 g W l0 l1 l2 (by decide) (by decide) (by decide) hg);have F2:Hid (∀ W g,Own W g [I 37]→Calls Tryz.prog 85 #[wideV q0 q1 q2,.pointer (some ⟨g,0,none⟩),I 20] W (TF g (fld (val [q0,q1,q2]) 37 20) 57 W)):=Lib.hid (fun W g hg=>tfield_any q0 q1 q2 37 20 g W l0 l1 l2 (by decide) (by decide) (by decide) hg);have F3:Hid (∀ W g,Own W g [I 57]→Calls Tryz.prog 85 #[wideV q0 q1 q2,.pointer (some ⟨g,0,none⟩),I 2] W (TF g (fld (val [q0,q1,q2]) 57 2) 59 W)):=Lib.hid (fun W g hg=>tfield_any q0 q1 q2 57 2 g W l0 l1 l2 (by decide) (by decide) (by decide) hg);have BB:Hid (∀ W,Calls Tryz.prog 86 #[wideV q0 q1 q2,I 59,I 32] W (Grew (T2 (.int .u64 (fld (val [q0,q1,q2]) 59 32:Nat)) (I 0)) W)):=Lib.hid (fun W=>Bits_any q0 q1 q2 59 32 W l0 l1 l2 (by decide) (by decide) (by decide))
  have FF:Hid (∀ W,Calls Tryz.prog 87 #[.agg #[I (fld (decV s 20 / 97) 57 2:Nat),I (fld (decV s 20 / 97) 37 20:Nat),I (fld (decV s 20 / 97) 16 21:Nat),I (fld (decV s 20 / 97) 0 16:Nat)]] W (Grew (I (tokFault (tokOf (decV s 20 / 97)))) W)):=Lib.hid (fun W=>by
    have:=tkfault_any ⟨(fld (decV s 20 / 97) 57 2:Nat),(fld (decV s 20 / 97) 37 20:Nat),(fld (decV s 20 / 97) 16 21:Nat),(fld (decV s 20 / 97) 0 16:Nat)⟩ W;rw [← tok_flds];exact this)
  rw [hv] at F0 F1 F2 F3 BB;have hsz:(s.extract 19 s.size).size=1:=by rw [size_extract _ _ _ (Nat.le_refl _)];omega
  have hov:¬ 9223372036854775807 < (bareL s).size+(s.extract 19 s.size).size:=by omega
  have hov2:¬ 9223372036854775807 < (bareL s).size+(s.size-19):=by omega
  have h1:(s.size:Int)=20:=by omega
  have HS:=Lib.hid hs;have HN:=Lib.hid hN;clear hs hN hC hv hO b1 b2 b3 b4 hz hsz hd l0 l1 l2;generalize hQ:decV s 20 / 97=Q at *;have HQ:=Lib.hid hQ;have EF:=Lib.hid (tok_flds Q);clear hQ;generalize decV s 20%97=r at *;generalize decV s 20%4294967296=n0 at *;generalize decV s 20 / 4294967296%4294967296=n1 at *;generalize decV s 20 / 18446744073709551616%4294967296=n2 at *;generalize tokFault (tokOf Q)=er at *;generalize fld Q 59 32=a0 at *;generalize fld Q 57 2=c0 at *;generalize fld Q 37 20=i0 at *;generalize fld Q 16 21=m0 at *;generalize fld Q 0 16=t0 at *;go_enter Tryz.func56,Tryz.ntmps56;go_wp2
  go_loopw [5] (fun _ wr=>∃ k:Nat,k≤20∧Hid (allDig s k=true)∧Hid (PRel s w k wr)) (fun _ wr=>20-wr.iterPos (w.heap.size+1))
  case atStart=>exact ⟨0,Nat.zero_le _,rfl,PRel.start⟩
  case round=>
    obtain ⟨k,hk,hall,hR⟩:=hrel;have hit:=hR.out.2.1
    by_cases hlt:k < s.size
    · have hb:=bat_lt s k
      by_cases ha:bat s k < 128
      · have hnx:=next_ascii_at (P:=Tryz.prog) hit hlt ha
        have hN:=Lib.hid (hR.out.next (k+1));have hp0:=Lib.hid (iter_pos hit);have hp1:=Lib.hid (iterTo_pos (q:=k+1) hit);cases hd:digAt s k
        · have hA:=Lib.hid (HB.out (allDig_no (show k < 20 by omega) hd))
          have hd':=Lib.hid hd
          have hq:bat s k < 48∨¬ bat s k < 48∧57 < bat s k:=by
            have:=hd'.out;rw [← Bool.not_eq_true,digAt_true] at this;omega
          obtain ⟨oR,-,kk⟩:=hN.out;have zO:=oR;have zA:=zO.s4;clear zO;have r1:=set_same;have r2:=set_off;have r3:=set_blk;clear hd hR hall oR hb ha;generalize bat s k=c at *;rcases hq with hq | ⟨hq1,hq2⟩
          all_goals
            go_wp2;exact bodyPost_ret (v:=T2 (.agg #[I 0,I 0,I 0,I 0]) (I 7)) (by simp [results,Tryz.results56,go_sem, *];try omega) rfl (ParP.bad hA.out (by decide) below_autor)
        · obtain ⟨d0,d1⟩:=digAt_true.1 hd
          have hA:=Lib.hid (allDig_succ hall.out hd);have q1:¬ ((bat s k:Nat):Int) < 48:=by omega
          have q2:¬ (57:Int) < ((bat s k:Nat):Int):=by omega
          clear hd hb ha hR;generalize bat s k=c at *;go_wp2;exact ⟨⟨k+1,by omega,hA,hN⟩,by rw [hp1.out,hp0.out];omega⟩
      · obtain ⟨r,q,r0,r1',hnx⟩:=next_high_at (P:=Tryz.prog) hit hlt ha
        have hd:digAt s k=false:=by rw [← Bool.not_eq_true,digAt_true];omega
        have hA:=Lib.hid (HB.out (allDig_no (show k < 20 by omega) hd));obtain ⟨oR,-,kk⟩:=hR.out.next q;have zO:=oR;have zA:=zO.s4;clear zO;have r1:=set_same;have r2:=set_off;have r3:=set_blk;have q1:¬ (r:Int) < 48:=by omega
        have q2:(57:Int) < (r:Int):=by omega
        clear hd hR hall oR hb ha;go_wp2;exact bodyPost_ret (v:=T2 (.agg #[I 0,I 0,I 0,I 0]) (I 7)) (by simp [results,Tryz.results56,go_sem, *];try omega) rfl (ParP.bad hA.out (by decide) below_autor)
    · have hnx:∀ ty,(Instr.next (.pointer (some ⟨w.heap.size+1,0,none⟩)) true ty).run Tryz.prog wr=_:=fun ty=>next_end_at hit hlt ty
      have hks:k=20:=by omega
      obtain ⟨oR,-,kk⟩:=hR.out;have hgR:=oR.lt;have zO:=oR;have zA:=zO.s4;clear zO;have r1:=set_same;have r2:=set_off;have r3:=set_blk;clear hlt hks hR hall hit hk;go_wp2
      go_quiet ((go_at_call 82;exact Calls.quiet_of_same (T.out _)))
      go_wp2_with fail
      (with_reducible refine (R.out _).mono ?_);rintro e w2 ⟨rfl,k2⟩;have k2':Below wr.heap.size wr w2:=⟨k2.os,k2.tape,k2.output,k2.size,k2.block⟩;have kk2:=kk.trans (k2'.mono kk.size);have oR2:=Lib.hid (oR.below k2');have hz2:=oR2.out.lt;have n1:¬ w.heap.size=w2.heap.size:=by omega
      have n2':¬ w2.heap.size=w.heap.size:=by omega
      clear zA k2 k2' kk oR hgR hnx;rcases HC.out with ⟨c1,hE⟩ | ⟨c1,c2,hE⟩ | ⟨c1,c2,c3,hE⟩ | ⟨c1,c2,c3,c4,hE⟩ | ⟨c1,c2,c3,c4,hE⟩
      · have HE:=Lib.hid hE
        have c1':(4:Int)≤(n2:Int):=by omega
        have zO:=oR2.out;have zA:=zO.s4;clear zO;clear hE HC c1;go_wp2;exact bodyPost_ret (v:=T2 (.agg #[I 0,I 0,I 0,I 0]) (I 2)) (by simp [results,Tryz.results56,go_sem, *];try omega) rfl (ParP.bad HE.out (by decide) below_autor)
      · have HE:=Lib.hid hE
        have c1':¬ (4:Int)≤(n2:Int):=by omega
        have c2':((r:Int) != 0)=true:=by simp;omega
        clear hE HC c1
        go_wp2_with fail
        (with_reducible refine (O.out _).mono ?_);rintro e w3 ⟨rfl,k3⟩;have k3':=below_box k3;have kk3:=kk2.trans (k3'.mono kk2.size);have oR3:=Lib.hid (oR2.out.below k3');have hz3:=oR3.out.lt;have m1:¬ w.heap.size=w3.heap.size:=by omega
        have m2:¬ w3.heap.size=w.heap.size:=by omega
        clear k3 k3' kk2 oR2 hz2 n1 n2';have zO:=oR3.out;have zA:=zO.s4;clear zO;go_wp2;exact bodyPost_ret (v:=T2 (.agg #[I 0,I 0,I 0,I 0]) (I 8)) (by simp [results,Tryz.results56,go_sem, *];try omega) rfl (ParP.bad HE.out (by decide) below_autor)
      · have HE:=Lib.hid hE
        have c1':¬ (4:Int)≤(n2:Int):=by omega
        have c2':((r:Int) != 0)=false:=by simp;omega
        have c3':((a0:Int) != 0)=true:=by simp;omega
        clear hE HC c1 c2 c3
        go_wp2_with fail
        (with_reducible refine (O.out _).mono ?_);rintro e w3 ⟨rfl,k3⟩;have k3':=below_box k3;have kk3:=kk2.trans (k3'.mono kk2.size);have oR3:=Lib.hid (oR2.out.below k3');have hz3:=oR3.out.lt;have m1:¬ w.heap.size=w3.heap.size:=by omega
        have m2:¬ w3.heap.size=w.heap.size:=by omega
        clear k3 k3' kk2 oR2 hz2 n1 n2';have o9:=((Own.new (w:=w3) rfl [U32 q0,U32 q1,U32 q2] 111).alloc (.cells #[I 0,I 0,I 0,I 0] 86)).alloc (.cells #[I 0] 3);have oT:=(Own.new (w:=w3.alloc (.cells #[U32 q0,U32 q1,U32 q2] 111)) (g:=w3.heap.size+1) (by simp) [I 0,I 0,I 0,I 0] 86).alloc (.cells #[I 0] 3);have oA:=Own.new (w:=(w3.alloc (.cells #[U32 q0,U32 q1,U32 q2] 111)).alloc (.cells #[I 0,I 0,I 0,I 0] 86)) (g:=w3.heap.size+1+1) (by simp) [I 0] 3;have oR:=((oR3.out.alloc (.cells #[U32 q0,U32 q1,U32 q2] 111)).alloc (.cells #[I 0,I 0,I 0,I 0] 86)).alloc (.cells #[I 0] 3);have kW:Below w.heap.size w (((w3.alloc (.cells #[U32 q0,U32 q1,U32 q2] 111)).alloc (.cells #[I 0,I 0,I 0,I 0] 86)).alloc (.cells #[I 0] 3)):=((kk3.alloc kk3.size _).alloc (by simp;omega) _).alloc (by simp;omega) _;have O9:=Lib.hid o9;have OT:=Lib.hid oT;have OA:=Lib.hid oA;have OR:=Lib.hid oR;clear o9 oT oA oR oR3 kk3
        go_wp2_with fail
        (with_reducible refine (F0.out _ _ OA.out).mono ?_);rintro e w4 ⟨rfl,oA4,c4⟩;have o94:=O9.out.chg c4 (by omega);have oT4:=OT.out.chg c4 (by omega);have oR4:=OR.out.chg c4 (by omega);have kk4:=c4.below kW (by omega) kW.size;clear O9 OT OA OR kW c4;have yO:=o94;have yA:=yO.s3;clear yO;have dO:=oT4;have dA:=dO.s4;clear dO;have ks:Below w.heap.size w (w4.setCell ⟨w3.heap.size+1,3,none⟩ (I (t0:Nat))):=Below.setCell kk4 (by simp;omega) _
        go_wp2_with fail
        (with_reducible refine (F1.out _ _ (oA4.other (by simp) _)).mono ?_);rintro e w5 ⟨rfl,oA5,c5⟩;have o95:=(o94.other (by simp) _).chg c5 (by omega);have oT5:=(oT4.set 3 (I (t0:Nat))).chg c5 (by omega);have oR5:=(oR4.other (by simp;omega) _).chg c5 (by omega);have kk5:=c5.below ks (by omega) ks.size;clear ks o94 oT4 oA4 oR4 kk4 c5 yA dA;have yO:=o95;have yA:=yO.s3;clear yO;have dO:=oT5;have dA:=dO.s4;clear dO;have ks:Below w.heap.size w (w5.setCell ⟨w3.heap.size+1,2,none⟩ (I (m0:Nat))):=Below.setCell kk5 (by simp;omega) _
        go_wp2_with fail
        (with_reducible refine (F2.out _ _ (oA5.other (by simp) _)).mono ?_);rintro e w6 ⟨rfl,oA6,c6⟩;have o96:=(o95.other (by simp) _).chg c6 (by omega);have oT6:=(oT5.set 2 (I (m0:Nat))).chg c6 (by omega);have oR6:=(oR5.other (by simp;omega) _).chg c6 (by omega);have kk6:=c6.below ks (by omega) ks.size;clear ks o95 oT5 oA5 oR5 kk5 c6 yA dA;have yO:=o96;have yA:=yO.s3;clear yO;have dO:=oT6;have dA:=dO.s4;clear dO;have ks:Below w.heap.size w (w6.setCell ⟨w3.heap.size+1,1,none⟩ (I (i0:Nat))):=Below.setCell kk6 (by simp;omega) _
        go_wp2_with fail
        (with_reducible refine (F3.out _ _ (oA6.other (by simp) _)).mono ?_);rintro e w7 ⟨rfl,oA7,c7⟩;have o97:=(o96.other (by simp) _).chg c7 (by omega);have oT7:=(oT6.set 1 (I (i0:Nat))).chg c7 (by omega);have oR7:=(oR6.other (by simp;omega) _).chg c7 (by omega);have kk7:=c7.below ks (by omega) ks.size;clear ks o96 oT6 oA6 oR6 kk6 c7 yA dA;have yO:=o97;have yA:=yO.s3;clear yO;have dO:=oT7;have dA:=dO.s4;clear dO;have xO:=oA7;have xA:=xO.s1;clear xO;have ks:Below w.heap.size w (w7.setCell ⟨w3.heap.size+1,0,none⟩ (I (c0:Nat))):=Below.setCell kk7 (by simp;omega) _
        go_wp2_with fail
        (with_reducible refine (BB.out _).mono ?_);rintro e w8 ⟨rfl,k8⟩;have oT8:=(oT7.set 0 (I (c0:Nat))).below k8;have oR8:=(oR7.other (by simp;omega) _).below k8;have kk8:=ks.trans (k8.mono ks.size);clear k8 ks o97 oT7 oA7 oR7 kk7 yA dA xA;have zO:=oR8;have zA:=zO.s4;clear zO;have dO:=oT8;have dA:=dO.s4;clear dO;(try simp only [List.set_cons_zero,List.set_cons_succ] at dA);have oRk:=Lib.hid oR8;clear oR8;go_wp2;exact bodyPost_ret (v:=T2 (.agg #[I 0,I 0,I 0,I 0]) (I 2)) (by simp [results,Tryz.results56,go_sem, *];try omega) rfl (ParP.bad HE.out (by decide) below_autor)
      · have HE:=Lib.hid hE
        have c1':¬ (4:Int)≤(n2:Int):=by omega
        have c2':((r:Int) != 0)=false:=by simp;omega
        have c3':((a0:Int) != 0)=false:=by simp;omega
        have c4':(er != 0)=true:=by simp;omega
        clear hE HC c1 c2 c3 c4
        go_wp2_with fail
        (with_reducible refine (O.out _).mono ?_);rintro e w3 ⟨rfl,k3⟩;have k3':=below_box k3;have kk3:=kk2.trans (k3'.mono kk2.size);have oR3:=Lib.hid (oR2.out.below k3');have hz3:=oR3.out.lt;have m1:¬ w.heap.size=w3.heap.size:=by omega
        have m2:¬ w3.heap.size=w.heap.size:=by omega
        clear k3 k3' kk2 oR2 hz2 n1 n2';have o9:=((Own.new (w:=w3) rfl [U32 q0,U32 q1,U32 q2] 111).alloc (.cells #[I 0,I 0,I 0,I 0] 86)).alloc (.cells #[I 0] 3);have oT:=(Own.new (w:=w3.alloc (.cells #[U32 q0,U32 q1,U32 q2] 111)) (g:=w3.heap.size+1) (by simp) [I 0,I 0,I 0,I 0] 86).alloc (.cells #[I 0] 3);have oA:=Own.new (w:=(w3.alloc (.cells #[U32 q0,U32 q1,U32 q2] 111)).alloc (.cells #[I 0,I 0,I 0,I 0] 86)) (g:=w3.heap.size+1+1) (by simp) [I 0] 3;have oR:=((oR3.out.alloc (.cells #[U32 q0,U32 q1,U32 q2] 111)).alloc (.cells #[I 0,I 0,I 0,I 0] 86)).alloc (.cells #[I 0] 3);have kW:Below w.heap.size w (((w3.alloc (.cells #[U32 q0,U32 q1,U32 q2] 111)).alloc (.cells #[I 0,I 0,I 0,I 0] 86)).alloc (.cells #[I 0] 3)):=((kk3.alloc kk3.size _).alloc (by simp;omega) _).alloc (by simp;omega) _;have O9:=Lib.hid o9;have OT:=Lib.hid oT;have OA:=Lib.hid oA;have OR:=Lib.hid oR;clear o9 oT oA oR oR3 kk3
        go_wp2_with fail
        (with_reducible refine (F0.out _ _ OA.out).mono ?_);rintro e w4 ⟨rfl,oA4,c4⟩;have o94:=O9.out.chg c4 (by omega);have oT4:=OT.out.chg c4 (by omega);have oR4:=OR.out.chg c4 (by omega);have kk4:=c4.below kW (by omega) kW.size;clear O9 OT OA OR kW c4;have yO:=o94;have yA:=yO.s3;clear yO;have dO:=oT4;have dA:=dO.s4;clear dO;have ks:Below w.heap.size w (w4.setCell ⟨w3.heap.size+1,3,none⟩ (I (t0:Nat))):=Below.setCell kk4 (by simp;omega) _
        go_wp2_with fail
        (with_reducible refine (F1.out _ _ (oA4.other (by simp) _)).mono ?_);rintro e w5 ⟨rfl,oA5,c5⟩;have o95:=(o94.other (by simp) _).chg c5 (by omega);have oT5:=(oT4.set 3 (I (t0:Nat))).chg c5 (by omega);have oR5:=(oR4.other (by simp;omega) _).chg c5 (by omega);have kk5:=c5.below ks (by omega) ks.size;clear ks o94 oT4 oA4 oR4 kk4 c5 yA dA;have yO:=o95;have yA:=yO.s3;clear yO;have dO:=oT5;have dA:=dO.s4;clear dO;have ks:Below w.heap.size w (w5.setCell ⟨w3.heap.size+1,2,none⟩ (I (m0:Nat))):=Below.setCell kk5 (by simp;omega) _
        go_wp2_with fail
        (with_reducible refine (F2.out _ _ (oA5.other (by simp) _)).mono ?_);rintro e w6 ⟨rfl,oA6,c6⟩;have o96:=(o95.other (by simp) _).chg c6 (by omega);have oT6:=(oT5.set 2 (I (m0:Nat))).chg c6 (by omega);have oR6:=(oR5.other (by simp;omega) _).chg c6 (by omega);have kk6:=c6.below ks (by omega) ks.size;clear ks o95 oT5 oA5 oR5 kk5 c6 yA dA;have yO:=o96;have yA:=yO.s3;clear yO;have dO:=oT6;have dA:=dO.s4;clear dO;have ks:Below w.heap.size w (w6.setCell ⟨w3.heap.size+1,1,none⟩ (I (i0:Nat))):=Below.setCell kk6 (by simp;omega) _
        go_wp2_with fail
        (with_reducible refine (F3.out _ _ (oA6.other (by simp) _)).mono ?_);rintro e w7 ⟨rfl,oA7,c7⟩;have o97:=(o96.other (by simp) _).chg c7 (by omega);have oT7:=(oT6.set 1 (I (i0:Nat))).chg c7 (by omega);have oR7:=(oR6.other (by simp;omega) _).chg c7 (by omega);have kk7:=c7.below ks (by omega) ks.size;clear ks o96 oT6 oA6 oR6 kk6 c7 yA dA;have yO:=o97;have yA:=yO.s3;clear yO;have dO:=oT7;have dA:=dO.s4;clear dO;have xO:=oA7;have xA:=xO.s1;clear xO;have ks:Below w.heap.size w (w7.setCell ⟨w3.heap.size+1,0,none⟩ (I (c0:Nat))):=Below.setCell kk7 (by simp;omega) _
        go_wp2_with fail
        (with_reducible refine (BB.out _).mono ?_);rintro e w8 ⟨rfl,k8⟩;have oT8:=(oT7.set 0 (I (c0:Nat))).below k8;have oR8:=(oR7.other (by simp;omega) _).below k8;have kk8:=ks.trans (k8.mono ks.size);clear k8 ks o97 oT7 oA7 oR7 kk7 yA dA xA;have zO:=oR8;have zA:=zO.s4;clear zO;have dO:=oT8;have dA:=dO.s4;clear dO;(try simp only [List.set_cons_zero,List.set_cons_succ] at dA);have oRk:=Lib.hid oR8;clear oR8
        go_wp2_with fail
        (with_reducible refine (FF.out _).mono ?_);rintro e w9 ⟨rfl,k9⟩;have oT9:=oT8.below k9;have oR9:=(show Own w8 w.heap.size _ from oRk.out).below k9;have kk9:=kk8.trans (k9.mono kk8.size);clear zA dA k9 kk8;have zO:=oR9;have zA:=zO.s4;clear zO;have dO:=oT9;have dA:=dO.s4;clear dO;(try simp only [List.set_cons_zero,List.set_cons_succ] at dA);go_wp2;exact bodyPost_ret (v:=T2 (.agg #[I 0,I 0,I 0,I 0]) (I 2)) (by simp [results,Tryz.results56,go_sem, *];try omega) rfl (ParP.bad HE.out (by decide) below_autor)
      · have HE:=Lib.hid hE
        have c1':¬ (4:Int)≤(n2:Int):=by omega
        have c2':((r:Int) != 0)=false:=by simp;omega
        have c3':((a0:Int) != 0)=false:=by simp;omega
        have c4':(er != 0)=false:=by simp;omega
        clear hE HC c1 c2 c3 c4
        go_wp2_with fail
        (with_reducible refine (O.out _).mono ?_);rintro e w3 ⟨rfl,k3⟩;have k3':=below_box k3;have kk3:=kk2.trans (k3'.mono kk2.size);have oR3:=Lib.hid (oR2.out.below k3');have hz3:=oR3.out.lt;have m1:¬ w.heap.size=w3.heap.size:=by omega
        have m2:¬ w3.heap.size=w.heap.size:=by omega
        clear k3 k3' kk2 oR2 hz2 n1 n2';have o9:=((Own.new (w:=w3) rfl [U32 q0,U32 q1,U32 q2] 111).alloc (.cells #[I 0,I 0,I 0,I 0] 86)).alloc (.cells #[I 0] 3);have oT:=(Own.new (w:=w3.alloc (.cells #[U32 q0,U32 q1,U32 q2] 111)) (g:=w3.heap.size+1) (by simp) [I 0,I 0,I 0,I 0] 86).alloc (.cells #[I 0] 3);have oA:=Own.new (w:=(w3.alloc (.cells #[U32 q0,U32 q1,U32 q2] 111)).alloc (.cells #[I 0,I 0,I 0,I 0] 86)) (g:=w3.heap.size+1+1) (by simp) [I 0] 3;have oR:=((oR3.out.alloc (.cells #[U32 q0,U32 q1,U32 q2] 111)).alloc (.cells #[I 0,I 0,I 0,I 0] 86)).alloc (.cells #[I 0] 3);have kW:Below w.heap.size w (((w3.alloc (.cells #[U32 q0,U32 q1,U32 q2] 111)).alloc (.cells #[I 0,I 0,I 0,I 0] 86)).alloc (.cells #[I 0] 3)):=((kk3.alloc kk3.size _).alloc (by simp;omega) _).alloc (by simp;omega) _;have O9:=Lib.hid o9;have OT:=Lib.hid oT;have OA:=Lib.hid oA;have OR:=Lib.hid oR;clear o9 oT oA oR oR3 kk3
        go_wp2_with fail
        (with_reducible refine (F0.out _ _ OA.out).mono ?_);rintro e w4 ⟨rfl,oA4,c4⟩;have o94:=O9.out.chg c4 (by omega);have oT4:=OT.out.chg c4 (by omega);have oR4:=OR.out.chg c4 (by omega);have kk4:=c4.below kW (by omega) kW.size;clear O9 OT OA OR kW c4;have yO:=o94;have yA:=yO.s3;clear yO;have dO:=oT4;have dA:=dO.s4;clear dO;have ks:Below w.heap.size w (w4.setCell ⟨w3.heap.size+1,3,none⟩ (I (t0:Nat))):=Below.setCell kk4 (by simp;omega) _
        go_wp2_with fail
        (with_reducible refine (F1.out _ _ (oA4.other (by simp) _)).mono ?_);rintro e w5 ⟨rfl,oA5,c5⟩;have o95:=(o94.other (by simp) _).chg c5 (by omega);have oT5:=(oT4.set 3 (I (t0:Nat))).chg c5 (by omega);have oR5:=(oR4.other (by simp;omega) _).chg c5 (by omega);have kk5:=c5.below ks (by omega) ks.size;clear ks o94 oT4 oA4 oR4 kk4 c5 yA dA;have yO:=o95;have yA:=yO.s3;clear yO;have dO:=oT5;have dA:=dO.s4;clear dO;have ks:Below w.heap.size w (w5.setCell ⟨w3.heap.size+1,2,none⟩ (I (m0:Nat))):=Below.setCell kk5 (by simp;omega) _
        go_wp2_with fail
        (with_reducible refine (F2.out _ _ (oA5.other (by simp) _)).mono ?_);rintro e w6 ⟨rfl,oA6,c6⟩;have o96:=(o95.other (by simp) _).chg c6 (by omega);have oT6:=(oT5.set 2 (I (m0:Nat))).chg c6 (by omega);have oR6:=(oR5.other (by simp;omega) _).chg c6 (by omega);have kk6:=c6.below ks (by omega) ks.size;clear ks o95 oT5 oA5 oR5 kk5 c6 yA dA;have yO:=o96;have yA:=yO.s3;clear yO;have dO:=oT6;have dA:=dO.s4;clear dO;have ks:Below w.heap.size w (w6.setCell ⟨w3.heap.size+1,1,none⟩ (I (i0:Nat))):=Below.setCell kk6 (by simp;omega) _
        go_wp2_with fail
        (with_reducible refine (F3.out _ _ (oA6.other (by simp) _)).mono ?_);rintro e w7 ⟨rfl,oA7,c7⟩;have o97:=(o96.other (by simp) _).chg c7 (by omega);have oT7:=(oT6.set 1 (I (i0:Nat))).chg c7 (by omega);have oR7:=(oR6.other (by simp;omega) _).chg c7 (by omega);have kk7:=c7.below ks (by omega) ks.size;clear ks o96 oT6 oA6 oR6 kk6 c7 yA dA;have yO:=o97;have yA:=yO.s3;clear yO;have dO:=oT7;have dA:=dO.s4;clear dO;have xO:=oA7;have xA:=xO.s1;clear xO;have ks:Below w.heap.size w (w7.setCell ⟨w3.heap.size+1,0,none⟩ (I (c0:Nat))):=Below.setCell kk7 (by simp;omega) _
        go_wp2_with fail
        (with_reducible refine (BB.out _).mono ?_);rintro e w8 ⟨rfl,k8⟩;have oT8:=(oT7.set 0 (I (c0:Nat))).below k8;have oR8:=(oR7.other (by simp;omega) _).below k8;have kk8:=ks.trans (k8.mono ks.size);clear k8 ks o97 oT7 oA7 oR7 kk7 yA dA xA;have zO:=oR8;have zA:=zO.s4;clear zO;have dO:=oT8;have dA:=dO.s4;clear dO;(try simp only [List.set_cons_zero,List.set_cons_succ] at dA);have oRk:=Lib.hid oR8;clear oR8
        go_wp2_with fail
        (with_reducible refine (FF.out _).mono ?_);rintro e w9 ⟨rfl,k9⟩;have oT9:=oT8.below k9;have oR9:=(show Own w8 w.heap.size _ from oRk.out).below k9;have kk9:=kk8.trans (k9.mono kk8.size);clear zA dA k9 kk8;have zO:=oR9;have zA:=zO.s4;clear zO;have dO:=oT9;have dA:=dO.s4;clear dO;(try simp only [List.set_cons_zero,List.set_cons_succ] at dA);go_wp2;exact bodyPost_ret (v:=T2 (.agg #[I c0,I i0,I m0,I t0]) (I 0)) (by simp [results,Tryz.results56,go_sem, *];try omega) rfl (ParP.ok HE.out HQ.out EF.out below_autor)
end Go.Proofs.YtfhmcahfjoliiaaGreatDoor
