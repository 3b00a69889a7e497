/- token.Words, ref.numberOf, ref.TokenWords · ref.numberOf, ref.TokenWords · decimal digits of a number: the plain laws · two wide numbers held against each other · words.Show -/
import Derived.Test.YtdjgcenjonegjaaGreatPk38
import Derived.Test.YtdjgcenjonegjaaGreatPk42
import Derived.ChangeKeysEq
import Derived.Lib.SlBytesRow
import Derived.Test.YtdjgcenjonegjaaGreatPk01
import Derived.Test.YtdjgcenjonegjaaGreatPk08
set_option maxRecDepth 20000
set_option maxHeartbeats 8000000
set_option linter.unusedSimpArgs false
set_option linter.unusedVariables false
namespace Go.Proofs.YtdjgcenjonegjaaGreat
section
open Go.RowKit

theorem putV_new {N lo v n:Nat} (hN:N < 2^lo) (hv:v < 2^n):putV N lo v n=N+v*2^lo:=by
  rw [putV_full _ _ _ _ hv];unfold fld;rw [Nat.div_eq_of_lt hN,Nat.zero_mod,Nat.zero_mul,Nat.sub_zero]
theorem val_digits {P:Nat} (hP:P < 79228162514264337593543950336):val [P%4294967296,P / 4294967296%4294967296,P / 18446744073709551616%4294967296]=P:=by
  rw [val3];omega
theorem cells2:Tryz.prog.cellsOf 166=2:=by kernel_rfl
theorem index4 (a0 a1 b0 b1 c0 c1 d0 d1:Value) (k:Nat) (hk:k < 4) (w:World):(Instr.index 167 (.agg #[a0,a1,b0,b1,c0,c1,d0,d1]) (I k)).run Tryz.prog w=.ok (.agg #[[a0,b0,c0,d0].getD k undef,[a1,b1,c1,d1].getD k undef]) w:=by
  obtain ⟨i,hi⟩:∃ i,Tryz.prog.info? 166=some i:=by
    have h:(Tryz.prog.info? 166).isSome=true:=by kernel_rfl
    exact Option.isSome_iff_exists.1 h
  have hu:Tryz.prog.underlying 167=some (.array 4 166):=by kernel_rfl
  have hu2:Tryz.prog.underlying 166=some (.struct (Tryz.prog.fieldsOf 166)):=by kernel_rfl
  have h0:(0:Int)≤(k:Int):=by omega
  have h1:(k:Int) < 4:=by omega
  simp only [Instr.index,part,isAgg,asIntOf,Sem.run_bind,Sem.run_pure,Result.andThen_ok,run_underlying hu,run_underlying hu2,run_sizeOf w hi,cells2,h0,h1,and_self,if_true,Int.toNat_natCast]
  match k,hk with
  | 0,_=>rfl
  | 1,_=>rfl
  | 2,_=>rfl
  | 3,_=>rfl
def tokN (c i m t:Nat):Nat:=((c*2199023255552+i*2097152+m)*65536+t)*97
def TokRel (W:World) (g N:Nat) (wr:World):Prop:=
  ∃ x y z:Nat,(x < 4294967296∧y < 4294967296∧z < 4294967296)∧val [x,y,z]=N∧Own wr g [U32 x,U32 y,U32 z]∧Own wr (W.heap.size+1) [U32 0,U32 0,U32 0]∧W.heap.size+1 < g∧Below W.heap.size W wr
theorem TokRel.next {W w':World} {g N x y z:Nat} {u0 u1 u2:Value} (hx:x < 4294967296) (hy:y < 4294967296) (hz:z < 4294967296) (hv:val [x,y,z]=N) (o1:Own w' g [u0,u1,u2]) (o2:Own w' (W.heap.size+1) [U32 0,U32 0,U32 0]) (hg:W.heap.size+1 < g) (hb:Below W.heap.size W w'):
    Hid (TokRel W g N (((w'.setCell ⟨g,0,none⟩ (U32 x)).setCell ⟨g,1,none⟩ (U32 y)).setCell ⟨g,2,none⟩ (U32 z))):=
  ⟨x,y,z,⟨hx,hy,hz⟩,hv,((o1.set 0 (U32 x)).set 1 (U32 y)).set 2 (U32 z),((o2.other (a:=⟨g,0,none⟩) (by show g≠W.heap.size+1;omega) _).other (a:=⟨g,1,none⟩) (by show g≠W.heap.size+1;omega) _).other (a:=⟨g,2,none⟩) (by show g≠W.heap.size+1;omega) _,hg,
    ((hb.setCell (p:=⟨g,0,none⟩) (by show W.heap.size≤g;omega) _).setCell (p:=⟨g,1,none⟩) (by show W.heap.size≤g;omega) _).setCell (p:=⟨g,2,none⟩) (by show W.heap.size≤g;omega) _⟩
theorem mod_lt32 (n:Nat):n%4294967296 < 4294967296:=Nat.mod_lt _ (by decide)

theorem Words_bad (x:AToken) (w:World) (h:tokFault x≠0):Calls Tryz.prog 42 #[.agg x.cells.toArray] w (GrewW2 0 0 0 (tokFault x) w):=by
  have B:=Lib.hid (fun W=>tkfault_any x W);generalize tokFault x=r at *;obtain ⟨c,i,m,t⟩:=x;show Calls Tryz.prog 42 #[.agg #[I c,I i,I m,I t]] w _;obtain ⟨kB,-,o2⟩:=boxes2 w [I c,I i,I m,I t] 72 [U32 0,U32 0,U32 0] 113;go_enter Tryz.func42,Tryz.ntmps42
  go_wp2_with fail
  refine (B.out _).mono ?_;rintro e w1 ⟨rfl,k1⟩;have zO:=o2.below k1;have zA:=zO.s3;clear zO;have kk:=kB.trans (k1.mono kB.size);clear o2 kB k1;have r1:=set_same;have r2:=set_off;have r3:=set_blk;go_wp2;refine bodyPost_ret (v:=T2 (wideV 0 0 0) (I r)) (by simp [results,Tryz.results42,go_sem, *]) rfl ⟨rfl,below_autor⟩
theorem Words_good (c i m t:Nat) (w:World) (h:tokFault ⟨c,i,m,t⟩=0):Calls Tryz.prog 42 #[.agg #[I c,I i,I m,I t]] w (GrewW2 (tokN c i m t%4294967296) (tokN c i m t / 4294967296%4294967296) (tokN c i m t / 18446744073709551616%4294967296) 0 w):=by
  have B:=Lib.hid (fun W=>tkfault_any ⟨c,i,m,t⟩ W);obtain ⟨⟨c0,c1⟩,⟨i0,i1⟩,⟨t0,t1⟩,m0,m1⟩:=tokFault_zero h;simp only at c0 c1 i0 i1 t0 t1 m0 m1;rw [h] at B;clear h;obtain ⟨kB,o1,o2⟩:=boxes2 w [I c,I i,I m,I t] 72 [U32 0,U32 0,U32 0] 113;go_enter Tryz.func42,Tryz.ntmps42
  go_wp2_with fail
  refine (B.out _).mono ?_;rintro e w1 ⟨rfl,k1⟩;have kk:=kB.trans (k1.mono kB.size);have q2:=(o2.below k1).alloc (.cells #[U32 0,U32 0,U32 0] 113);have dO:=(o1.below k1).alloc (.cells #[U32 0,U32 0,U32 0] 113);have dA:=dO.s4;clear dO;have hdd:=o1.below k1;have hdl:=hdd.lt;have hn0:¬ w.heap.size=w1.heap.size:=by omega
  have hR:Hid (TokRel w w1.heap.size 0 (w1.alloc (.cells #[U32 0,U32 0,U32 0] 113))):=
    ⟨0,0,0,by decide,rfl,Own.new rfl [U32 0,U32 0,U32 0] 113,q2,by have:=(o2.below k1).lt;omega,kk.alloc kk.size _⟩
  have aO:=hdd;have aA:=aO.s4;clear aO;clear o1 o2 kB k1 kk q2 hdd hdl;have r0:Hid (w.heap.size+1 < w1.heap.size):=by obtain ⟨_,_,_,_,_,_,_,hg,_⟩:=hR.out;exact hg
  go_wp2
  go_loopw [6,8,28] (fun at_ _ k wr=>(k=I 0∧at_=I 0∧Hid (TokRel w w1.heap.size 0 wr))∨(k=I 1∧at_=I 16∧Hid (TokRel w w1.heap.size t wr))∨(k=I 2∧at_=I 37∧Hid (TokRel w w1.heap.size (m*65536+t) wr))∨(k=I 3∧at_=I 57∧Hid (TokRel w w1.heap.size (i*137438953472+m*65536+t) wr))∨(k=I 4∧at_=I 59∧Hid (TokRel w w1.heap.size (c*144115188075855872+i*137438953472+m*65536+t) wr))) (fun _ _ k _=>(4-intOf k).toNat)
  case atStart=>exact .inl ⟨rfl,rfl,hR⟩
  case round=>
    clear hR dA aA;rcases hrel with ⟨rfl,rfl,hR⟩ | ⟨rfl,rfl,hR⟩ | ⟨rfl,rfl,hR⟩ | ⟨rfl,rfl,hR⟩ | ⟨rfl,rfl,hR⟩
    · obtain ⟨x,y,z,⟨hx,hy,hz⟩,hval,o1,o2,hg,hbw⟩:=hR.out
      have IX:∀ W,(Instr.index 167 (.agg #[.int .i64 16,I t,.int .i64 21,I m,.int .i64 20,I i,.int .i64 2,I c]) (I 0)).run Tryz.prog W=.ok (.agg #[I 16,I t]) W:=fun W=>index4 (I 16) (I t) (I 21) (I m) (I 20) (I i) (I 2) (I c) 0 (by decide) W;have P:=Lib.hid (fun W=>Put_any x y z 0 16 t W hx hy hz (by decide) (by decide) (by decide) (by omega));have hpn:putV (val [x,y,z]) 0 t 16=t:=by rw [hval,putV_new (by omega) (by omega)];omega
      have hvd:=val_digits (P:=t) (by omega);rw [hpn] at P;have b0:=mod_lt32 (t);have b1:=mod_lt32 ((t) / 4294967296);have b2:=mod_lt32 ((t) / 18446744073709551616);generalize (t)%4294967296=u0 at P hvd b0;generalize (t) / 4294967296%4294967296=u1 at P hvd b1;generalize (t) / 18446744073709551616%4294967296=u2 at P hvd b2;have o1':=o1.alloc (.cells #[I 16,I t] 166);have o2':=o2.alloc (.cells #[I 16,I t] 166);have o3':=Own.new (w:=wr) rfl [I 16,I t] 166;have hbw':=hbw.alloc hbw.size (.cells #[I 16,I t] 166);have hgl:=o1.lt;have cO:=o1;have cA:=cO.s3;clear cO;clear o1 o2 hbw hR hval hpn;have hvw:IntKind.u64.wrap (t:Int)=(t:Int):=by show (t:Int)%18446744073709551616=_;omega
      go_wp2_with fail
      refine (P.out _).mono ?_;rintro e w' ⟨rfl,k1⟩;have hnew:=TokRel.next b0 b1 b2 hvd (o1'.below k1) (o2'.below k1) hg (hbw'.trans (k1.mono hbw'.size));have fO:=o1'.below k1;have fA:=fO.s3;clear fO;have dO:=o3'.below k1;have dA:=dO.s2;clear dO;clear o1' o2' o3' hbw' P k1;have r1:=set_same;have r2:=set_off;have r3:=set_blk;go_wp2;exact ⟨.inr (.inl ⟨rfl,rfl,hnew⟩),by decide⟩
    · obtain ⟨x,y,z,⟨hx,hy,hz⟩,hval,o1,o2,hg,hbw⟩:=hR.out
      have IX:∀ W,(Instr.index 167 (.agg #[.int .i64 16,I t,.int .i64 21,I m,.int .i64 20,I i,.int .i64 2,I c]) (I 1)).run Tryz.prog W=.ok (.agg #[I 21,I m]) W:=fun W=>index4 (I 16) (I t) (I 21) (I m) (I 20) (I i) (I 2) (I c) 1 (by decide) W;have P:=Lib.hid (fun W=>Put_any x y z 16 21 m W hx hy hz (by decide) (by decide) (by decide) (by omega));have hpn:putV (val [x,y,z]) 16 m 21=(m*65536+t):=by rw [hval,putV_new (by omega) (by omega)];omega
      have hvd:=val_digits (P:=(m*65536+t)) (by omega);rw [hpn] at P;have b0:=mod_lt32 ((m*65536+t));have b1:=mod_lt32 (((m*65536+t)) / 4294967296);have b2:=mod_lt32 (((m*65536+t)) / 18446744073709551616);generalize ((m*65536+t))%4294967296=u0 at P hvd b0;generalize ((m*65536+t)) / 4294967296%4294967296=u1 at P hvd b1;generalize ((m*65536+t)) / 18446744073709551616%4294967296=u2 at P hvd b2;have o1':=o1.alloc (.cells #[I 21,I m] 166);have o2':=o2.alloc (.cells #[I 21,I m] 166);have o3':=Own.new (w:=wr) rfl [I 21,I m] 166;have hbw':=hbw.alloc hbw.size (.cells #[I 21,I m] 166);have hgl:=o1.lt;have cO:=o1;have cA:=cO.s3;clear cO;clear o1 o2 hbw hR hval hpn;have hvw:IntKind.u64.wrap (m:Int)=(m:Int):=by show (m:Int)%18446744073709551616=_;omega
      go_wp2_with fail
      refine (P.out _).mono ?_;rintro e w' ⟨rfl,k1⟩;have hnew:=TokRel.next b0 b1 b2 hvd (o1'.below k1) (o2'.below k1) hg (hbw'.trans (k1.mono hbw'.size));have fO:=o1'.below k1;have fA:=fO.s3;clear fO;have dO:=o3'.below k1;have dA:=dO.s2;clear dO;clear o1' o2' o3' hbw' P k1;have r1:=set_same;have r2:=set_off;have r3:=set_blk;go_wp2;exact ⟨.inr (.inr (.inl ⟨rfl,rfl,hnew⟩)),by decide⟩
    · obtain ⟨x,y,z,⟨hx,hy,hz⟩,hval,o1,o2,hg,hbw⟩:=hR.out
      have IX:∀ W,(Instr.index 167 (.agg #[.int .i64 16,I t,.int .i64 21,I m,.int .i64 20,I i,.int .i64 2,I c]) (I 2)).run Tryz.prog W=.ok (.agg #[I 20,I i]) W:=fun W=>index4 (I 16) (I t) (I 21) (I m) (I 20) (I i) (I 2) (I c) 2 (by decide) W;have P:=Lib.hid (fun W=>Put_any x y z 37 20 i W hx hy hz (by decide) (by decide) (by decide) (by omega));have hpn:putV (val [x,y,z]) 37 i 20=(i*137438953472+m*65536+t):=by rw [hval,putV_new (by omega) (by omega)];omega
      have hvd:=val_digits (P:=(i*137438953472+m*65536+t)) (by omega);rw [hpn] at P;have b0:=mod_lt32 ((i*137438953472+m*65536+t));have b1:=mod_lt32 (((i*137438953472+m*65536+t)) / 4294967296);have b2:=mod_lt32 (((i*137438953472+m*65536+t)) / 18446744073709551616);generalize ((i*137438953472+m*65536+t))%4294967296=u0 at P hvd b0;generalize ((i*137438953472+m*65536+t)) / 4294967296%4294967296=u1 at P hvd b1;generalize ((i*137438953472+m*65536+t)) / 18446744073709551616%4294967296=u2 at P hvd b2;have o1':=o1.alloc (.cells #[I 20,I i] 166);have o2':=o2.alloc (.cells #[I 20,I i] 166);have o3':=Own.new (w:=wr) rfl [I 20,I i] 166;have hbw':=hbw.alloc hbw.size (.cells #[I 20,I i] 166);have hgl:=o1.lt;have cO:=o1;have cA:=cO.s3;clear cO;clear o1 o2 hbw hR hval hpn;have hvw:IntKind.u64.wrap (i:Int)=(i:Int):=by show (i:Int)%18446744073709551616=_;omega
      go_wp2_with fail
      refine (P.out _).mono ?_;rintro e w' ⟨rfl,k1⟩;have hnew:=TokRel.next b0 b1 b2 hvd (o1'.below k1) (o2'.below k1) hg (hbw'.trans (k1.mono hbw'.size));have fO:=o1'.below k1;have fA:=fO.s3;clear fO;have dO:=o3'.below k1;have dA:=dO.s2;clear dO;clear o1' o2' o3' hbw' P k1;have r1:=set_same;have r2:=set_off;have r3:=set_blk;go_wp2;exact ⟨.inr (.inr (.inr (.inl ⟨rfl,rfl,hnew⟩))),by decide⟩
    · obtain ⟨x,y,z,⟨hx,hy,hz⟩,hval,o1,o2,hg,hbw⟩:=hR.out
      have IX:∀ W,(Instr.index 167 (.agg #[.int .i64 16,I t,.int .i64 21,I m,.int .i64 20,I i,.int .i64 2,I c]) (I 3)).run Tryz.prog W=.ok (.agg #[I 2,I c]) W:=fun W=>index4 (I 16) (I t) (I 21) (I m) (I 20) (I i) (I 2) (I c) 3 (by decide) W;have P:=Lib.hid (fun W=>Put_any x y z 57 2 c W hx hy hz (by decide) (by decide) (by decide) (by omega));have hpn:putV (val [x,y,z]) 57 c 2=(c*144115188075855872+i*137438953472+m*65536+t):=by rw [hval,putV_new (by omega) (by omega)];omega
      have hvd:=val_digits (P:=(c*144115188075855872+i*137438953472+m*65536+t)) (by omega);rw [hpn] at P;have b0:=mod_lt32 ((c*144115188075855872+i*137438953472+m*65536+t));have b1:=mod_lt32 (((c*144115188075855872+i*137438953472+m*65536+t)) / 4294967296);have b2:=mod_lt32 (((c*144115188075855872+i*137438953472+m*65536+t)) / 18446744073709551616);generalize ((c*144115188075855872+i*137438953472+m*65536+t))%4294967296=u0 at P hvd b0;generalize ((c*144115188075855872+i*137438953472+m*65536+t)) / 4294967296%4294967296=u1 at P hvd b1;generalize ((c*144115188075855872+i*137438953472+m*65536+t)) / 18446744073709551616%4294967296=u2 at P hvd b2;have o1':=o1.alloc (.cells #[I 2,I c] 166);have o2':=o2.alloc (.cells #[I 2,I c] 166);have o3':=Own.new (w:=wr) rfl [I 2,I c] 166;have hbw':=hbw.alloc hbw.size (.cells #[I 2,I c] 166);have hgl:=o1.lt;have cO:=o1;have cA:=cO.s3;clear cO;clear o1 o2 hbw hR hval hpn;have hvw:IntKind.u64.wrap (c:Int)=(c:Int):=by show (c:Int)%18446744073709551616=_;omega
      go_wp2_with fail
      refine (P.out _).mono ?_;rintro e w' ⟨rfl,k1⟩;have hnew:=TokRel.next b0 b1 b2 hvd (o1'.below k1) (o2'.below k1) hg (hbw'.trans (k1.mono hbw'.size));have fO:=o1'.below k1;have fA:=fO.s3;clear fO;have dO:=o3'.below k1;have dA:=dO.s2;clear dO;clear o1' o2' o3' hbw' P k1;have r1:=set_same;have r2:=set_off;have r3:=set_blk;go_wp2;exact ⟨.inr (.inr (.inr (.inr ⟨rfl,rfl,hnew⟩))),by decide⟩
    · obtain ⟨x,y,z,⟨hx,hy,hz⟩,hval,o1,o2,hg,hbw⟩:=hR.out
      have T:=Lib.hid (fun W=>Times_any x y z 97 W hx hy hz (by decide));have hl:allW [x,y,z]:=by intro d hd;simp at hd;omega
      have htd:=times_digits x y z 97;rw [hval,show (c*144115188075855872+i*137438953472+m*65536+t)*97=tokN c i m t by unfold tokN;omega] at htd;obtain ⟨e0,e1,e2,-⟩:=digits4 (wordC_lt (timesF_ok (show 97 < 4294967296 by decide)) hl (by decide) 0) (wordC_lt (timesF_ok (show 97 < 4294967296 by decide)) hl (by decide) 1) (wordC_lt (timesF_ok (show 97 < 4294967296 by decide)) hl (by decide) 2) htd;rw [← e0,← e1,← e2] at T;generalize tokN c i m t=N at *;generalize carryC (timesF 97) [x,y,z] 0 3=w3 at *;generalize N%4294967296=n0 at *;generalize N / 4294967296%4294967296=n1 at *;generalize N / 18446744073709551616%4294967296=n2 at *;have hgl:=o1.lt;have cO:=o1;have cA:=cO.s3;clear cO
      go_wp2_with fail
      refine (T.out _).mono ?_;rintro e w' ⟨rfl,k1⟩;have fO:=o1.below k1;have fA:=fO.s3;clear fO;have qO:=o2.below k1;have qA:=qO.s3;clear qO;have kk:=hbw.trans (k1.mono hbw.size);clear o1 o2 hbw k1 hR htd e0 e1 e2 hl;have r1:=set_same;have r2:=set_off;have r3:=set_blk;go_wp2;refine bodyPost_ret (v:=T2 (wideV n0 n1 n2) (I 0)) (by simp [results,Tryz.results42,go_sem, *]) rfl ⟨rfl,below_autor⟩
end
section
open Go.RowKit

theorem tokN_lt {c i m t:Nat} (h:tokFault ⟨c,i,m,t⟩=0):tokN c i m t < 73786976294838206464:=by
  obtain ⟨⟨c0,c1⟩,⟨i0,i1⟩,⟨t0,t1⟩,m0,m1⟩:=tokFault_zero h;simp only at c0 c1 i0 i1 t0 t1 m0 m1;unfold tokN;omega
theorem numberOf_any (c i m t:Nat) (w:World) (h:tokFault ⟨c,i,m,t⟩=0):Calls Tryz.prog 48 #[.agg #[I c,I i,I m,I t]] w (GrewBN (tokN c i m t) w):=by
  have B:=Lib.hid (fun W=>BodyOf_any ⟨c,i,m,t⟩ W);obtain ⟨⟨c0,c1⟩,⟨i0,i1⟩,⟨t0,t1⟩,m0,m1⟩:=tokFault_zero h;simp only at c0 c1 i0 i1 t0 t1 m0 m1;obtain ⟨b,hb⟩:∃ b,b=c*2199023255552+i*2097152+m:=⟨_,rfl⟩;have hbv:bodyV ⟨c,i,m,t⟩=(b:Int):=by unfold bodyV;rw [if_pos h];unfold bodyN;simp only;omega
  rw [h,hbv] at B;have hblt:b < 8796093022208:=by omega
  have hN:tokN c i m t=(b*65536+t)*97:=by unfold tokN;rw [hb]
  rw [hN];have big:18446744073709551616 < 4294967296^100:=Nat.lt_of_lt_of_le (by decide:18446744073709551616 < 4294967296^3) (Nat.pow_le_pow_right (by decide) (by decide));have N1:=Lib.hid (fun W=>NewInt_nat b W (by omega));have N2:=Lib.hid (fun W=>NewInt_nat 65536 W (by decide));have N3:=Lib.hid (fun W=>NewInt_nat t W (by omega));have N4:=Lib.hid (fun W=>NewInt_nat 97 W (by decide));have M1:=Lib.hid (fun W z y hz hy=>Mul_any z z y b b 65536 W hz hz hy (Nat.lt_trans (by omega) big) (Nat.lt_trans (by decide) big));have A:=Lib.hid (fun W z y hz hy=>Add_any z z y (b*65536) (b*65536) t W hz hz hy (Nat.lt_trans (by omega) big) (Nat.lt_trans (by omega) big));have M2:=Lib.hid (fun W z y hz hy=>Mul_any z z y (b*65536+t) (b*65536+t) 97 W hz hz hy (Nat.lt_trans (by omega) big) (Nat.lt_trans (by decide) big));have k0:=boxed_below w (.cells #[I c,I i,I m,I t] 72);have o1:=Own.new (w:=w) rfl [I c,I i,I m,I t] 72;clear hb hbv h big hN;generalize (b*65536+t)*97=n3 at *;generalize b*65536+t=n2 at *;generalize b*65536=n1 at *;go_enter Tryz.func48,Tryz.ntmps48
  go_wp2_with fail
  refine (B.out _).mono ?_;rintro e w1 ⟨rfl,k1⟩;have o2:=o1.below k1;have kk1:=k0.trans (k1.mono k0.size);clear o1 k0 k1
  go_wp2_with fail
  refine (N1.out _).mono ?_;rintro e w2 ⟨z,rfl,hz,hzl,k2⟩;have o3:=o2.below k2;have kk2:=kk1.trans (k2.mono kk1.size);have hzo:w.heap.size < z:=by have:=o2.lt;omega
  have hs1:=kk1.size;clear o2 k2 kk1
  go_wp2_with fail
  refine (N2.out _).mono ?_;rintro e w3 ⟨y,rfl,hy,hyl,k3⟩;have o4:=o3.below k3;have kk3:=kk2.trans (k3.mono kk2.size);have hz3:=hz.below k3;clear o3 k3 kk2 hz
  go_wp2_with fail
  refine (M1.out _ _ _ hz3 hy).mono ?_;rintro e w4 ⟨rfl,hz4,c4⟩;have o5:=o4.chg c4 (by omega);have kk4:=c4.below kk3 (by omega) kk3.size;clear o4 c4 kk3 hz3 hy;have dO:=o5;have dA:=dO.s4;clear dO
  go_wp2_with fail
  refine (N3.out _).mono ?_;rintro e w5 ⟨y2,rfl,hy2,hyl2,k5⟩;have kk5:=kk4.trans (k5.mono kk4.size);have hz5:=hz4.below k5;clear o5 k5 kk4 hz4 dA
  go_wp2_with fail
  refine (A.out _ _ _ hz5 hy2).mono ?_;rintro e w6 ⟨rfl,hz6,c6⟩;have kk6:=c6.below kk5 (by omega) kk5.size;clear c6 kk5 hz5 hy2
  go_wp2_with fail
  refine (N4.out _).mono ?_;rintro e w7 ⟨y3,rfl,hy3,hyl3,k7⟩;have kk7:=kk6.trans (k7.mono kk6.size);have hz7:=hz6.below k7;clear k7 kk6 hz6
  go_wp2_with fail
  refine (M2.out _ _ _ hz7 hy3).mono ?_;rintro e w8 ⟨rfl,hz8,c8⟩;have kk8:=c8.below kk7 (by omega) kk7.size;go_wp2;go_ret;exact ⟨z,rfl,hz8,by omega,kk8⟩
end
section
open Go.RowKit

theorem owns_kept {w w':World} {b e sz n:Nat} {v:Value} {cs:List Value} (h:w.ownsRow b e sz v n cs) (hb:Below w.heap.size w w'):w'.ownsRow b e sz v n cs:=by
  obtain ⟨hl,h⟩:=h;refine ⟨hl,h.imp id ?_⟩;rintro ⟨g,cap,cur,hv,hg,hh,r⟩;exact ⟨g,cap,cur,hv,hg,(hb.block g (Array.getElem?_eq_some_iff.1 hh).1).trans hh,r⟩

def dig (N j:Nat):Nat:=48+N / 10^j%10
theorem dig_lt (N j:Nat):dig N j < 58:=by unfold dig;omega
/-- the lowest L digits as bytes, the least first -/
def digB (N L:Nat):List Nat:=(List.range L).map (dig N)
theorem digB_succ (N L:Nat):digB N (L+1)=digB N L++[dig N L]:=by simp [digB,List.range_succ]
/-- so many digits are shown -/
def IsLen (N L:Nat):Prop:=1≤L∧N / 10^L=0∧(L=1∨N / 10^(L-1)≠0)
theorem div_more {N a b:Nat} (h:N / 10^a=0) (hab:a≤b):N / 10^b=0:=by
  obtain ⟨d,rfl⟩:∃ d,b=a+d:=⟨b-a,by omega⟩;rw [Nat.pow_add,← Nat.div_div_eq_div_mul,h,Nat.zero_div]
theorem IsLen.le {N L m:Nat} (h:IsLen N L) (hN:N < 10^m) (hm:1≤m):L≤m:=by
  rcases h.2.2 with h1 | h1
  · omega
  · refine Decidable.byContradiction fun hc=>h1 (div_more (Nat.div_eq_of_lt hN) (by omega))
/-- the digits as a text, the highest first -/
def showB (N L:Nat):ByteArray:=⟨((List.range L).map fun p=>UInt8.ofNat (dig N (L-1-p))).toArray⟩
theorem showB_size (N L:Nat):(showB N L).size=L:=by
  show (((List.range L).map fun p=>UInt8.ofNat (dig N (L-1-p))).toArray).size=L;simp
theorem showB_at {N L k:Nat} (h:k < (showB N L).size):((showB N L)[k]'h).toNat=dig N (L-1-k):=by
  have hk:k < L:=by rwa [showB_size] at h
  have e:∀ (A:Array UInt8) (hA:k < A.size),A=((List.range L).map fun p=>UInt8.ofNat (dig N (L-1-p))).toArray→A[k]'hA=UInt8.ofNat (dig N (L-1-k)):=by
    rintro A hA rfl;simp
  refine (congrArg UInt8.toNat (e (showB N L).data h rfl)).trans ?_;have:=dig_lt N (L-1-k);simp;omega
def GrewShow (N:Nat) (w:World) (e:Ending) (w':World):Prop:=∃ L,IsLen N L∧e=.returned (.string (showB N L))∧Below w.heap.size w w'
/-- the digits with the outer i of each end exchanged -/
def revMix (N L i:Nat):List Value:=(List.range L).map fun p=>.int .u8 ((dig N (if p < i∨L≤p+i then L-1-p else p):Nat):Int)
theorem revMix_len (N L i:Nat):(revMix N L i).length=L:=by simp [revMix]
theorem revMix_at {N L i p:Nat} (h:p < L):(revMix N L i).getD p undef=.int .u8 ((dig N (if p < i∨L≤p+i then L-1-p else p):Nat):Int):=by
  simp [revMix,List.getD_eq_getElem?_getD,h]
def bytesD (N L:Nat):List Value:=(digB N L).map fun (d:Nat)=>.int .u8 (d:Int)
theorem bytesD_succ (N L:Nat):bytesD N (L+1)=bytesD N L++[.int .u8 ((dig N L:Nat):Int)]:=by simp [bytesD,digB_succ]
theorem revMix_zero (N L:Nat):revMix N L 0=bytesD N L:=by
  unfold revMix bytesD digB;rw [List.map_map];apply List.map_congr_left;intro p hp;rw [List.mem_range] at hp;rw [if_neg (by omega)]
  rfl
theorem revMix_succ {N L i : Nat} (h : 2 * i + 1 < L) : ((revMix N L i).set i (.int .u8 ((dig N (L - 1 - i) : Nat) : Int))).set (L - 1 - i) (.int .u8 ((dig N i : Nat) : Int)) = revMix N L (i + 1) := by
  apply List.ext_getElem?;intro p
  by_cases hp:p < L
  · rw [List.getElem?_set, List.getElem?_set]
    simp only [revMix,List.length_set,List.length_map,List.length_range,List.getElem?_map,List.getElem?_range hp,Option.map_some]
    by_cases h1:L-1-i=p
    · rw [if_pos h1,if_pos (by omega)]
      rw [if_pos (by omega),show L-1-p=i by omega]
    · rw [if_neg h1]
      by_cases h2:i=p
      · rw [if_pos h2,if_pos (by omega)]
        rw [if_pos (by omega),← h2]
      · rw [if_neg h2]
        by_cases h3:p < i∨L≤p+i
        · rw [if_pos h3,if_pos (by omega)]
        · rw [if_neg h3,if_neg (by omega)]
  · rw [List.getElem?_eq_none (by simp [revMix_len];omega),List.getElem?_eq_none (by simp [revMix_len];omega)]
theorem revMix_done {N L i:Nat} (h:L≤2*i+1) (p:Nat) (hp:p < L):(revMix N L i).getD p undef=.int .u8 ((dig N (L-1-p):Nat):Int):=by
  rw [revMix_at hp]
  by_cases h3:p < i∨L≤p+i
  · rw [if_pos h3]
  · rw [if_neg h3,show L-1-p=p by omega]
theorem show_bytes {w:World} {g N L i:Nat} (h:L≤2*i+1) (hO:Own w g (revMix N L i)):Go.Lib.Bytes w g 0 (showB N L):=by
  intro k hk;have hk':k < L:=by rwa [showB_size] at hk
  rw [hO.cell k (by rw [revMix_len];exact hk'),revMix_done h k hk',showB_at hk]
end
section
open Go.RowKit
theorem cellsWide:Tryz.prog.cellsOf 80=1:=by kernel_rfl
theorem equalWide (a b c a' b' c':Int) (w:World):(Op.equalIn 10000 113 (.agg #[U32 a,U32 b,U32 c]) (.agg #[U32 a',U32 b',U32 c'])).run Tryz.prog w=.ok (decide (a=a'∧b=b'∧c=c')) w:=by
  obtain ⟨i,hi⟩:∃ i,Tryz.prog.info? 80=some i:=by
    have h:(Tryz.prog.info? 80).isSome=true:=by kernel_rfl
    exact Option.isSome_iff_exists.1 h
  have hu:Tryz.prog.underlying 113=some (.array 3 80):=by kernel_rfl
  have hu2:Tryz.prog.underlying 80=some (.int .u32):=by kernel_rfl
  rw [run_equalIn_array w 9999 _ _ hu hi,cellsWide];simp [Op.eqItems,List.range,List.range.loop,go_sem,hu2]
  by_cases h1:a=a'<;>by_cases h2:b=b'<;>by_cases h3:c=c'<;>simp [h1,h2,h3]
end
section
open Go.RowKit

theorem infoStr:(Tryz.prog.info? 9).map (fun i=>(i.zero,i.size,i.bytes))=some (some (.string ByteArray.empty),1,16):=by kernel_rfl
def ch (d:Nat):ByteArray:=Utf8.encode (d:Int)
theorem ch_bytes {d:Nat} (h:d < 128):(ch d).data.toList=[UInt8.ofNat d]:=by
  have hv:Utf8.valid (d:Int)=true:=by
    unfold Utf8.valid;simp;omega
  unfold ch Utf8.encode;simp only [hv,if_true,Int.toNat_natCast];rw [if_pos h]
theorem flat_ones (l:List Nat) (hl:∀ d∈l,d < 128):Go.Lib.join ((l.map ch).map (·.data.toList)) []=l.map UInt8.ofNat:=by
  unfold Go.Lib.join;rw [List.map_map];have e:l.map ((fun (x:ByteArray)=>x.data.toList) ∘ ch)=l.map fun d=>[UInt8.ofNat d]:=List.map_congr_left fun d hd=>ch_bytes (hl d hd);rw [e];clear e hl
  induction l with
  | nil=>rfl
  | cons d l ih=>
    cases l with
    | nil=>simp [List.intercalate]
    | cons d2 l=>
      simp only [List.intercalate,List.map_cons,List.intersperse_cons_cons,List.flatten_cons,List.nil_append] at ih ⊢;rw [ih]
      rfl
theorem over_ten {x y z:Nat}:val [x,y,z] / 10=val [quoO 10 [x,y,z] 2,quoO 10 [x,y,z] 1,quoO 10 [x,y,z] 0]∧val [x,y,z]%10=remO 10 [x,y,z] 3:=by
  have ov:=over_digits x y z 10;have hr3:=remO_lt (d:=10) (l:=[x,y,z]) (by decide) 3;rw [← val3] at ov;omega
theorem own3 {w:World} {g:Nat} {x y z:Value} (h:Own w g [x,y,z]):(w.cell? ⟨g,0,none⟩=some x∧w.cell? ⟨g,1,none⟩=some y∧w.cell? ⟨g,2,none⟩=some z)∧w.frozen? ⟨g,0,none⟩=false∧w.frozen? ⟨g,1,none⟩=false∧w.frozen? ⟨g,2,none⟩=false:=by
  have h0:=h.cell 0 (by simp);have h1:=h.cell 1 (by simp);have h2:=h.cell 2 (by simp);simp only [Nat.zero_add,List.getD_cons_zero,List.getD_cons_succ] at h0 h1 h2;exact ⟨⟨h0,h1,h2⟩,h.frozen 0,h.frozen 1,h.frozen 2⟩
theorem below_cells {B b:Nat} {a:World} (hb:B≤b):∀ (vs:List Value) (o:Nat) (w:World),Below B a w→Below B a (w.setCells b o vs)
  | [],_,_,h=>h
  | v::r,o,w,h=>below_cells hb r (o+1) _ (h.setCell (p:=⟨b,o,none⟩) hb v)
theorem size_setCells' (b:Nat):∀ (vs:List Value) (o:Nat) (w:World),(w.setCells b o vs).heap.size=w.heap.size
  | [],_,_=>rfl
  | v::r,o,w=>by rw [World.setCells,size_setCells' b r];simp [World.setCell]
theorem rev_cells {g n:Nat} {Sx:Nat→ByteArray} {w:World} (h:∀ j,j < n→(w.cell? ⟨g,0+j,none⟩).isSome=true) (j:Nat) (hj:j < n):
    (w.setCells g 0 ((Go.Lib.strsOf Sx n).reverse.map Go.Proofs.encStr)).cell? ⟨g,0+j,none⟩=some (.string (Sx (n-1-j))):=by
  have hl:((Go.Lib.strsOf Sx n).reverse.map Go.Proofs.encStr).length=n:=by simp [Go.Lib.strsOf]
  have h1:=World.cell?_setCells_in g ((Go.Lib.strsOf Sx n).reverse.map Go.Proofs.encStr) 0 w (fun i hi=>h i (by omega)) j (by omega);rw [h1]
  congr 1
  simp [Go.Lib.strsOf,List.getElem_reverse]
def ShowRel (W:World) (N k:Nat) (v:Value) (wr:World):Prop:=
  ∃ x y z:Nat,(x < 4294967296∧y < 4294967296∧z < 4294967296)∧val [x,y,z]=N / 10^k∧Own wr W.heap.size [U32 x,U32 y,U32 z]∧wr.ownsRow (W.heap.size+1) 9 1 v k ((List.range k).map fun j=>.string (ch (dig N j)))∧Below W.heap.size W wr
theorem Show_any (a b c : Nat) (w : World) (ha : a < 4294967296) (hb : b < 4294967296) (hc : c < 4294967296) :
    Calls Tryz.prog 43 #[wideV a b c] w (GrewShow (val [a,b,c]) w):=by
  have hN:val [a,b,c] < 10^29:=Nat.lt_trans (val3_lt ha hb hc) (by decide);obtain ⟨i0,hi,hz0,hz1,hz2⟩:=info_parts infoStr
  have hD:Hid (ShowRel w (val [a,b,c]) 0 (.slice none 0 0) (w.alloc (.cells #[U32 a,U32 b,U32 c] 113))):=
    ⟨a,b,c,⟨ha,hb,hc⟩,by rw [Nat.pow_zero,Nat.div_one],Own.new rfl [U32 a,U32 b,U32 c] 113,World.ownsRow_nil _ _ _ _,boxed_below w _⟩
  generalize val [a,b,c]=N at *;go_enter Tryz.func43,Tryz.ntmps43;go_wp2
  go_loopg [3,4,5,6] 41 (fun gk v _ _ _ wr=>∃ k,k≤40∧gk=41-k∧Hid (k=0∨N / 10^k≠0)∧Hid (ShowRel w N k v wr))
  case atStart=>exact ⟨0,by decide,rfl,.inl rfl,hD⟩
  case round=>
    clear hD;obtain ⟨k,hk,rfl,hk0,hD⟩:=hrel;obtain ⟨x,y,z,⟨hx,hy,hz⟩,hval,oW,hown,hbw⟩:=hD.out
    have hk40:k < 40:=by
      rcases hk0.out with h | h
      · omega
      · exact Decidable.byContradiction fun hc=>h (div_more (Nat.div_eq_of_lt hN) (by omega))
    have O:=Lib.hid (fun W=>Over_any x y z 10 W hx hy hz (by decide) (by decide));have hl:allW [x,y,z]:=by intro d hd;simp at hd;omega
    have b0:=quoO_lt hl (show 0 < 10 by decide) 2;have b1:=quoO_lt hl (show 0 < 10 by decide) 1;have b2:=quoO_lt hl (show 0 < 10 by decide) 0;have hr3:=remO_lt (d:=10) (l:=[x,y,z]) (by decide) 3;obtain ⟨hdiv,hmod⟩:=over_ten (x:=x) (y:=y) (z:=z);rw [hval] at hdiv hmod;rw [Nat.div_div_eq_div_mul,← Nat.pow_succ,Nat.succ_eq_add_one] at hdiv;generalize quoO 10 [x,y,z] 2=u0 at *;generalize quoO 10 [x,y,z] 1=u1 at *;generalize quoO 10 [x,y,z] 0=u2 at *;generalize remO 10 [x,y,z] 3=r at *;have hdg:dig N k=48+r:=by unfold dig;rw [hmod]
    have hch:=Lib.hid (show Utf8.encode ((48:Int)+(r:Int))=ch (dig N k) by rw [hdg];unfold ch;congr 1);have hwi:IntKind.i32.wrap (48+(r:Int))=48+(r:Int):=by simp [IntKind.wrap,IntKind.bits,IntKind.signed];omega
    have hwu:(48+(r:Int))%4294967296=48+(r:Int):=by omega
    have hsz:=hbw.size;have hown2:=Lib.hid hown;have cO:=oW;have cA:=cO.s3;clear cO;have HO:=Lib.hid oW;clear hl hval hmod hdg hD hown oW
    go_wp2_with fail
    refine (O.out _).mono ?_;rintro e w2 ⟨rfl,k2⟩;have oW2:=(HO.out.below k2).alloc (.cells #[U32 u0,U32 u1,U32 u2] 113);have oN2:=Own.new (w:=w2) rfl [U32 u0,U32 u1,U32 u2] 113;have kA:=boxed_below w2 (.cells #[U32 u0,U32 u1,U32 u2] 113);have hownA:=owns_kept hown2.out k2;have hown3:=owns_kept hownA kA;have hbw2:=hbw.trans (k2.mono hbw.size);have hbw3:=hbw2.trans (kA.mono hbw2.size);have hsz3:=hbw3.size;have hs2:=(HO.out.below k2).lt;have HDV:=Lib.hid hdiv;clear hdiv
    have HX:=Lib.hid (fun (c:ByteArray) w' (hg:((w2.alloc (.cells #[U32 u0,U32 u1,U32 u2] 113)).alloc (.cells #[.string c] 9)).grownBy w' u3.ownBlock)=>
      And.intro ((oW2.alloc (.cells #[.string c] 9)).grown hg (fun he=>by have:=(hownA.lt _ he.symm).1;omega)) ((oN2.alloc (.cells #[.string c] 9)).grown hg (fun he=>by have:=(hownA.lt _ he.symm).2;omega)))
    have H1:=Lib.hid (And.intro oW2 (And.intro oN2 (And.intro hown3 (And.intro hbw3 hs2))));clear oW2 oN2 kA hownA hown3 hbw2 hbw3 hsz3 hs2;simp only []
    go_at_K
    iterate 44 (go_step)
    rw [hch.out];clear hch;obtain ⟨oW2,oN2,hown3,hbw3,hs2⟩:=H1.out;have hchd:Hid (ch (dig N k)=ch (dig N k)):=rfl;generalize hcs:ch (dig N k)=cs at hchd ⊢;have HCS:=Lib.hid hcs;clear hcs hchd;have r1:=set_same;have r2:=set_off;have r3:=set_blk
    go_wp2_with (((at_builtin;refine wpList_append_own _ rfl _ _ 172 rfl (w.heap.size+1) 9 i0 (.string ByteArray.empty) 1 16 Tryz.underlying172 hi hz0 hz1 hz2 rfl (by decide) _ _ _ rfl (hown3.alloc _) ⟨w2.heap.size+1,0,none⟩ 1 1 [.string cs] rfl rfl (news_at _ (size_alloc1 _ _) [.string cs] _) (oneCells_lit rfl) (by unfold maxLen;omega) (by omega) (by simp;omega) ?_;intro v' w1 hown' hgrow _));obtain ⟨p1,p2⟩:=HX.out _ _ hgrow;obtain ⟨⟨d0,d1,d2⟩,df0,df1,df2⟩:=own3 p1;obtain ⟨⟨f0,f1,f2⟩,ff0,ff1,ff2⟩:=own3 p2;have P1:=Lib.hid p1;have P2:=Lib.hid p2;clear p1 p2)
    have hbel:=grown_below (hbw3.alloc hbw3.size (.cells #[.string cs] 9)) (hown3.alloc _) (by omega) hgrow
    have hcells:((List.range k).map fun j=>Value.string (ch (dig N j)))++[.string cs]=(List.range (k+1)).map fun j=>Value.string (ch (dig N j)):=by
      rw [List.range_succ,List.map_append,← HCS.out];rfl
    rw [hcells] at hown';clear hcells hown3 hown2 HX H1 hbw3 oW2 oN2 hgrow HO O
    by_cases hzz:u0=0∧u1=0∧u2=0
    · have EQ:∀ W,(Op.equalIn 10000 113 (.agg #[U32 u0,U32 u1,U32 u2]) (.agg #[U32 0,U32 0,U32 0])).run Tryz.prog W=.ok true W:=fun W=>by
        rw [equalWide,decide_eq_true (by omega)]
      obtain ⟨z0,z1,z2⟩:=hzz;have hL:IsLen N (k+1):=⟨by omega,by rw [HDV.out,val3];omega,by rcases hk0.out with h | h;exact .inl (by omega);exact .inr h⟩;obtain ⟨g,cap,rfl,hgb,hcap,hOg⟩:=(owns_cases hown').resolve_left (by omega);have hOg2:=Lib.hid (((hOg.other (a:=⟨w.heap.size,0,none⟩) (by show w.heap.size≠g;omega) (U32 u0)).other (a:=⟨w.heap.size,1,none⟩) (by show w.heap.size≠g;omega) (U32 u1)).other (a:=⟨w.heap.size,2,none⟩) (by show w.heap.size≠g;omega) (U32 u2));have hbF:=Lib.hid (((hbel.setCell (p:=⟨w.heap.size,0,none⟩) (Nat.le_refl _) (U32 u0)).setCell (p:=⟨w.heap.size,1,none⟩) (Nat.le_refl _) (U32 u1)).setCell (p:=⟨w.heap.size,2,none⟩) (Nat.le_refl _) (U32 u2));have hgb':w.heap.size≤g:=by omega
      clear hown' hOg hbel P1 P2 d0 d1 d2 df0 df1 df2 f0 f1 f2 ff0 ff1 ff2 HDV;rw [EQ];clear EQ z0 z1 z2;go_simp
      go_wp2_with fail
      refine (Tryz.slices_Reverse_string_cells g 0 (k+1) cap (fun j=>ch (dig N j)) _ (by omega) ?_ ?_).mono ?_
      · intro i hi
        have h1:=hOg2.out.cell i (by simp;omega);rw [h1];simp [List.getD_eq_getElem?_getD,hi]
      · intro j _
        rw [Nat.zero_add];exact hOg2.out.frozen j
      rintro e w5 ⟨rfl,q5,rfl⟩
      have hOs:∀ j,j < k+1→((((((w1.setCell ⟨w.heap.size,0,none⟩ (U32 u0)).setCell ⟨w.heap.size,1,none⟩ (U32 u1)).setCell ⟨w.heap.size,2,none⟩ (U32 u2)).drewN q5)).cell? ⟨g,0+j,none⟩).isSome=true:=fun j hj=>by
        have h1:=(hOg2.out.drewN q5).cell j (by simp;omega);rw [h1];rfl
      have hRC:=Lib.hid (rev_cells (Sx:=fun j=>ch (dig N j)) hOs);have hk6:=below_cells hgb' ((Go.Lib.strsOf (fun j=>ch (dig N j)) (k+1)).reverse.map Go.Proofs.encStr) 0 _ (drewN_below hbF.out q5)
      have hlt6:g < ((((((w1.setCell ⟨w.heap.size,0,none⟩ (U32 u0)).setCell ⟨w.heap.size,1,none⟩ (U32 u1)).setCell ⟨w.heap.size,2,none⟩ (U32 u2)).drewN q5)).setCells g 0 ((Go.Lib.strsOf (fun j=>ch (dig N j)) (k+1)).reverse.map Go.Proofs.encStr)).heap.size:=by
        rw [size_setCells'];exact (hOg2.out.drewN q5).lt
      generalize ((((((w1.setCell ⟨w.heap.size,0,none⟩ (U32 u0)).setCell ⟨w.heap.size,1,none⟩ (U32 u1)).setCell ⟨w.heap.size,2,none⟩ (U32 u2)).drewN q5)).setCells g 0 ((Go.Lib.strsOf (fun j=>ch (dig N j)) (k+1)).reverse.map Go.Proofs.encStr))=w6 at *;have hxl:((List.range (k+1)).map fun p=>dig N (k-p)).length=k+1:=by simp
      have hjn:=flat_ones ((List.range (k+1)).map fun p=>dig N (k-p)) (fun d hd=>by
        obtain ⟨p,_,rfl⟩:=List.mem_map.1 hd;exact Nat.lt_trans (dig_lt N _) (by decide))
      have J:=Tryz.strings_Join g 0 cap (((List.range (k+1)).map fun p=>dig N (k-p)).map ch) ⟨#[]⟩ w6 (fun j x hx=>by
        have hj:j < k+1:=by
          have:=(List.getElem?_eq_some_iff.1 hx).1;simpa using this
        rw [hRC.out j hj];simp [hj] at hx;rw [← hx]
        simp) hlt6 (by simp;omega) (by simp;omega) (by
          show (Go.Lib.join _ []).length≤_;rw [hjn];simp;omega)
      rw [List.length_map,hxl] at J
      have hsb:(⟨(Go.Lib.join ((((List.range (k+1)).map fun p=>dig N (k-p)).map ch).map (·.data.toList)) (⟨#[]⟩:ByteArray).data.toList).toArray⟩:ByteArray)=showB N (k+1):=by
        show (⟨(Go.Lib.join _ []).toArray⟩:ByteArray)=_;rw [hjn,List.map_map]
        rfl
      rw [hsb] at J;clear hOg2 hbF hOs hRC
      go_wp2_with fail
      refine J.mono ?_;rintro e w7 ⟨rfl,k7⟩;go_wp2;go_ret;exact ⟨k+1,hL,rfl,hk6.trans (k7.mono hk6.size)⟩
    · have EQ:∀ W,(Op.equalIn 10000 113 (.agg #[U32 u0,U32 u1,U32 u2]) (.agg #[U32 0,U32 0,U32 0])).run Tryz.prog W=.ok false W:=fun W=>by
        rw [equalWide,decide_eq_false (by omega)]
      have hne:N / 10^(k+1)≠0:=by
        rw [HDV.out,val3];omega
      have hnew:Hid (ShowRel w N (k+1) v' (((w1.setCell ⟨w.heap.size,0,none⟩ (U32 u0)).setCell ⟨w.heap.size,1,none⟩ (U32 u1)).setCell ⟨w.heap.size,2,none⟩ (U32 u2))):=
        ⟨u0,u1,u2,⟨b0,b1,b2⟩,HDV.out.symm,((P1.out.set 0 (U32 u0)).set 1 (U32 u1)).set 2 (U32 u2),
          ownsRow_setCell_below (ownsRow_setCell_below (ownsRow_setCell_below hown' (a:=⟨w.heap.size,0,none⟩) (by show w.heap.size < _;omega) _) (a:=⟨w.heap.size,1,none⟩) (by show w.heap.size < _;omega) _) (a:=⟨w.heap.size,2,none⟩) (by show w.heap.size < _;omega) _,
          ((hbel.setCell (p:=⟨w.heap.size,0,none⟩) (Nat.le_refl _) _).setCell (p:=⟨w.heap.size,1,none⟩) (Nat.le_refl _) _).setCell (p:=⟨w.heap.size,2,none⟩) (Nat.le_refl _) _⟩
      have HNE:=Lib.hid (show k+1=0∨N / 10^(k+1)≠0 from .inr hne);clear hown' hbel P1 P2 d0 d1 d2 df0 df1 df2 f0 f1 f2 ff0 ff1 ff2 hne;rw [EQ];go_simp;go_wp2
      go_roundg (41-(k+1))
      case measure=>omega
      case rel=>exact ⟨k+1,by omega,rfl,HNE,hnew⟩
end
end Go.Proofs.YtdjgcenjonegjaaGreat
