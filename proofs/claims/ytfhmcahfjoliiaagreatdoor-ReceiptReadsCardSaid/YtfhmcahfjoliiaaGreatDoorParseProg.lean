/- token.Parse -/
import Derived.Test.YtfhmcahfjoliiaaGreatDoorPk24
import Derived.Test.YtfhmcahfjoliiaaGreatDoorPk05
import Derived.Test.YtfhmcahfjoliiaaGreatDoorPk20
import Derived.Test.YtfhmcahfjoliiaaGreatDoorShelf
import Derived.Deep.RegionHeld3
import Derived.IntWalk
set_option maxRecDepth 20000
set_option maxHeartbeats 8000000
set_option linter.unusedSimpArgs false
set_option linter.unusedVariables false
namespace Go.Proofs.YtfhmcahfjoliiaaGreatDoor
open Go.RowKit

/-- token.field: it gives v, and moves its place -/
def TF (g:Nat) (v at':Nat) (w:World) (e:Ending) (w':World):Prop:=e=.returned (I v)∧Own w' g [I at']∧Chg g w w'
theorem tfield_any (a b c lo n g:Nat) (w:World) (ha:a < 4294967296) (hb:b < 4294967296) (hc:c < 4294967296) (hn0:1≤n) (hn:n≤62) (hlo:lo+n≤96) (hg:Own w g [I lo]):
    Calls Tryz.prog 85 #[wideV a b c,.pointer (some ⟨g,0,none⟩),I n] w (TF g (fld (val [a,b,c]) lo n) (lo+n) w):=by
  have B:=Lib.hid (fun W=>Bits_any a b c lo n W ha hb hc hn0 (by omega) hlo);have hv:fld (val [a,b,c]) lo n < 4611686018427387904:=Nat.lt_of_lt_of_le (fld_lt _ _ _) (Nat.le_trans (Nat.pow_le_pow_right (by decide) hn) (by decide));have gl:=hg.lt;have O1:=Lib.hid (Own.new (w:=w) rfl [U32 a,U32 b,U32 c] 111);have k0:=boxed_below w (.cells #[U32 a,U32 b,U32 c] 111);have O2:=Lib.hid (hg.below k0);have C0:=Lib.hid (Chg.of_below (z:=g) k0);clear k0 hg;generalize fld (val [a,b,c]) lo n=v at *;have q1:IntKind.i64.wrap ((v:Nat):Int)=(v:Int):=IntWalk.i64_in _ (by omega);have q2:IntKind.i64.wrap ((lo:Int)+(n:Int))=(lo:Int)+(n:Int):=IntWalk.i64_in _ (by omega);go_enter Tryz.func85,Tryz.ntmps85;go_wp2;have HV:=Lib.hid hv;have gl2:g < (w.alloc (.cells #[U32 a,U32 b,U32 c] 111)).heap.size:=by simp;omega
  have gl3:w.heap.size < (w.alloc (.cells #[U32 a,U32 b,U32 c] 111)).heap.size:=by simp
  generalize w.alloc (.cells #[U32 a,U32 b,U32 c] 111)=W at *;have gne:¬ w.heap.size=g:=by omega
  have gne2:¬ g=w.heap.size:=by omega
  generalize w.heap.size=z at *;have qO:=O1.out;have qfA:=qO.f;have q0:=qO.c0;have q1:=qO.c1;have q2:=qO.c2;clear qO;have dO:=O2.out;have dfA:=dO.f;have d0:=dO.c0;clear dO;clear hv qfA
  go_region_held3 (fun w'=>w'.cell? ⟨z,0,none⟩=some (U32 a)∧w'.cell? ⟨z,1,none⟩=some (U32 b)∧w'.cell? ⟨z,2,none⟩=some (U32 c)∧w'.cell? ⟨g,0,none⟩=some (I lo)) (first | go_keep | (go_split_ands;refine ⟨?_,?_,?_,?_⟩<;>assumption))
    (first
      | ((with_reducible refine (B.out _).mono ?_); rintro e w1 ⟨rfl, k1⟩
         have x0:w1.cell? ⟨z,0,none⟩=some (U32 a):=(k1.cell (p:=⟨z,0,none⟩) gl3).trans q0;have x1:w1.cell? ⟨z,1,none⟩=some (U32 b):=(k1.cell (p:=⟨z,1,none⟩) gl3).trans q1;have x2:w1.cell? ⟨z,2,none⟩=some (U32 c):=(k1.cell (p:=⟨z,2,none⟩) gl3).trans q2;have x3:w1.cell? ⟨g,0,none⟩=some (I lo):=(k1.cell (p:=⟨g,0,none⟩) gl2).trans d0)
      | fail)
  all_goals
    have k1':Below W.heap.size W w1:=⟨k1.os,k1.tape,k1.output,k1.size,k1.block⟩;have o3:=Lib.hid (O2.out.below k1');have c3:=Lib.hid (C0.out.trans (Chg.of_below (z:=g) k1'));have f3:=o3.out.frozen 0;clear k1 k1' q0 q1 q2 d0 dfA;go_wp2;go_ret;exact ⟨rfl,o3.out.set 0 _,c3.out.set 0 _⟩

/-- the round's world: the result's block, the iterator, the rest as it was -/
def PRel (s:ByteArray) (W:World) (k:Nat) (wr:World):Prop:=Own wr W.heap.size [I 0,I 0,I 0,I 0]∧wr.heap[W.heap.size+1]?=some (.stringIter s k)∧Below W.heap.size W wr
theorem PRel.start {s:ByteArray} {W:World}:PRel s W 0 ((W.alloc (.cells #[I 0,I 0,I 0,I 0] 86)).iter s 0):=by
  have h:=World.iter_heap (W.alloc (.cells #[I 0,I 0,I 0,I 0] 86)) s 0;rw [World.size_alloc] at h;exact ⟨(Own.new (w:=W) rfl [I 0,I 0,I 0,I 0] 86).below (iter_below _ _ _),h,(boxed_below W _).trans ((iter_below _ _ _).mono (boxed_below W _).size)⟩
theorem PRel.next {s:ByteArray} {W wr:World} {k:Nat} (h:PRel s W k wr) (q:Nat):PRel s W q (iterTo wr (W.heap.size+1) s q):=
  ⟨h.1.iterTo (by omega) s q,iterTo_at h.2.1,iterTo_below h.2.2 (by omega) s q⟩
theorem Parse_len (s:ByteArray) (w:World) (h:s.size≠20):Calls Tryz.prog 56 #[.string s] w (ParP s w):=by
  have hE:=Lib.hid (show parE s=6 by unfold parE;rw [if_neg h]);have h1:¬ (s.size:Int)=20:=by omega
  have zO:=(Own.new (w:=w) rfl [I 0,I 0,I 0,I 0] 86);have zA:=zO.s4;clear zO;have r1:=set_same;have r2:=set_off;have r3:=set_blk;clear h;go_enter Tryz.func56,Tryz.ntmps56;go_wp2;exact bodyPost_ret (v:=T2 (.agg #[I 0,I 0,I 0,I 0]) (I 6)) (by simp [results,Tryz.results56,go_sem, *];try omega) rfl (ParP.bad hE.out (by decide) below_autor)
theorem Parse_bad (s : ByteArray) (w : World) (hs : s.size = 20) (hd : allDig s 20 = false) : Calls Tryz.prog 56 #[.string s] w (ParP s w) := by
  have HB:Hid (allDig s 20=false→parE s=7):=fun _=>by unfold parE;rw [if_pos hs,hd];rfl
  have HD:=Lib.hid hd;clear hd;have h1:(s.size:Int)=20:=by omega
  have HS:=Lib.hid hs;clear hs;go_enter Tryz.func56,Tryz.ntmps56;go_wp2
  go_loopw [5] (fun _ wr=>∃ k:Nat,k≤20∧Hid (allDig s k=true)∧Hid (PRel s w k wr)) (fun _ wr=>20-wr.iterPos (w.heap.size+1))
  case atStart=>exact ⟨0,Nat.zero_le _,rfl,PRel.start⟩
  case round=>
    obtain ⟨k,hk,hall,hR⟩:=hrel;have hit:=hR.out.2.1
    by_cases hlt:k < s.size
    · have hb:=bat_lt s k
      by_cases ha:bat s k < 128
      · have hnx:=next_ascii_at (P:=Tryz.prog) hit hlt ha
        have hN:=Lib.hid (hR.out.next (k+1));have hp0:=Lib.hid (iter_pos hit);have hp1:=Lib.hid (iterTo_pos (q:=k+1) hit);cases hd:digAt s k
        · have hA:=Lib.hid (HB.out (allDig_no (show k < 20 by omega) hd))
          have hd':=Lib.hid hd
          have hq:bat s k < 48∨¬ bat s k < 48∧57 < bat s k:=by
            have:=hd'.out;rw [← Bool.not_eq_true,digAt_true] at this;omega
          obtain ⟨oR,-,kk⟩:=hN.out;have zO:=oR;have zA:=zO.s4;clear zO;have r1:=set_same;have r2:=set_off;have r3:=set_blk;clear hd hR hall oR hb ha;generalize bat s k=c at *;rcases hq with hq | ⟨hq1,hq2⟩
          all_goals
            go_wp2;exact bodyPost_ret (v:=T2 (.agg #[I 0,I 0,I 0,I 0]) (I 7)) (by simp [results,Tryz.results56,go_sem, *];try omega) rfl (ParP.bad hA.out (by decide) below_autor)
        · obtain ⟨d0,d1⟩:=digAt_true.1 hd
          have hA:=Lib.hid (allDig_succ hall.out hd);have q1:¬ ((bat s k:Nat):Int) < 48:=by omega
          have q2:¬ (57:Int) < ((bat s k:Nat):Int):=by omega
          clear hd hb ha hR;generalize bat s k=c at *;go_wp2;exact ⟨⟨k+1,by omega,hA,hN⟩,by rw [hp1.out,hp0.out];omega⟩
      · obtain ⟨r,q,r0,r1',hnx⟩:=next_high_at (P:=Tryz.prog) hit hlt ha
        have hd:digAt s k=false:=by rw [← Bool.not_eq_true,digAt_true];omega
        have hA:=Lib.hid (HB.out (allDig_no (show k < 20 by omega) hd));obtain ⟨oR,-,kk⟩:=hR.out.next q;have zO:=oR;have zA:=zO.s4;clear zO;have r1:=set_same;have r2:=set_off;have r3:=set_blk;have q1:¬ (r:Int) < 48:=by omega
        have q2:(57:Int) < (r:Int):=by omega
        clear hd hR hall oR hb ha;go_wp2;exact bodyPost_ret (v:=T2 (.agg #[I 0,I 0,I 0,I 0]) (I 7)) (by simp [results,Tryz.results56,go_sem, *];try omega) rfl (ParP.bad hA.out (by decide) below_autor)
    · have hnx:∀ ty,(Instr.next (.pointer (some ⟨w.heap.size+1,0,none⟩)) true ty).run Tryz.prog wr=_:=fun ty=>next_end_at hit hlt ty
      have hks:k=20:=by omega
      obtain ⟨oR,-,kk⟩:=hR.out;exfalso;rw [hks] at hall;rw [hall.out] at HD;cases HD.out
theorem over97 (N:Nat) (hN:N < 100000000000000000000):∃ q0 q1 q2,q0 < 4294967296∧q1 < 4294967296∧q2 < 4294967296∧val [q0,q1,q2]=N / 97 ∧
    ∀ W,Calls Tryz.prog 84 #[wideV (N%4294967296) (N / 4294967296%4294967296) (N / 18446744073709551616%4294967296),U32 97] W (GrewW3 q0 q1 q2 (N%97) 0 W):=by
  have h0:N%4294967296 < 4294967296:=Nat.mod_lt _ (by decide);have h1:N / 4294967296%4294967296 < 4294967296:=Nat.mod_lt _ (by decide);have h2:N / 18446744073709551616%4294967296 < 4294967296:=Nat.mod_lt _ (by decide);have hd:=over_digits (N%4294967296) (N / 4294967296%4294967296) (N / 18446744073709551616%4294967296) 97;have hv:val [N%4294967296,N / 4294967296%4294967296,N / 18446744073709551616%4294967296]=N:=by simp only [val];omega
  have hr:=remO_lt (d:=97) (l:=[N%4294967296,N / 4294967296%4294967296,N / 18446744073709551616%4294967296]) (by decide) 3;have hl:allW [N%4294967296,N / 4294967296%4294967296,N / 18446744073709551616%4294967296]:=by intro d hd;simp at hd;omega
  rw [hv] at hd;have O:=fun W=>Over_any (N%4294967296) (N / 4294967296%4294967296) (N / 18446744073709551616%4294967296) 97 W h0 h1 h2 (by decide) (by decide);have hq:=quoO_lt (d:=97) hl (by decide);refine ⟨_,_,_,hq 2,hq 1,hq 0,?_,fun W=>?_⟩
  · simp only [val]
    generalize quoO 97 [N%4294967296,N / 4294967296%4294967296,N / 18446744073709551616%4294967296] 2=a at *;generalize quoO 97 [N%4294967296,N / 4294967296%4294967296,N / 18446744073709551616%4294967296] 1=b at *;generalize quoO 97 [N%4294967296,N / 4294967296%4294967296,N / 18446744073709551616%4294967296] 0=c at *;omega
  · have:=O W
    rw [show remO 97 [N%4294967296,N / 4294967296%4294967296,N / 18446744073709551616%4294967296] 3=N%97 by omega] at this;exact this
theorem tok_flds (Q:Nat):(⟨(fld Q 57 2:Nat),(fld Q 37 20:Nat),(fld Q 16 21:Nat),(fld Q 0 16:Nat)⟩:AToken)=tokOf Q:=by
  unfold tokOf fld;simp only [Nat.pow_zero,Nat.div_one]
/-- how it ends -/
def ParCase (n2 r a0:Nat) (er E:Int):Prop:=(4≤n2∧E=2)∨(n2 < 4∧r≠0∧E=8)∨(n2 < 4∧r=0∧a0≠0∧E=2)∨(n2 < 4∧r=0∧a0=0∧er≠0∧E=2)∨(n2 < 4∧r=0∧a0=0∧er=0∧E=0)
theorem parCase {N : Nat} (hN : N < 100000000000000000000) : ParCase (N / 18446744073709551616 % 4294967296) (N % 97) (fld (N / 97) 59 32) (tokFault (tokOf (N / 97))) (numE N) := by
  have hf:fld (N / 97) 59 32=N / 97 / 576460752303423488:=by
    show N / 97 / 2^59%2^32=_;exact Nat.mod_eq_of_lt (Nat.lt_of_lt_of_le (show N / 97 / 2^59 < 2 from Nat.div_lt_of_lt_mul (Nat.lt_of_lt_of_le (show N / 97 < 1030927835051546392 by omega) (by decide))) (by decide))
  have hn2:N / 18446744073709551616%4294967296=N / 18446744073709551616:=Nat.mod_eq_of_lt (by omega);rw [hf,hn2];unfold ParCase numE
  split
  · left;exact ⟨by omega,rfl⟩
  · right
    split
    · right
      split
      · left;exact ⟨by omega,by assumption,by omega,rfl⟩
      · right
        split
        · right;exact ⟨by omega,by assumption,by omega,by assumption,rfl⟩
        · left;exact ⟨by omega,by assumption,by omega,by assumption,rfl⟩
    · left;exact ⟨by omega,by assumption,rfl⟩
end Go.Proofs.YtfhmcahfjoliiaaGreatDoor
