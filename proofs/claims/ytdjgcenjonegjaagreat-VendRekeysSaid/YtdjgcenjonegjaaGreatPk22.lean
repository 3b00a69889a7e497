/- ref.Owes · a customer behind an event: what both sides answer -/
import Derived.Test.YtdjgcenjonegjaaGreatPk06
import Derived.Test.YtdjgcenjonegjaaGreatPk04
import Derived.Test.YtdjgcenjonegjaaGreatPk17
import Derived.Test.YtdjgcenjonegjaaGreatPk03
import Derived.Test.YtdjgcenjonegjaaGreatPk18
import Derived.Test.YtdjgcenjonegjaaGreatSoldForT
import Derived.Test.YtdjgcenjonegjaaGreatPk21
set_option maxRecDepth 20000
set_option maxHeartbeats 8000000
set_option linter.unusedSimpArgs false
set_option linter.unusedVariables false
namespace Go.Proofs.YtdjgcenjonegjaaGreat
section
open Go.RowKit

theorem Owes_f (x : AAcc) (v : Value) (xs : List ADebt) (d : ADebt) (w : World) (h : Sl w v 2 xs.length (xs.flatMap ADebt.cells)) :
    Calls Tryz.prog 139 #[.agg #[I x.meter,I x.rev,I x.next,I x.month,I x.bought,I x.free,v],.agg #[I d.owed,I d.bp]] w (GrewAccF (oweX x xs d) (oweL x xs d) (oweE x xs d) w):=by
  obtain ⟨i0,hi,hz0,hz1,hz2⟩:=info_parts info_debts;have M:=Lib.hid (fun W (hW:Sl W v 2 xs.length (xs.flatMap ADebt.cells))=>AccountMay_any x v xs W hW);have C:=Lib.hid (fun W (hW:Sl W v 2 xs.length (xs.flatMap ADebt.cells)) h8=>AccountCopy_any x v xs W hW h8);obtain ⟨x1,x2,x3,x4,x5,x6⟩:=x;obtain ⟨d1,d2⟩:=d;simp only [GrewAccO] at *;have hb1:=boxed_below w (.cells #[I x1,I x2,I x3,I x4,I x5,I x6,v] 64);have hb2:=hb1.alloc hb1.size (.cells #[I d1,I d2] 46);have hb:=hb2.alloc hb2.size (.cells #[I 0,I 0,I 0,I 0,I 0,I 0,.slice none 0 0] 64);have h1:=h.below hb;have h':=h;obtain ⟨a,cap,rfl,-⟩:=h';clear hb1 hb2;cases c0:accMay ⟨x1,x2,x3,x4,x5,x6⟩ xs
  · obtain ⟨q1,q2,q3⟩:=owe_err (x:=⟨x1,x2,x3,x4,x5,x6⟩) (xs:=xs) (d:=⟨d1,d2⟩) 5 (by simp [oweE,c0]) (by decide)
    rw [q1,q2,q3];clear q1 q2 q3;rw [c0] at M;clear c0 h C;go_enter Tryz.func139,Tryz.ntmps139
    go_wp2_with fail
    refine (M.out _ h1).mono ?_;rintro e w1 ⟨rfl,k1⟩;have oc:=(((Own.new (w:=w) rfl [I x1,I x2,I x3,I x4,I x5,I x6,.slice a xs.length cap] 64).alloc (.cells #[I d1,I d2] 46)).alloc (.cells #[I 0,I 0,I 0,I 0,I 0,I 0,.slice none 0 0] 64)).below k1;have op:=((Own.new (w:=w.alloc (.cells #[I x1,I x2,I x3,I x4,I x5,I x6,.slice a xs.length cap] 64)) (g:=w.heap.size+1) (by simp) [I d1,I d2] 46).alloc (.cells #[I 0,I 0,I 0,I 0,I 0,I 0,.slice none 0 0] 64)).below k1;have oz:=(Own.new (w:=(w.alloc (.cells #[I x1,I x2,I x3,I x4,I x5,I x6,.slice a xs.length cap] 64)).alloc (.cells #[I d1,I d2] 46)) (g:=w.heap.size+2) (by simp) [I 0,I 0,I 0,I 0,I 0,I 0,.slice none 0 0] 64).below k1;have cO:=oc;have cfA:=cO.f;have c0:=cO.c0;have c1:=cO.c1;have c2:=cO.c2;have c3:=cO.c3;have c4:=cO.c4;have c5:=cO.c5;have c6:=cO.c6;clear cO;have pO:=op;have pA:=pO.s2;clear pO;have zO:=oz;have zA:=zO.s7;clear zO;have k:=hb.trans (k1.mono hb.size);have hzw:w.heap.size+3≤w1.heap.size:=by have:=k1.size;simp at this;omega
    clear k1 hb h1;have r1:=set_same;have r2:=set_off;have r3:=set_blk
    go_wp2_with (go_at_call 57;refine (In_any _ _ _ _).mono ?_;rintro e w' ⟨rfl,rfl⟩)
    exact bodyPost_ret (v:=T2 (.agg #[I 0,I 0,I 0,I 0,I 0,I 0,.slice none 0 0]) (I 5)) (by simp [results,Tryz.results139,go_sem, *];try omega) rfl (⟨_,rfl,Sl.nil _ _,below_autor,FarB.nil _ _ _⟩)
  · have h8 := accMay_len c0
    cases c1:inB d1 1 1000000000
    · obtain ⟨q1,q2,q3⟩:=owe_err (x:=⟨x1,x2,x3,x4,x5,x6⟩) (xs:=xs) (d:=⟨d1,d2⟩) 2 (by simp [oweE,c0,c1]) (by decide)
      rw [q1,q2,q3];clear q1 q2 q3;rw [c0] at M;clear c0 h h8 C;go_enter Tryz.func139,Tryz.ntmps139
      go_wp2_with fail
      refine (M.out _ h1).mono ?_;rintro e w1 ⟨rfl,k1⟩;have oc:=(((Own.new (w:=w) rfl [I x1,I x2,I x3,I x4,I x5,I x6,.slice a xs.length cap] 64).alloc (.cells #[I d1,I d2] 46)).alloc (.cells #[I 0,I 0,I 0,I 0,I 0,I 0,.slice none 0 0] 64)).below k1;have op:=((Own.new (w:=w.alloc (.cells #[I x1,I x2,I x3,I x4,I x5,I x6,.slice a xs.length cap] 64)) (g:=w.heap.size+1) (by simp) [I d1,I d2] 46).alloc (.cells #[I 0,I 0,I 0,I 0,I 0,I 0,.slice none 0 0] 64)).below k1;have oz:=(Own.new (w:=(w.alloc (.cells #[I x1,I x2,I x3,I x4,I x5,I x6,.slice a xs.length cap] 64)).alloc (.cells #[I d1,I d2] 46)) (g:=w.heap.size+2) (by simp) [I 0,I 0,I 0,I 0,I 0,I 0,.slice none 0 0] 64).below k1;have cO:=oc;have cfA:=cO.f;have c0:=cO.c0;have c1:=cO.c1;have c2:=cO.c2;have c3:=cO.c3;have c4:=cO.c4;have c5:=cO.c5;have c6:=cO.c6;clear cO;have pO:=op;have pA:=pO.s2;clear pO;have zO:=oz;have zA:=zO.s7;clear zO;have k:=hb.trans (k1.mono hb.size);have hzw:w.heap.size+3≤w1.heap.size:=by have:=k1.size;simp at this;omega
      clear k1 hb h1;have r1:=set_same;have r2:=set_off;have r3:=set_blk
      go_wp2_with (go_at_call 57;refine (In_any _ _ _ _).mono ?_;rintro e w' ⟨rfl,rfl⟩)
      exact bodyPost_ret (v:=T2 (.agg #[I 0,I 0,I 0,I 0,I 0,I 0,.slice none 0 0]) (I 2)) (by simp [results,Tryz.results139,go_sem, *];try omega) rfl (⟨_,rfl,Sl.nil _ _,below_autor,FarB.nil _ _ _⟩)
    cases c2:inB d2 0 10000
    · obtain ⟨q1,q2,q3⟩:=owe_err (x:=⟨x1,x2,x3,x4,x5,x6⟩) (xs:=xs) (d:=⟨d1,d2⟩) 2 (by simp [oweE,c0,c1,c2]) (by decide)
      rw [q1,q2,q3];clear q1 q2 q3;rw [c0] at M;clear c0 h h8 C;go_enter Tryz.func139,Tryz.ntmps139
      go_wp2_with fail
      refine (M.out _ h1).mono ?_;rintro e w1 ⟨rfl,k1⟩;have oc:=(((Own.new (w:=w) rfl [I x1,I x2,I x3,I x4,I x5,I x6,.slice a xs.length cap] 64).alloc (.cells #[I d1,I d2] 46)).alloc (.cells #[I 0,I 0,I 0,I 0,I 0,I 0,.slice none 0 0] 64)).below k1;have op:=((Own.new (w:=w.alloc (.cells #[I x1,I x2,I x3,I x4,I x5,I x6,.slice a xs.length cap] 64)) (g:=w.heap.size+1) (by simp) [I d1,I d2] 46).alloc (.cells #[I 0,I 0,I 0,I 0,I 0,I 0,.slice none 0 0] 64)).below k1;have oz:=(Own.new (w:=(w.alloc (.cells #[I x1,I x2,I x3,I x4,I x5,I x6,.slice a xs.length cap] 64)).alloc (.cells #[I d1,I d2] 46)) (g:=w.heap.size+2) (by simp) [I 0,I 0,I 0,I 0,I 0,I 0,.slice none 0 0] 64).below k1;have cO:=oc;have cfA:=cO.f;have c0:=cO.c0;have c1:=cO.c1;have c2:=cO.c2;have c3:=cO.c3;have c4:=cO.c4;have c5:=cO.c5;have c6:=cO.c6;clear cO;have pO:=op;have pA:=pO.s2;clear pO;have zO:=oz;have zA:=zO.s7;clear zO;have k:=hb.trans (k1.mono hb.size);have hzw:w.heap.size+3≤w1.heap.size:=by have:=k1.size;simp at this;omega
      clear k1 hb h1;have r1:=set_same;have r2:=set_off;have r3:=set_blk
      go_wp2_with (go_at_call 57;refine (In_any _ _ _ _).mono ?_;rintro e w' ⟨rfl,rfl⟩)
      exact bodyPost_ret (v:=T2 (.agg #[I 0,I 0,I 0,I 0,I 0,I 0,.slice none 0 0]) (I 2)) (by simp [results,Tryz.results139,go_sem, *];try omega) rfl (⟨_,rfl,Sl.nil _ _,below_autor,FarB.nil _ _ _⟩)
    by_cases c3:xs.length=8
    · obtain ⟨q1,q2,q3⟩:=owe_err (x:=⟨x1,x2,x3,x4,x5,x6⟩) (xs:=xs) (d:=⟨d1,d2⟩) 16 (by simp [oweE,c0,c1,c2,c3]) (by decide)
      rw [q1,q2,q3];clear q1 q2 q3;have c3b:(8:Int)≤(xs.length:Int):=by omega
      rw [c0] at M;clear c0 h h8 c3 C;go_enter Tryz.func139,Tryz.ntmps139
      go_wp2_with fail
      refine (M.out _ h1).mono ?_;rintro e w1 ⟨rfl,k1⟩;have oc:=(((Own.new (w:=w) rfl [I x1,I x2,I x3,I x4,I x5,I x6,.slice a xs.length cap] 64).alloc (.cells #[I d1,I d2] 46)).alloc (.cells #[I 0,I 0,I 0,I 0,I 0,I 0,.slice none 0 0] 64)).below k1;have op:=((Own.new (w:=w.alloc (.cells #[I x1,I x2,I x3,I x4,I x5,I x6,.slice a xs.length cap] 64)) (g:=w.heap.size+1) (by simp) [I d1,I d2] 46).alloc (.cells #[I 0,I 0,I 0,I 0,I 0,I 0,.slice none 0 0] 64)).below k1;have oz:=(Own.new (w:=(w.alloc (.cells #[I x1,I x2,I x3,I x4,I x5,I x6,.slice a xs.length cap] 64)).alloc (.cells #[I d1,I d2] 46)) (g:=w.heap.size+2) (by simp) [I 0,I 0,I 0,I 0,I 0,I 0,.slice none 0 0] 64).below k1;have cO:=oc;have cfA:=cO.f;have c0:=cO.c0;have c1:=cO.c1;have c2:=cO.c2;have c3:=cO.c3;have c4:=cO.c4;have c5:=cO.c5;have c6:=cO.c6;clear cO;have pO:=op;have pA:=pO.s2;clear pO;have zO:=oz;have zA:=zO.s7;clear zO;have k:=hb.trans (k1.mono hb.size);have hzw:w.heap.size+3≤w1.heap.size:=by have:=k1.size;simp at this;omega
      clear k1 hb h1;have r1:=set_same;have r2:=set_off;have r3:=set_blk
      go_wp2_with (go_at_call 57;refine (In_any _ _ _ _).mono ?_;rintro e w' ⟨rfl,rfl⟩)
      exact bodyPost_ret (v:=T2 (.agg #[I 0,I 0,I 0,I 0,I 0,I 0,.slice none 0 0]) (I 16)) (by simp [results,Tryz.results139,go_sem, *];try omega) rfl (⟨_,rfl,Sl.nil _ _,below_autor,FarB.nil _ _ _⟩)
    · obtain ⟨q1,q2,q3⟩:=owe_ok (x:=⟨x1,x2,x3,x4,x5,x6⟩) (xs:=xs) (d:=⟨d1,d2⟩) (by simp [oweE,c0,c1,c2,c3])
      rw [q1,q2,q3];clear q1 q2 q3;have c3b:¬ (8:Int)≤(xs.length:Int):=by omega
      rw [c0] at M;clear c0 c3;go_enter Tryz.func139,Tryz.ntmps139
      go_wp2_with fail
      refine (M.out _ h1).mono ?_;rintro e w1 ⟨rfl,k1⟩;have oc:=(((Own.new (w:=w) rfl [I x1,I x2,I x3,I x4,I x5,I x6,.slice a xs.length cap] 64).alloc (.cells #[I d1,I d2] 46)).alloc (.cells #[I 0,I 0,I 0,I 0,I 0,I 0,.slice none 0 0] 64)).below k1;have op:=((Own.new (w:=w.alloc (.cells #[I x1,I x2,I x3,I x4,I x5,I x6,.slice a xs.length cap] 64)) (g:=w.heap.size+1) (by simp) [I d1,I d2] 46).alloc (.cells #[I 0,I 0,I 0,I 0,I 0,I 0,.slice none 0 0] 64)).below k1;have oz:=(Own.new (w:=(w.alloc (.cells #[I x1,I x2,I x3,I x4,I x5,I x6,.slice a xs.length cap] 64)).alloc (.cells #[I d1,I d2] 46)) (g:=w.heap.size+2) (by simp) [I 0,I 0,I 0,I 0,I 0,I 0,.slice none 0 0] 64).below k1;have cO:=oc;have cfA:=cO.f;have c0:=cO.c0;have c1:=cO.c1;have c2:=cO.c2;have c3:=cO.c3;have c4:=cO.c4;have c5:=cO.c5;have c6:=cO.c6;clear cO;have pO:=op;have pA:=pO.s2;clear pO;have zO:=oz;have zA:=zO.s7;clear zO;have k:=hb.trans (k1.mono hb.size);have hzw:w.heap.size+3≤w1.heap.size:=by have:=k1.size;simp at this;omega
      clear k1 hb h1;have r1:=set_same;have r2:=set_off;have r3:=set_blk;have h2:=Lib.hid (h.below k);clear h
      go_wp2_with (go_at_call 57;refine (In_any _ _ _ _).mono ?_;rintro e w' ⟨rfl,rfl⟩)
      refine (C.out _ h2.out h8).mono ?_;rintro e w2 ⟨v',rfl,hown,k2⟩;have hS:=Sl.of_owns hown (by omega);obtain ⟨a2,cap2,rfl,-⟩:=hS;have hsz:=k2.size;have hlt:=hown.lt;have qO:=op.below k2;have qA:=qO.s2;clear qO;have oz2:=oz.below k2;have kk:=k.trans (k2.mono k.size);have hne:∀ j,(Value.slice a2 xs.length cap2).ownBlock=some j→w1.heap.size+2≤j∧j < w2.heap.size:=fun j hj=>hlt j hj;have Hne:=Lib.hid hne;have Hown:=Lib.hid hown;clear hne hlt hown C M h2 op oz oc k k2 c0 c1 c2 c3 c4 c5 c6 cfA zA pA;have n1:¬ w.heap.size+1=w2.heap.size:=by omega
      have n2:w.heap.size+1 < w2.heap.size:=by omega
      go_wp2_with
        (at_builtin
         refine wpList_append_lies _ rfl _ _ 62 rfl (w1.heap.size+2) 46 i0 (.agg #[.int .i64 0,.int .i64 0]) 2 16 Tryz.underlying62 hi hz0 hz1 hz2 rfl (by decide) (.slice a2 xs.length cap2) xs.length (xs.flatMap ADebt.cells) rfl ((Hown.out.alloc _).alloc _) ⟨w2.heap.size+1,0,none⟩ 1 1 [I d1,I d2] rfl rfl (news_own (Own.new (by simp) [I d1,I d2] 46)) (oneCells_lit rfl) (by omega) (by unfold maxLen;omega) (by omega) (by simp;omega) (w2.heap.size+2) (by simp) ?_;intro g3 cap3 w3 hown3 hgrow3 hat3 hlt3;have ob:=Own.grown ((Own.new (w:=w2) rfl [I x1,I x2,I x3,I x4,I x5,I x6,.slice a2 xs.length cap2] 64).alloc (.cells #[I d1,I d2] 46)) hgrow3 (fun h=>by have:=(Hne.out _ h.symm).2;omega);have oz3:=Own.grown ((oz2.alloc (.cells #[I x1,I x2,I x3,I x4,I x5,I x6,.slice a2 xs.length cap2] 64)).alloc (.cells #[I d1,I d2] 46)) hgrow3 (fun h=>by have:=(Hne.out _ h.symm).1;omega);have bO:=ob;have bA:=bO.s7;clear bO;have zO:=oz3;have zA:=zO.s7;clear zO;have kB:Below w.heap.size w w3:=Below.grown (B:=w.heap.size) below_autor hgrow3 (by simp;omega) (fun j hj=>by have:=(Hne.out _ hj).1;omega);have hfA:Far w2.heap.size (.slice (some ⟨g3,0,none⟩) (xs.length+1) cap3):=Far.lit (by rcases hat3 with h | h;(have:=Hne.out _ h;omega);omega);have hfB:Far (w.heap.size+2) (.slice (some ⟨g3,0,none⟩) (xs.length+1) cap3):=Far.lit (by rcases hat3 with h | h;(have:=Hne.out _ h;omega);omega);have hzB:=kB.size;have HFB:=Lib.hid (show FarB w.heap.size (.slice (some ⟨g3,0,none⟩) (xs.length+1) cap3) from FarB.lit (by rcases hat3 with h | h;(have:=Hne.out _ h;omega);omega));have hb1:w2.heap.size < w3.heap.size:=ob.lt;have HS:Hid (Sl w3 (.slice (some ⟨g3,0,none⟩) (xs.length+1) cap3) 2 (xs++[(⟨d1,d2⟩:ADebt)]).length ((xs++[(⟨d1,d2⟩:ADebt)]).flatMap ADebt.cells)):=Sl.of_owns' (base:=w1.heap.size+2) (e:=46) (n':=xs.length+1) (by rw [List.flatMap_append];exact hown3) (by simp) (by simp;omega);have n3:¬ w.heap.size+2=w2.heap.size:=by omega
         have n4:¬ w2.heap.size=w.heap.size+2:=by omega
         clear ob oz3 hat3 hown3 hgrow3)
      exact bodyPost_ret (v:=T2 (.agg #[I x1,I x2,I x3,I x4,I x5,I x6,.slice (some ⟨g3,0,none⟩) (xs.length+1) cap3]) (I 0)) (by simp [results,Tryz.results139,go_sem, *];try omega) rfl (⟨_,rfl,(by repeat (first | with_reducible exact HS.out | refine Sl.set ?_ (by assumption) _)),below_autor,HFB.out⟩)
end
section
open Go Go.RowKit

abbrev custV (x1 x2 x3 x4 x5 x6:Int) (dv sv:Value):Value:=.agg #[I x1,I x2,I x3,I x4,I x5,I x6,dv,sv]
theorem neqBill2 (x3 x4 x5 x6 x7 x8 x9 y3 y4 y5 y6 y7 y8 y9:Int) (w:World):(binOp .neq 39 (.agg #[I x3,I x4,I x5,I x6,I x7,I x8,I x9]) (.agg #[I y3,I y4,I y5,I y6,I y7,I y8,I y9])).run Tryz.prog w=.ok (.bool (!eqE7 x3 x4 x5 x6 x7 x8 x9 y3 y4 y5 y6 y7 y8 y9)) w:=by
  have:=neqBill_run ⟨x3,x4,x5,x6,x7,x8,x9⟩ ⟨y3,y4,y5,y6,y7,y8,y9⟩ w;simpa [eqE7] using this
theorem grownBy_of {w w':World} {row:Option Nat} (h:Below w.heap.size w w'):w.grownBy w' row:=⟨h.os,h.tape,h.output,h.size,fun k hk _=>h.block k hk⟩
theorem grown_pre {W P w5:World} {row:Option Nat} (hg:P.grownBy w5 row) (h:Below W.heap.size W P):W.grownBy w5 row:=
  ⟨hg.os.trans h.os,hg.tape.trans h.tape,hg.output.trans h.output,Nat.le_trans h.size hg.size,fun k hk hr=>(hg.block k (Nat.lt_of_lt_of_le hk h.size) hr).trans (h.block k hk)⟩
theorem grown_pre2 {B:Nat} {w W w5:World} {row:Option Nat} (hb:w.heap.size≤B) (h:Below B w W) (hg:W.grownBy w5 row):w.grownBy w5 row:=
  ⟨hg.os.trans h.os,hg.tape.trans h.tape,hg.output.trans h.output,Nat.le_trans h.size hg.size,fun k hk hr=>(hg.block k (Nat.lt_of_lt_of_le hk h.size) hr).trans (h.block k (by omega))⟩
/-- a good end: the customer lies, his debts in new memory, what he was sold where it lay or in new memory -/
def HapG (B:Nat) (y:ACust) (c:PCust) (so:Option Nat) (w w':World):Prop:=
  CRep w' B y c∧(∀ z,dBlk y=some z→w.heap.size≤z∧sBlk y≠some z)∧(∀ z,sBlk y=some z→so=some z∨w.heap.size≤z)∧w.grownBy w' so
theorem HapG.store {B:Nat} {y:ACust} {c:PCust} {so:Option Nat} {w w':World} (h:HapG B y c so w w') {z j:Nat} {x:Value} (hz:w.heap.size≤z) (hd:dBlk y≠some z) (hs:sBlk y≠some z):HapG B y c so w (w'.setCell ⟨z,j,none⟩ x):=by
  obtain ⟨h1,h2,h3,h4⟩:=h;have hh:∀ k,k≠z→(w'.setCell ⟨z,j,none⟩ x).heap[k]?=w'.heap[k]?:=fun k hk=>by simp [World.setCell,Array.getElem?_modify,show ¬ z=k by omega]
  refine ⟨h1.heap (by simp [World.setCell]) (fun k hk=>hh k fun e=>hd (e▸hk)) (fun k hk=>hh k fun e=>hs (e▸hk)),h2,h3,h4.os,h4.tape,h4.output,by simp [World.setCell];exact h4.size,fun k hk hr=>?_⟩
  rw [hh k (by omega)];exact h4.block k hk hr
theorem HapG.drew {B:Nat} {y:ACust} {c:PCust} {so:Option Nat} {w w':World} (h:HapG B y c so w w'):HapG B y c so w w'.drew:=⟨h.1,h.2.1,h.2.2.1,⟨h.2.2.2.os,h.2.2.2.tape,h.2.2.2.output,h.2.2.2.size,h.2.2.2.block⟩⟩
theorem Own.set7 {w:World} {g:Nat} {a0 a1 a2 a3 a4 a5 a6:Value} (h:Own w g [a0,a1,a2,a3,a4,a5,a6]) (x0 x1 x2 x3 x4 x5 x6:Value):
    Own (((((((w.setCell ⟨g,0,none⟩ x0).setCell ⟨g,1,none⟩ x1).setCell ⟨g,2,none⟩ x2).setCell ⟨g,3,none⟩ x3).setCell ⟨g,4,none⟩ x4).setCell ⟨g,5,none⟩ x5).setCell ⟨g,6,none⟩ x6) g [x0,x1,x2,x3,x4,x5,x6]:=
  ((((((h.set 0 x0).set 1 x1).set 2 x2).set 3 x3).set 4 x4).set 5 x5).set 6 x6
theorem Own.set12 {w:World} {g:Nat} {a0 a1 a2 a3 a4:Value} (h:Own w g [a0,a1,a2,a3,a4]) (x1 x2:Value):Own ((w.setCell ⟨g,1,none⟩ x1).setCell ⟨g,2,none⟩ x2) g [a0,x1,x2,a3,a4]:=(h.set 1 x1).set 2 x2
def HapQ (B:Nat) (F:Int) (c:PCust) (so:Option Nat) (w:World) (e:Ending) (w':World):Prop:=
  ∃ y:ACust,e=.returned (T2 (.agg y.cells.toArray) (I F))∧(F=0→HapG B y c so w w')∧w.grownBy w' so
theorem HapQ.bad {B:Nat} {F k:Int} {c:PCust} {so:Option Nat} {w w':World} (h:F=k) (hk:k≠0) (hb:Below w.heap.size w w'):HapQ B F c so w (.returned (T2 (custV 0 0 0 0 0 0 (.slice none 0 0) (.slice none 0 0)) (I k))) w':=by
  subst h;exact ⟨⟨0,0,0,0,0,0,none,0,0,none,0,0⟩,rfl,fun h=>absurd h hk,grownBy_of hb⟩
theorem HapQ.good {B:Nat} {F:Int} {c:PCust} {so:Option Nat} {w w':World} {da sa:Option Addr} {dc sc:Nat} (h:F=0) (hg:HapG B (ofCust c da dc sa sc) c so w w'):HapQ B F c so w (.returned (T2 (custV c.acc.meter c.acc.rev c.acc.next c.acc.month c.acc.bought c.acc.free (.slice da c.debts.length dc) (.slice sa c.sold.length sc)) (I 0))) w':=by
  subst h;exact ⟨_,rfl,fun _=>hg,hg.2.2.2⟩
/-- behind the append -/
theorem hapG_of {B g cap : Nat} {c : PCust} {S : List ASold} {s : ASold} {ua : Option Addr} {uc n : Nat} {so : Option Nat} {w wc w5 : World} (hu : Sl wc (.slice ua c.debts.length uc) 2 c.debts.length (c.debts.flatMap ADebt.cells)) (hF : FarB w.heap.size (.slice ua c.debts.length uc))
    (hown:w5.ownsRow B 69 5 (.slice (some ⟨g,0,none⟩) n cap) n (S.flatMap ASold.cells++s.cells)) (hc:c.sold=S++[s]) (hn:n=S.length+1) (hgr:w.grownBy w5 so) (hgr2:wc.grownBy w5 so) (hso:∀ z,so=some z→z < w.heap.size) (hat:so=some g∨(w.heap.size≤g∧wc.heap.size≤g)):
    HapG B (ofCust c ua uc (some ⟨g,0,none⟩) cap) c so w w5:=by
  have hcl:c.sold.length=n:=by rw [hc,hn];simp
  have hd : ∀ z, dBlk (ofCust c ua uc (some ⟨g, 0, none⟩) cap) = some z → w.heap.size ≤ z ∧ z < wc.heap.size := fun z hz => by
    unfold dBlk ofCust at hz;simp only at hz
    split at hz
    · rename_i hp
      cases ua with
      | none=>cases hz
      | some a=>
        injection hz with hz
        have h1:=hF a _ _ rfl;obtain ⟨a',cap',hv,-,-,-,hr⟩:=hu;injection hv with e1 e2 e3
        rcases hr with hr | ⟨b,off,hb,hbl,-⟩
        · omega
        · rw [hb] at e1
          injection e1 with e1
          subst e1;have h1:w.heap.size≤b:=h1;have hz:b=z:=hz;omega
    · cases hz
  refine ⟨⟨rfl,?_,?_⟩,?_,?_,hgr⟩
  · refine sl_heap hu hgr2.size fun a m cc hv hp=>?_
    injection hv with e1 e2 e3
    have e1:ua=some a:=e1;have h1:=hF a _ _ (by rw [e1]);obtain ⟨a',cap',hv',-,-,-,hr⟩:=hu;injection hv' with f1 f2 f3
    rcases hr with hr | ⟨b,off,hb,hbl,-⟩
    · omega
    · rw [← f1,e1] at hb
      injection hb with hb
      subst hb;exact hgr2.block b hbl (fun e=>by have:=hso b e.symm;have:w.heap.size≤b:=h1;omega)
  · have:(ofCust c ua uc (some ⟨g,0,none⟩) cap).sn=n:=hcl
    show w5.ownsRow B _ 5 (.slice (some ⟨g,0,none⟩) c.sold.length cap) c.sold.length (c.sold.flatMap ASold.cells);rw [hcl,hc,List.flatMap_append];simpa using hown
  · intro z hz
    obtain ⟨h1,h2⟩:=hd z hz;refine ⟨h1,fun e=>?_⟩
    have e:g=z:=by injection e
    subst e;rcases hat with hat | hat
    · have:=hso g hat;omega
    · omega
  · intro z hz
    have e:g=z:=by injection hz
    subst e;rcases hat with hat | hat
    · exact .inl hat
    · exact .inr hat.1
theorem retG {B:Nat} {F x1 x2 x3 x4 x5 x6:Int} {L:List ADebt} {ss:List ASold} {s:ASold} {so:Option Nat} {w w':World} {da sa:Option Addr} {dc sc:Nat} (h:F=0) (hg:HapG B (ofCust ⟨⟨x1,x2,x3,x4,x5,x6⟩,L,ss++[s]⟩ da dc sa sc) ⟨⟨x1,x2,x3,x4,x5,x6⟩,L,ss++[s]⟩ so w w'):
    HapQ B F ⟨⟨x1,x2,x3,x4,x5,x6⟩,L,ss++[s]⟩ so w (.returned (T2 (custV x1 x2 x3 x4 x5 x6 (.slice da L.length dc) (.slice sa (ss.length+1) sc)) (I 0))) w':=by
  have:=HapQ.good h hg;simpa using this
/-- a good end where nothing was sold -/
theorem hapG_owe {B : Nat} {X : AAcc} {L : List ADebt} {ss : List ASold} {ua sa : Option Addr} {uc sc : Nat} {w w' : World} (hu : Sl w' (.slice ua L.length uc) 2 L.length (L.flatMap ADebt.cells)) (hF : FarB w.heap.size (.slice ua L.length uc))
    (hso:w.ownsRow B 69 5 (.slice sa ss.length sc) ss.length (ss.flatMap ASold.cells)) (k:Below w.heap.size w w'):HapG B (ofCust ⟨X,L,ss⟩ ua uc sa sc) ⟨X,L,ss⟩ (Value.slice sa ss.length sc).ownBlock w w':=by
  have hs:∀ z,sBlk (ofCust ⟨X,L,ss⟩ ua uc sa sc)=some z→(Value.slice sa ss.length sc).ownBlock=some z:=fun z hz=>by
    cases sa with
    | none=>cases hz
    | some a=>exact hz
  refine ⟨⟨rfl,hu,owns_below hso k⟩,?_,fun z hz=>.inl (hs z hz),grownBy_of k⟩;intro z hz
  have h1:w.heap.size≤z:=by
    unfold dBlk ofCust at hz;simp only at hz
    split at hz
    · cases ua with
      | none=>cases hz
      | some a=>
        injection hz with hz
        have hz:a.block=z:=hz;have:=hF a _ _ rfl;omega
    · cases hz
  refine ⟨h1,fun e=>?_⟩
  have:=(hso.lt z (hs z e)).2;omega
theorem HapQ.mk' {B:Nat} {F:Int} {X:AAcc} {L:List ADebt} {ss:List ASold} {so:Option Nat} {w w':World} {da sa:Option Addr} {dc sc:Nat} (hg:HapG B (ofCust ⟨X,L,ss⟩ da dc sa sc) ⟨X,L,ss⟩ so w w'):
    HapQ B F ⟨X,L,ss⟩ so w (.returned (T2 (custV X.meter X.rev X.next X.month X.bought X.free (.slice da L.length dc) (.slice sa ss.length sc)) (I F))) w':=⟨_,rfl,fun _=>hg,hg.2.2.2⟩
theorem HapQ.congr {B:Nat} {F:Int} {c c':PCust} {so:Option Nat} {w w':World} {e:Ending} (h:HapQ B F c so w e w') (hc:F=0→c=c'):HapQ B F c' so w e w':=by
  obtain ⟨y,h1,h2,h3⟩:=h;exact ⟨y,h1,fun h0=>by rw [← hc h0];exact h2 h0,h3⟩
end
end Go.Proofs.YtdjgcenjonegjaaGreat
