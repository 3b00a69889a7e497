/- accounts: which may be · accounts: new memory · ref.AccountCopy · account.Owe, account.Rekey and their references -/
import Derived.Test.YtdjgcenjonegjaaGreatPk01
import Derived.Test.YtdjgcenjonegjaaGreatPk05
import Derived.Test.YtdjgcenjonegjaaGreatPk02
import Derived.Deep.RegionLaw
import Derived.Deep.AppendLies
set_option maxRecDepth 20000
set_option maxHeartbeats 8000000
set_option linter.unusedSimpArgs false
set_option linter.unusedVariables false
namespace Go.Proofs.YtdjgcenjonegjaaGreat
section
open Go.RowKit

def accMay (x:AAcc) (xs:List ADebt):Bool:=
  decide (debtE xs=0)&&inB x.meter 0 49&&inB x.rev 0 15&&inB x.next 1 1048576&&inB x.month 0 2399&&inB x.bought 0 10000000&&inB x.free (-1) x.month

theorem awithin_any (n low high:Int) (w:World):Calls Tryz.prog 110 #[I n,I low,I high] w (Pure (.bool (inB n low high)) w):=by
  go_enter Tryz.func110,Tryz.ntmps110;go_wp2
  all_goals
    go_ret;refine Pure.intro ?_;simp only [inB];simp [*]
    try omega

theorem AccountMay_any (x:AAcc) (v:Value) (xs:List ADebt) (w:World) (h:Sl w v 2 xs.length (xs.flatMap ADebt.cells)):
    Calls Tryz.prog 54 #[.agg #[I x.meter,I x.rev,I x.next,I x.month,I x.bought,I x.free,v]] w (Grew (.bool (accMay x xs)) w):=by
  have F:=Lib.hid (fun W (hW:Sl W v 2 xs.length (xs.flatMap ADebt.cells))=>DebtFault_any v xs W hW);have hE:=Lib.hid (show accMay x xs=(decide (debtE xs=0)&&inB x.meter 0 49&&inB x.rev 0 15&&inB x.next 1 1048576&&inB x.month 0 2399&&inB x.bought 0 10000000&&inB x.free (-1) x.month) from rfl);have hb:=boxed_below w (.cells #[I x.meter,I x.rev,I x.next,I x.month,I x.bought,I x.free,v] 64);have h1:=h.below hb;have G:=Lib.hid (F.out _ h1);obtain ⟨a,cap,rfl,_⟩:=h;clear h1 F;generalize accMay x xs=R at *;obtain ⟨x1,x2,x3,x4,x5,x6⟩:=x;simp only at *
  by_cases c0:debtE xs=0
  · rw [c0] at G
    rw [decide_eq_true c0,Bool.true_and] at hE;clear c0;cases c1:inB x1 0 49
    · have hr:=Lib.hid (hE.out.trans (by simp [c1]):R=false)
      clear hE;go_enter Tryz.func54,Tryz.ntmps54
      go_wp2_with (first | (go_at_call 111;refine (G.out).mono ?_;rintro e w' ⟨rfl,rfl⟩) | (go_at_call 57;refine (In_any _ _ _ _).mono ?_;rintro e w' ⟨rfl,rfl⟩))
      go_ret;exact Grew.intro (by rw [hr.out];rfl) hb
    cases c2:inB x2 0 15
    · have hr:=Lib.hid (hE.out.trans (by simp [c1,c2]):R=false)
      clear hE;go_enter Tryz.func54,Tryz.ntmps54
      go_wp2_with (first | (go_at_call 111;refine (G.out).mono ?_;rintro e w' ⟨rfl,rfl⟩) | (go_at_call 57;refine (In_any _ _ _ _).mono ?_;rintro e w' ⟨rfl,rfl⟩))
      go_ret;exact Grew.intro (by rw [hr.out];rfl) hb
    cases c3:inB x3 1 1048576
    · have hr:=Lib.hid (hE.out.trans (by simp [c1,c2,c3]):R=false)
      clear hE;go_enter Tryz.func54,Tryz.ntmps54
      go_wp2_with (first | (go_at_call 111;refine (G.out).mono ?_;rintro e w' ⟨rfl,rfl⟩) | (go_at_call 57;refine (In_any _ _ _ _).mono ?_;rintro e w' ⟨rfl,rfl⟩))
      go_ret;exact Grew.intro (by rw [hr.out];rfl) hb
    cases c4:inB x4 0 2399
    · have hr:=Lib.hid (hE.out.trans (by simp [c1,c2,c3,c4]):R=false)
      clear hE;go_enter Tryz.func54,Tryz.ntmps54
      go_wp2_with (first | (go_at_call 111;refine (G.out).mono ?_;rintro e w' ⟨rfl,rfl⟩) | (go_at_call 57;refine (In_any _ _ _ _).mono ?_;rintro e w' ⟨rfl,rfl⟩))
      go_ret;exact Grew.intro (by rw [hr.out];rfl) hb
    cases c5:inB x5 0 10000000
    · have hr:=Lib.hid (hE.out.trans (by simp [c1,c2,c3,c4,c5]):R=false)
      clear hE;go_enter Tryz.func54,Tryz.ntmps54
      go_wp2_with (first | (go_at_call 111;refine (G.out).mono ?_;rintro e w' ⟨rfl,rfl⟩) | (go_at_call 57;refine (In_any _ _ _ _).mono ?_;rintro e w' ⟨rfl,rfl⟩))
      go_ret;exact Grew.intro (by rw [hr.out];rfl) hb
    · have hr:=Lib.hid (hE.out.trans (by simp [c1,c2,c3,c4,c5]):R=inB x6 (-1) x4)
      clear hE;go_enter Tryz.func54,Tryz.ntmps54
      go_wp2_with (first | (go_at_call 111;refine (G.out).mono ?_;rintro e w' ⟨rfl,rfl⟩) | (go_at_call 57;refine (In_any _ _ _ _).mono ?_;rintro e w' ⟨rfl,rfl⟩))
      go_ret;exact Grew.intro (by rw [hr.out];rfl) hb
  · have hb2:(debtE xs != 0)=true:=by simp [c0]
    have hr:=Lib.hid (hE.out.trans (by simp [c0]):R=false);clear hE;generalize debtE xs=e at *;clear c0;go_enter Tryz.func54,Tryz.ntmps54
    go_wp2_with (first | (go_at_call 111;refine (G.out).mono ?_;rintro e w' ⟨rfl,rfl⟩) | (go_at_call 57;refine (In_any _ _ _ _).mono ?_;rintro e w' ⟨rfl,rfl⟩))
    go_ret;exact Grew.intro (by rw [hr.out];rfl) hb

theorem may_any (x:AAcc) (v:Value) (xs:List ADebt) (w:World) (h:Sl w v 2 xs.length (xs.flatMap ADebt.cells)):
    Calls Tryz.prog 53 #[.agg #[I x.meter,I x.rev,I x.next,I x.month,I x.bought,I x.free,v]] w (Grew (.bool (accMay x xs)) w):=by
  have G:=Lib.hid (fun W (hW:Sl W v 2 xs.length (xs.flatMap ADebt.cells))=>Total_any v xs W hW);have hE:=Lib.hid (show accMay x xs=(decide (debtE xs=0)&&inB x.meter 0 49&&inB x.rev 0 15&&inB x.next 1 1048576&&inB x.month 0 2399&&inB x.bought 0 10000000&&inB x.free (-1) x.month) from rfl);have hb:=boxed_below w (.cells #[I x.meter,I x.rev,I x.next,I x.month,I x.bought,I x.free,v] 64);have h1:=h.below hb;obtain ⟨a,cap,rfl,_⟩:=h;generalize accMay x xs=R at *;generalize totalA xs=T at *;obtain ⟨x1,x2,x3,x4,x5,x6⟩:=x;simp only at *
  by_cases c0:debtE xs=0
  · rw [c0] at G
    rw [decide_eq_true c0,Bool.true_and] at hE;clear c0;cases c1:inB x1 0 49
    · have hr:=Lib.hid (hE.out.trans (by simp [c1]):R=false)
      clear hE;go_enter Tryz.func53,Tryz.ntmps53
      go_wp2_with fail
      refine (G.out _ h1).mono ?_;rintro e w1 ⟨rfl,k1⟩;have k:=hb.trans (k1.mono hb.size);have cO:=(Own.new rfl [I x1,I x2,I x3,I x4,I x5,I x6,.slice a xs.length cap] 64).below k1;have cfA:=cO.f;have c0:=cO.c0;have c1:=cO.c1;have c2:=cO.c2;have c3:=cO.c3;have c4:=cO.c4;have c5:=cO.c5;have c6:=cO.c6;clear cO;clear k1
      go_wp2_with (go_at_call 110;refine (awithin_any _ _ _ _).mono ?_;rintro e w' ⟨rfl,rfl⟩)
      go_ret;exact Grew.intro (by rw [hr.out];rfl) k
    cases c2:inB x2 0 15
    · have hr:=Lib.hid (hE.out.trans (by simp [c1,c2]):R=false)
      clear hE;go_enter Tryz.func53,Tryz.ntmps53
      go_wp2_with fail
      refine (G.out _ h1).mono ?_;rintro e w1 ⟨rfl,k1⟩;have k:=hb.trans (k1.mono hb.size);have cO:=(Own.new rfl [I x1,I x2,I x3,I x4,I x5,I x6,.slice a xs.length cap] 64).below k1;have cfA:=cO.f;have c0:=cO.c0;have c1:=cO.c1;have c2:=cO.c2;have c3:=cO.c3;have c4:=cO.c4;have c5:=cO.c5;have c6:=cO.c6;clear cO;clear k1
      go_wp2_with (go_at_call 110;refine (awithin_any _ _ _ _).mono ?_;rintro e w' ⟨rfl,rfl⟩)
      go_ret;exact Grew.intro (by rw [hr.out];rfl) k
    cases c3:inB x3 1 1048576
    · have hr:=Lib.hid (hE.out.trans (by simp [c1,c2,c3]):R=false)
      clear hE;go_enter Tryz.func53,Tryz.ntmps53
      go_wp2_with fail
      refine (G.out _ h1).mono ?_;rintro e w1 ⟨rfl,k1⟩;have k:=hb.trans (k1.mono hb.size);have cO:=(Own.new rfl [I x1,I x2,I x3,I x4,I x5,I x6,.slice a xs.length cap] 64).below k1;have cfA:=cO.f;have c0:=cO.c0;have c1:=cO.c1;have c2:=cO.c2;have c3:=cO.c3;have c4:=cO.c4;have c5:=cO.c5;have c6:=cO.c6;clear cO;clear k1
      go_wp2_with (go_at_call 110;refine (awithin_any _ _ _ _).mono ?_;rintro e w' ⟨rfl,rfl⟩)
      go_ret;exact Grew.intro (by rw [hr.out];rfl) k
    cases c4:inB x4 0 2399
    · have hr:=Lib.hid (hE.out.trans (by simp [c1,c2,c3,c4]):R=false)
      clear hE;go_enter Tryz.func53,Tryz.ntmps53
      go_wp2_with fail
      refine (G.out _ h1).mono ?_;rintro e w1 ⟨rfl,k1⟩;have k:=hb.trans (k1.mono hb.size);have cO:=(Own.new rfl [I x1,I x2,I x3,I x4,I x5,I x6,.slice a xs.length cap] 64).below k1;have cfA:=cO.f;have c0:=cO.c0;have c1:=cO.c1;have c2:=cO.c2;have c3:=cO.c3;have c4:=cO.c4;have c5:=cO.c5;have c6:=cO.c6;clear cO;clear k1
      go_wp2_with (go_at_call 110;refine (awithin_any _ _ _ _).mono ?_;rintro e w' ⟨rfl,rfl⟩)
      go_ret;exact Grew.intro (by rw [hr.out];rfl) k
    cases c5:inB x5 0 10000000
    · have hr:=Lib.hid (hE.out.trans (by simp [c1,c2,c3,c4,c5]):R=false)
      clear hE;go_enter Tryz.func53,Tryz.ntmps53
      go_wp2_with fail
      refine (G.out _ h1).mono ?_;rintro e w1 ⟨rfl,k1⟩;have k:=hb.trans (k1.mono hb.size);have cO:=(Own.new rfl [I x1,I x2,I x3,I x4,I x5,I x6,.slice a xs.length cap] 64).below k1;have cfA:=cO.f;have c0:=cO.c0;have c1:=cO.c1;have c2:=cO.c2;have c3:=cO.c3;have c4:=cO.c4;have c5:=cO.c5;have c6:=cO.c6;clear cO;clear k1
      go_wp2_with (go_at_call 110;refine (awithin_any _ _ _ _).mono ?_;rintro e w' ⟨rfl,rfl⟩)
      go_ret;exact Grew.intro (by rw [hr.out];rfl) k
    · have hr:=Lib.hid (hE.out.trans (by simp [c1,c2,c3,c4,c5]):R=inB x6 (-1) x4)
      clear hE;go_enter Tryz.func53,Tryz.ntmps53
      go_wp2_with fail
      refine (G.out _ h1).mono ?_;rintro e w1 ⟨rfl,k1⟩;have k:=hb.trans (k1.mono hb.size);have cO:=(Own.new rfl [I x1,I x2,I x3,I x4,I x5,I x6,.slice a xs.length cap] 64).below k1;have cfA:=cO.f;have c0:=cO.c0;have c1:=cO.c1;have c2:=cO.c2;have c3:=cO.c3;have c4:=cO.c4;have c5:=cO.c5;have c6:=cO.c6;clear cO;clear k1
      go_wp2_with (go_at_call 110;refine (awithin_any _ _ _ _).mono ?_;rintro e w' ⟨rfl,rfl⟩)
      go_ret;exact Grew.intro (by rw [hr.out];rfl) k
  · have hb2:(debtE xs==0)=false:=by simp [c0]
    have hr:=Lib.hid (hE.out.trans (by simp [c0]):R=false);clear hE;generalize debtE xs=e0 at *;clear c0;go_enter Tryz.func53,Tryz.ntmps53
    go_wp2_with fail
    refine (G.out _ h1).mono ?_;rintro e w1 ⟨rfl,k1⟩;have k:=hb.trans (k1.mono hb.size);have cO:=(Own.new rfl [I x1,I x2,I x3,I x4,I x5,I x6,.slice a xs.length cap] 64).below k1;have cfA:=cO.f;have c0:=cO.c0;have c1:=cO.c1;have c2:=cO.c2;have c3:=cO.c3;have c4:=cO.c4;have c5:=cO.c5;have c6:=cO.c6;clear cO;clear k1
    go_wp2_with (go_at_call 110;refine (awithin_any _ _ _ _).mono ?_;rintro e w' ⟨rfl,rfl⟩)
    go_ret;exact Grew.intro (by rw [hr.out];rfl) k

/-- an account comes back, its debts in new memory, and a number -/
def GrewAcc (x:AAcc) (xs:List ADebt) (k:Int) (w:World) (e:Ending) (w':World):Prop:=
  ∃ v,e=.returned (T2 (.agg #[I x.meter,I x.rev,I x.next,I x.month,I x.bought,I x.free,v]) (I k))∧Sl w' v 2 xs.length (xs.flatMap ADebt.cells)∧Below w.heap.size w w'
/-- an account and a bill -/
def GrewAccB (x:AAcc) (xs:List ADebt) (m:ABill) (k:Int) (w:World) (e:Ending) (w':World):Prop:=
  ∃ v,e=.returned (T3 (.agg #[I x.meter,I x.rev,I x.next,I x.month,I x.bought,I x.free,v]) (.agg #[I m.id,I m.tender,I m.debt,I m.fee,I m.price,I m.change,I m.units]) (I k))∧Sl w' v 2 xs.length (xs.flatMap ADebt.cells)∧Below w.heap.size w w'
def GrewAcc1 (x:AAcc) (xs:List ADebt) (w:World) (e:Ending) (w':World):Prop:=
  ∃ v,e=.returned (.agg #[I x.meter,I x.rev,I x.next,I x.month,I x.bought,I x.free,v])∧Sl w' v 2 xs.length (xs.flatMap ADebt.cells)∧Below w.heap.size w w'
/-- .. its debts nowhere below what was there -/
def GrewAccF (x:AAcc) (xs:List ADebt) (k:Int) (w:World) (e:Ending) (w':World):Prop:=
  ∃ v,e=.returned (T2 (.agg #[I x.meter,I x.rev,I x.next,I x.month,I x.bought,I x.free,v]) (I k))∧Sl w' v 2 xs.length (xs.flatMap ADebt.cells)∧Below w.heap.size w w'∧FarB w.heap.size v
/-- .. its debts nowhere below what was there -/
def GrewAccBF (x:AAcc) (xs:List ADebt) (b:ABill) (k:Int) (w:World) (e:Ending) (w':World):Prop:=
  ∃ v,e=.returned (T3 (.agg #[I x.meter,I x.rev,I x.next,I x.month,I x.bought,I x.free,v]) (.agg #[I b.id,I b.tender,I b.debt,I b.fee,I b.price,I b.change,I b.units]) (I k))∧Sl w' v 2 xs.length (xs.flatMap ADebt.cells)∧Below w.heap.size w w'∧FarB w.heap.size v
theorem GrewAccBF.drop {x:AAcc} {xs:List ADebt} {b:ABill} {k:Int} {w w':World} {e:Ending} (h:GrewAccBF x xs b k w e w'):GrewAccB x xs b k w e w':=by
  obtain ⟨v,h1,h2,h3,-⟩:=h;exact ⟨v,h1,h2,h3⟩
end
section
open Go.RowKit

theorem owns_set {w:World} {base e sz n g j:Nat} {v:Value} {cs:List Value} (h:w.ownsRow base e sz v n cs) (hg:g < base) (x:Value):(w.setCell ⟨g,j,none⟩ x).ownsRow base e sz v n cs:=ownsRow_setCell_below h (a:=⟨g,j,none⟩) hg x

end
section
open Go.RowKit

/-- an account comes back, its debts in memory of their own -/
def GrewAccO (x:AAcc) (xs:List ADebt) (w:World) (e:Ending) (w':World):Prop:=
  ∃ v,e=.returned (.agg #[I x.meter,I x.rev,I x.next,I x.month,I x.bought,I x.free,v])∧w'.ownsRow (w.heap.size+2) 46 2 v xs.length (xs.flatMap ADebt.cells)∧Below w.heap.size w w'
theorem flat_takeD {xs:List ADebt} {k:Nat} (hk:k < xs.length):(xs.take (k+1)).flatMap ADebt.cells=(xs.take k).flatMap ADebt.cells++(xs.getD k default).cells:=by
  rw [List.take_add_one,List.flatMap_append,List.getElem?_eq_getElem hk,List.getD_eq_getElem?_getD,List.getElem?_eq_getElem hk];simp
theorem AccountCopy_any (x : AAcc) (v : Value) (xs : List ADebt) (w : World) (h : Sl w v 2 xs.length (xs.flatMap ADebt.cells)) (h8 : xs.length ≤ 8) :
    Calls Tryz.prog 61 #[.agg #[I x.meter,I x.rev,I x.next,I x.month,I x.bought,I x.free,v]] w (GrewAccO x xs w):=by
  obtain ⟨i0,hi,hz0,hz1,hz2⟩:=info_parts info_debts;obtain ⟨x1,x2,x3,x4,x5,x6⟩:=x;simp only [GrewAccO] at *;have hb1:=boxed_below w (.cells #[I x1,I x2,I x3,I x4,I x5,I x6,v] 64);have hb:=hb1.alloc hb1.size (.cells #[I 0,I 0,I 0,I 0,I 0,I 0,.slice none 0 0] 64);have h1:=h.below hb;obtain ⟨a,cap,rfl,-⟩:=h;obtain ⟨a',cap',hv,hn,hl,h0,hr⟩:=h1;injection hv with e1 e2 e3
  subst e1 e3;clear hb1 e2 hl h0;have oc:=(Own.new rfl [I x1,I x2,I x3,I x4,I x5,I x6,.slice a xs.length cap] 64 (w:=w)).alloc (.cells #[I 0,I 0,I 0,I 0,I 0,I 0,.slice none 0 0] 64);have od:=Own.new (w:=w.alloc (.cells #[I x1,I x2,I x3,I x4,I x5,I x6,.slice a xs.length cap] 64)) (g:=w.heap.size+1) (by simp) [I 0,I 0,I 0,I 0,I 0,I 0,.slice none 0 0] 64;go_enter Tryz.func61,Tryz.ntmps61;go_wp2;have hsw:((w.alloc (.cells #[I x1,I x2,I x3,I x4,I x5,I x6,.slice a xs.length cap] 64)).alloc (.cells #[I 0,I 0,I 0,I 0,I 0,I 0,.slice none 0 0] 64)).heap.size=w.heap.size+2:=by simp
  generalize hW0:((w.alloc (.cells #[I x1,I x2,I x3,I x4,I x5,I x6,.slice a xs.length cap] 64)).alloc (.cells #[I 0,I 0,I 0,I 0,I 0,I 0,.slice none 0 0] 64))=W0 at *;clear hW0
  go_loopw [3,4] (fun v i wr=>∃ k:Nat,k≤xs.length∧i=I k∧Hid (wr.ownsRow (w.heap.size+2) 46 2 v (xs.take k).length ((xs.take k).flatMap ADebt.cells))∧Below W0.heap.size W0 wr) (fun _ i _=>xs.length-(intOf i).toNat)
  case atStart=>exact ⟨0,Nat.zero_le _,rfl,World.ownsRow_nil _ _ _ _,Below.refl _ _⟩
  case round=>
    obtain ⟨k,hk,rfl,hO,hbw⟩:=hrel;have hown:=hO.out;have hsz:=hbw.size;have cO:=oc.below hbw;have cA:=cO.s7;clear cO
    by_cases hlt:k < xs.length
    · obtain ⟨b,off,rfl,hbl,hc⟩:=hr.resolve_left (by omega)
      obtain ⟨e0,e1⟩:=elDebt hbl hc hbw k hlt;have hs:=Lib.hid (flat_takeD hlt);have hi0:(0:Int)≤(k:Int):=by omega
      have hi1:(k:Int) < (xs.length:Int):=by omega
      have hkl:(xs.take k).length=k:=by simp;omega
      have hkl1:(xs.take (k+1)).length=k+1:=by simp;omega
      rw [hkl] at hown;clear hc hr;generalize xs.getD k default=y at *
      go_wp2_with (skip;(at_builtin;refine wpList_append_own _ rfl _ _ 62 rfl (w.heap.size+2) 46 i0 (.agg #[.int .i64 0,.int .i64 0]) 2 16 Tryz.underlying62 hi hz0 hz1 hz2 rfl (by decide) _ _ _ rfl (hown.alloc _) ⟨wr.heap.size,0,none⟩ 1 1 [I y.owed,I y.bp] rfl rfl (news_lit _ [I y.owed,I y.bp] _) (oneCells_lit rfl) (by unfold maxLen;omega) (by omega) (by simp;omega) ?_;intro v' w1 hown' hgrow _))
      have hbel:=grown_below (hbw.alloc hsz _) (hown.alloc _) (by omega) hgrow
      have hO':Hid (w1.ownsRow (w.heap.size+2) 46 2 v' (xs.take (k+1)).length ((xs.take (k+1)).flatMap ADebt.cells)):=by
        rw [hkl1,hs.out];exact hown'
      clear hown hown' hgrow hO;go_wp2;exact ⟨⟨k+1,by omega,by go_num,hO',hbel⟩,by simp [intOf];omega⟩
    · have hkm:k=xs.length:=by omega
      have hge:(xs.length:Int)≤(k:Int):=by omega
      rw [hkm,List.take_length] at hown;have HS:=Lib.hid hown;have hS:=Sl.of_owns hown (by omega);obtain ⟨a2,cap2,rfl,-⟩:=hS;have k0:=hb.trans (hbw.mono (by omega));have dO:=od.below hbw;have dA:=dO.s7;clear dO;clear hkm hO hown hr hbw;have r1:=set_same;have r2:=set_off;have r3:=set_blk;go_wp2;exact bodyPost_ret (v:=.agg #[I x1,I x2,I x3,I x4,I x5,I x6,.slice a2 xs.length cap2]) (by simp [results,Tryz.results61,go_sem, *];try omega) rfl (⟨_,rfl,(by repeat (first | with_reducible exact HS.out | refine owns_set ?_ (by omega) _)),below_autor⟩)
end
section
open Go.RowKit

def oweE (x:AAcc) (xs:List ADebt) (d:ADebt):Int:=if accMay x xs then (if inB d.owed 1 1000000000 then (if inB d.bp 0 10000 then (if xs.length=8 then 16 else 0) else 2) else 2) else 5
def oweX (x:AAcc) (xs:List ADebt) (d:ADebt):AAcc:=if oweE x xs d=0 then x else ⟨0,0,0,0,0,0⟩
def oweL (x:AAcc) (xs:List ADebt) (d:ADebt):List ADebt:=if oweE x xs d=0 then xs++[d] else []
theorem owe_err {x:AAcc} {xs:List ADebt} {d:ADebt} (k:Int) (h:oweE x xs d=k) (hk:k≠0):oweX x xs d=⟨0,0,0,0,0,0⟩∧oweL x xs d=[]∧oweE x xs d=k:=by simp [oweX,oweL,h,hk]
theorem owe_ok {x:AAcc} {xs:List ADebt} {d:ADebt} (h:oweE x xs d=0):oweX x xs d=x∧oweL x xs d=xs++[d]∧oweE x xs d=0:=by simp [oweX,oweL,h]
theorem accMay_len {x:AAcc} {xs:List ADebt} (h:accMay x xs=true):xs.length≤8:=by
  simp only [accMay,Bool.and_eq_true,decide_eq_true_eq] at h;exact (debtE_zero h.1.1.1.1.1.1).1
theorem news_own {w:World} {g:Nat} {cs:List Value} (h:Own w g cs):∀ (j:Nat) (u:Value),cs[j]?=some u→w.cell? ((⟨g,0,none⟩:Addr).add j)=some u:=by
  intro j u hu;have hj:=(List.getElem?_eq_some_iff.1 hu).1;have:=h.cell j hj;rw [List.getD_eq_getElem?_getD,hu,Nat.zero_add] at this;unfold Addr.add
  split
  · subst_vars;simpa using this
  · simpa using this
theorem debts_one:∀ ys:List ADebt,oneCells (ys.flatMap ADebt.cells):=fun ys=>oneCells_flat (fun x u hu=>by simp only [ADebt.cells,List.mem_cons,List.not_mem_nil,or_false] at hu;rcases hu with rfl | rfl<;>rfl) ys

theorem Owe_f (x : AAcc) (v : Value) (xs : List ADebt) (d : ADebt) (w : World) (h : Sl w v 2 xs.length (xs.flatMap ADebt.cells)) :
    Calls Tryz.prog 125 #[.agg #[I x.meter,I x.rev,I x.next,I x.month,I x.bought,I x.free,v],.agg #[I d.owed,I d.bp]] w (GrewAccF (oweX x xs d) (oweL x xs d) (oweE x xs d) w):=by
  obtain ⟨i0,hi,hz0,hz1,hz2⟩:=info_parts info_debts;have M:=Lib.hid (fun W (hW:Sl W v 2 xs.length (xs.flatMap ADebt.cells))=>may_any x v xs W hW);obtain ⟨x1,x2,x3,x4,x5,x6⟩:=x;obtain ⟨d1,d2⟩:=d;simp only at *;have hb1:=boxed_below w (.cells #[I x1,I x2,I x3,I x4,I x5,I x6,v] 64);have hb2:=hb1.alloc hb1.size (.cells #[I d1,I d2] 46);have hb:=hb2.alloc hb2.size (.cells #[I 0,I 0,I 0,I 0,I 0,I 0,.slice none 0 0] 64);have h1:=h.below hb;have h':=h;obtain ⟨a,cap,rfl,-⟩:=h';clear hb1 hb2;cases c0:accMay ⟨x1,x2,x3,x4,x5,x6⟩ xs
  · obtain ⟨q1,q2,q3⟩:=owe_err (x:=⟨x1,x2,x3,x4,x5,x6⟩) (xs:=xs) (d:=⟨d1,d2⟩) 5 (by simp [oweE,c0]) (by decide)
    rw [q1,q2,q3];clear q1 q2 q3;rw [c0] at M;clear c0 h;go_enter Tryz.func125,Tryz.ntmps125
    go_wp2_with fail
    refine (M.out _ h1).mono ?_;rintro e w1 ⟨rfl,k1⟩;have oc:=((((Own.new (w:=w) rfl [I x1,I x2,I x3,I x4,I x5,I x6,.slice a xs.length cap] 64).alloc (.cells #[I d1,I d2] 46)).alloc (.cells #[I 0,I 0,I 0,I 0,I 0,I 0,.slice none 0 0] 64)).below k1);have oz:=((Own.new (w:=(w.alloc (.cells #[I x1,I x2,I x3,I x4,I x5,I x6,.slice a xs.length cap] 64)).alloc (.cells #[I d1,I d2] 46)) (g:=w.heap.size+2) (by simp) [I 0,I 0,I 0,I 0,I 0,I 0,.slice none 0 0] 64).below k1);have cO:=oc;have cf0:=cO.f 0;have cf1:=cO.f 1;have cf2:=cO.f 2;have cf3:=cO.f 3;have cf4:=cO.f 4;have cf5:=cO.f 5;have cf6:=cO.f 6;have c0:=cO.c0;have c1:=cO.c1;have c2:=cO.c2;have c3:=cO.c3;have c4:=cO.c4;have c5:=cO.c5;have c6:=cO.c6;clear cO;have pO:=((Own.new (g:=w.heap.size+1) (by simp) [I d1,I d2] 46).alloc _).below k1;have pfA:=pO.f;have p0:=pO.c0;have p1:=pO.c1;clear pO;have zO:=oz;have zA:=zO.s7;clear zO;have k:=hb.trans (k1.mono hb.size);have hzw:w.heap.size+3≤w1.heap.size:=by have:=k1.size;simp at this;omega
    clear k1 hb h1;have r1:=set_same;have r2:=set_off;have r3:=set_blk
    go_wp2_with (go_at_call 110;refine (awithin_any _ _ _ _).mono ?_;rintro e w' ⟨rfl,rfl⟩)
    exact bodyPost_ret (v:=T2 (.agg #[I 0,I 0,I 0,I 0,I 0,I 0,.slice none 0 0]) (I 5)) (by simp [results,Tryz.results125,go_sem, *];try omega) rfl (⟨_,rfl,Sl.nil _ _,below_autor,FarB.nil _ _ _⟩)
  · have h8 := accMay_len c0
    cases c1:inB d1 1 1000000000
    · obtain ⟨q1,q2,q3⟩:=owe_err (x:=⟨x1,x2,x3,x4,x5,x6⟩) (xs:=xs) (d:=⟨d1,d2⟩) 2 (by simp [oweE,c0,c1]) (by decide)
      rw [q1,q2,q3];clear q1 q2 q3;rw [c0] at M;clear c0 h h8;go_enter Tryz.func125,Tryz.ntmps125
      go_wp2_with fail
      refine (M.out _ h1).mono ?_;rintro e w1 ⟨rfl,k1⟩;have oc:=((((Own.new (w:=w) rfl [I x1,I x2,I x3,I x4,I x5,I x6,.slice a xs.length cap] 64).alloc (.cells #[I d1,I d2] 46)).alloc (.cells #[I 0,I 0,I 0,I 0,I 0,I 0,.slice none 0 0] 64)).below k1);have oz:=((Own.new (w:=(w.alloc (.cells #[I x1,I x2,I x3,I x4,I x5,I x6,.slice a xs.length cap] 64)).alloc (.cells #[I d1,I d2] 46)) (g:=w.heap.size+2) (by simp) [I 0,I 0,I 0,I 0,I 0,I 0,.slice none 0 0] 64).below k1);have cO:=oc;have cf0:=cO.f 0;have cf1:=cO.f 1;have cf2:=cO.f 2;have cf3:=cO.f 3;have cf4:=cO.f 4;have cf5:=cO.f 5;have cf6:=cO.f 6;have c0:=cO.c0;have c1:=cO.c1;have c2:=cO.c2;have c3:=cO.c3;have c4:=cO.c4;have c5:=cO.c5;have c6:=cO.c6;clear cO;have pO:=((Own.new (g:=w.heap.size+1) (by simp) [I d1,I d2] 46).alloc _).below k1;have pfA:=pO.f;have p0:=pO.c0;have p1:=pO.c1;clear pO;have zO:=oz;have zA:=zO.s7;clear zO;have k:=hb.trans (k1.mono hb.size);have hzw:w.heap.size+3≤w1.heap.size:=by have:=k1.size;simp at this;omega
      clear k1 hb h1;have r1:=set_same;have r2:=set_off;have r3:=set_blk
      go_wp2_with (go_at_call 110;refine (awithin_any _ _ _ _).mono ?_;rintro e w' ⟨rfl,rfl⟩)
      exact bodyPost_ret (v:=T2 (.agg #[I 0,I 0,I 0,I 0,I 0,I 0,.slice none 0 0]) (I 2)) (by simp [results,Tryz.results125,go_sem, *];try omega) rfl (⟨_,rfl,Sl.nil _ _,below_autor,FarB.nil _ _ _⟩)
    cases c2:inB d2 0 10000
    · obtain ⟨q1,q2,q3⟩:=owe_err (x:=⟨x1,x2,x3,x4,x5,x6⟩) (xs:=xs) (d:=⟨d1,d2⟩) 2 (by simp [oweE,c0,c1,c2]) (by decide)
      rw [q1,q2,q3];clear q1 q2 q3;rw [c0] at M;clear c0 h h8;go_enter Tryz.func125,Tryz.ntmps125
      go_wp2_with fail
      refine (M.out _ h1).mono ?_;rintro e w1 ⟨rfl,k1⟩;have oc:=((((Own.new (w:=w) rfl [I x1,I x2,I x3,I x4,I x5,I x6,.slice a xs.length cap] 64).alloc (.cells #[I d1,I d2] 46)).alloc (.cells #[I 0,I 0,I 0,I 0,I 0,I 0,.slice none 0 0] 64)).below k1);have oz:=((Own.new (w:=(w.alloc (.cells #[I x1,I x2,I x3,I x4,I x5,I x6,.slice a xs.length cap] 64)).alloc (.cells #[I d1,I d2] 46)) (g:=w.heap.size+2) (by simp) [I 0,I 0,I 0,I 0,I 0,I 0,.slice none 0 0] 64).below k1);have cO:=oc;have cf0:=cO.f 0;have cf1:=cO.f 1;have cf2:=cO.f 2;have cf3:=cO.f 3;have cf4:=cO.f 4;have cf5:=cO.f 5;have cf6:=cO.f 6;have c0:=cO.c0;have c1:=cO.c1;have c2:=cO.c2;have c3:=cO.c3;have c4:=cO.c4;have c5:=cO.c5;have c6:=cO.c6;clear cO;have pO:=((Own.new (g:=w.heap.size+1) (by simp) [I d1,I d2] 46).alloc _).below k1;have pfA:=pO.f;have p0:=pO.c0;have p1:=pO.c1;clear pO;have zO:=oz;have zA:=zO.s7;clear zO;have k:=hb.trans (k1.mono hb.size);have hzw:w.heap.size+3≤w1.heap.size:=by have:=k1.size;simp at this;omega
      clear k1 hb h1;have r1:=set_same;have r2:=set_off;have r3:=set_blk
      go_wp2_with (go_at_call 110;refine (awithin_any _ _ _ _).mono ?_;rintro e w' ⟨rfl,rfl⟩)
      exact bodyPost_ret (v:=T2 (.agg #[I 0,I 0,I 0,I 0,I 0,I 0,.slice none 0 0]) (I 2)) (by simp [results,Tryz.results125,go_sem, *];try omega) rfl (⟨_,rfl,Sl.nil _ _,below_autor,FarB.nil _ _ _⟩)
    by_cases c3:xs.length=8
    · obtain ⟨q1,q2,q3⟩:=owe_err (x:=⟨x1,x2,x3,x4,x5,x6⟩) (xs:=xs) (d:=⟨d1,d2⟩) 16 (by simp [oweE,c0,c1,c2,c3]) (by decide)
      rw [q1,q2,q3];clear q1 q2 q3;have c3b:((xs.length:Int)==8)=true:=by rw [c3];rfl
      rw [c0] at M;clear c0 h h8 c3;go_enter Tryz.func125,Tryz.ntmps125
      go_wp2_with fail
      refine (M.out _ h1).mono ?_;rintro e w1 ⟨rfl,k1⟩;have oc:=((((Own.new (w:=w) rfl [I x1,I x2,I x3,I x4,I x5,I x6,.slice a xs.length cap] 64).alloc (.cells #[I d1,I d2] 46)).alloc (.cells #[I 0,I 0,I 0,I 0,I 0,I 0,.slice none 0 0] 64)).below k1);have oz:=((Own.new (w:=(w.alloc (.cells #[I x1,I x2,I x3,I x4,I x5,I x6,.slice a xs.length cap] 64)).alloc (.cells #[I d1,I d2] 46)) (g:=w.heap.size+2) (by simp) [I 0,I 0,I 0,I 0,I 0,I 0,.slice none 0 0] 64).below k1);have cO:=oc;have cf0:=cO.f 0;have cf1:=cO.f 1;have cf2:=cO.f 2;have cf3:=cO.f 3;have cf4:=cO.f 4;have cf5:=cO.f 5;have cf6:=cO.f 6;have c0:=cO.c0;have c1:=cO.c1;have c2:=cO.c2;have c3:=cO.c3;have c4:=cO.c4;have c5:=cO.c5;have c6:=cO.c6;clear cO;have pO:=((Own.new (g:=w.heap.size+1) (by simp) [I d1,I d2] 46).alloc _).below k1;have pfA:=pO.f;have p0:=pO.c0;have p1:=pO.c1;clear pO;have zO:=oz;have zA:=zO.s7;clear zO;have k:=hb.trans (k1.mono hb.size);have hzw:w.heap.size+3≤w1.heap.size:=by have:=k1.size;simp at this;omega
      clear k1 hb h1;have r1:=set_same;have r2:=set_off;have r3:=set_blk
      go_wp2_with (go_at_call 110;refine (awithin_any _ _ _ _).mono ?_;rintro e w' ⟨rfl,rfl⟩)
      exact bodyPost_ret (v:=T2 (.agg #[I 0,I 0,I 0,I 0,I 0,I 0,.slice none 0 0]) (I 16)) (by simp [results,Tryz.results125,go_sem, *];try omega) rfl (⟨_,rfl,Sl.nil _ _,below_autor,FarB.nil _ _ _⟩)
    · obtain ⟨q1, q2, q3⟩ := owe_ok (x := ⟨x1, x2, x3, x4, x5, x6⟩) (xs := xs) (d := ⟨d1, d2⟩) (by simp [oweE, c0, c1, c2, c3])
      rw [q1,q2,q3];clear q1 q2 q3;have c3b:((xs.length:Int)==8)=false:=by rw [← Bool.not_eq_true,beq_iff_eq];omega
      rw [c0] at M;clear c0 c3
      by_cases he:xs=[]
      · subst he
        cases a
        all_goals
          go_enter Tryz.func125,Tryz.ntmps125
          go_wp2_with fail
          refine (M.out _ h1).mono ?_;rintro e w1 ⟨rfl,k1⟩;have oc:=((((Own.new (w:=w) rfl [I x1,I x2,I x3,I x4,I x5,I x6,.slice _ ([]:List ADebt).length cap] 64).alloc (.cells #[I d1,I d2] 46)).alloc (.cells #[I 0,I 0,I 0,I 0,I 0,I 0,.slice none 0 0] 64)).below k1);have oz:=((Own.new (w:=(w.alloc (.cells #[I x1,I x2,I x3,I x4,I x5,I x6,.slice _ ([]:List ADebt).length cap] 64)).alloc (.cells #[I d1,I d2] 46)) (g:=w.heap.size+2) (by simp) [I 0,I 0,I 0,I 0,I 0,I 0,.slice none 0 0] 64).below k1);have cO:=oc;have cf0:=cO.f 0;have cf1:=cO.f 1;have cf2:=cO.f 2;have cf3:=cO.f 3;have cf4:=cO.f 4;have cf5:=cO.f 5;have cf6:=cO.f 6;have c0:=cO.c0;have c1:=cO.c1;have c2:=cO.c2;have c3:=cO.c3;have c4:=cO.c4;have c5:=cO.c5;have c6:=cO.c6;clear cO;have pO:=((Own.new (g:=w.heap.size+1) (by simp) [I d1,I d2] 46).alloc _).below k1;have pfA:=pO.f;have p0:=pO.c0;have p1:=pO.c1;clear pO;have zO:=oz;have zA:=zO.s7;clear zO;have k:=hb.trans (k1.mono hb.size);have hzw:w.heap.size+3≤w1.heap.size:=by have:=k1.size;simp at this;omega
          clear k1 hb h1;have r1:=set_same;have r2:=set_off;have r3:=set_blk
          go_wp2_with (first | (go_at_call 110;refine (awithin_any _ _ _ _).mono ?_;rintro e w' ⟨rfl,rfl⟩))
          have n1:¬ w.heap.size=w1.heap.size:=by omega
          have n2:¬ w.heap.size+1=w1.heap.size:=by omega
          have a6:=((boxed_below w1 (.cells #[I d1,I d2] 46)).cell (p:=⟨w.heap.size,6,none⟩) (by show w.heap.size < w1.heap.size;omega)).trans c6
          go_region_law
            (first
              | (refine step_append_lies _ (by rfl) _ _ _ (by rfl) w1.heap.size 46 i0 (.agg #[.int .i64 0, .int .i64 0]) 2 16 Tryz.underlying62 hi hz0 hz1 hz2 rfl (by decide) (.slice none 0 0) 0 [] (by rfl) (World.ownsRow_nil _ _ _ _) ⟨w1.heap.size, 0, none⟩ 1 1 [I d1, I d2] (by rfl) (by rfl) (news_lit _ _ _) (oneCells_lit rfl) (by omega) (by unfold maxLen; omega) (by omega) (by first | omega | (simp; done) | (simp; omega)) _ rfl ?_; intro g2 cap2 w3 hown2 hgrow2 hat2 hlt2
                 have hg2a:w1.heap.size≤g2:=by rcases hat2 with h | h<;>first | (cases h;done) | (cases h;omega) | omega | (rw [h];simp;done) | (rw [h];simp;omega)
                 have hg2:=Lib.hid (show w.heap.size≤g2 by omega);have hbB:Below w1.heap.size w1 w3:=Below.grown (B:=w1.heap.size) below_autor hgrow2 (by first | omega | (simp;done) | (simp;omega)) (fun j hj=>by cases hj);have hzB:=hbB.size;have s6:=(hbB.cell (p:=⟨w.heap.size,6,none⟩) (by first | omega | (simp;done) | (simp;omega))).trans c6;have sf6:=(hbB.frozen (p:=⟨w.heap.size,6,none⟩) (by first | omega | (simp;done) | (simp;omega))).trans cf6)
              | fail)
          all_goals
            have eO:=oc.below hbB;have efA:=eO.f;have e0:=eO.c0;have e1:=eO.c1;have e2:=eO.c2;have e3:=eO.c3;have e4:=eO.c4;have e5:=eO.c5;have e6:=eO.c6;clear eO;have fO:=oz.below hbB;have fA:=fO.s7;clear fO;have HS:Hid (w3.ownsRow w1.heap.size 46 2 (.slice (some ⟨g2,0,none⟩) (0+1) cap2) (0+1) (([(⟨d1,d2⟩:ADebt)]).flatMap ADebt.cells)):=hown2;have kB:=k.trans (hbB.mono k.size);clear s6 hown2 hbB c0 c1 c2 c3 c4 c5 c6 zA oc oz k p0 p1 pfA;go_wp2;exact bodyPost_ret (v:=T2 (.agg #[I x1,I x2,I x3,I x4,I x5,I x6,.slice (some ⟨g2,0,none⟩) (0+1) cap2]) (I 0)) (by simp [results,Tryz.results125,go_sem, *];try omega) rfl (⟨_,rfl,Sl.of_owns' (base:=w1.heap.size) (e:=46) (n':=0+1) (by repeat (first | with_reducible exact HS.out | refine owns_set ?_ (by omega) _)) (by simp) (by simp),below_autor,FarB.lit hg2.out⟩)
      · have hpos:0 < xs.length:=List.length_pos_iff.2 he
        have hS0:=h;obtain ⟨a',cap',hv,hn,hl,h0,hr⟩:=h;injection hv with e1 e2 e3
        subst e1 e3;clear e2;obtain ⟨b,off,rfl,hbl,hcl⟩:=hr.resolve_left (by omega);have hone:=debts_one xs;have Hl:=Lib.hid hl;have Hone:=Lib.hid hone;have hlen:xs.length≤281474976710656:=by omega
        clear h0 hl hcl hone;go_enter Tryz.func125,Tryz.ntmps125
        go_wp2_with fail
        refine (M.out _ h1).mono ?_;rintro e w1 ⟨rfl,k1⟩;have oc:=((((Own.new (w:=w) rfl [I x1,I x2,I x3,I x4,I x5,I x6,.slice (some ⟨b,off,none⟩) xs.length cap] 64).alloc (.cells #[I d1,I d2] 46)).alloc (.cells #[I 0,I 0,I 0,I 0,I 0,I 0,.slice none 0 0] 64)).below k1);have oz:=((Own.new (w:=(w.alloc (.cells #[I x1,I x2,I x3,I x4,I x5,I x6,.slice (some ⟨b,off,none⟩) xs.length cap] 64)).alloc (.cells #[I d1,I d2] 46)) (g:=w.heap.size+2) (by simp) [I 0,I 0,I 0,I 0,I 0,I 0,.slice none 0 0] 64).below k1);have cO:=oc;have cf0:=cO.f 0;have cf1:=cO.f 1;have cf2:=cO.f 2;have cf3:=cO.f 3;have cf4:=cO.f 4;have cf5:=cO.f 5;have cf6:=cO.f 6;have c0:=cO.c0;have c1:=cO.c1;have c2:=cO.c2;have c3:=cO.c3;have c4:=cO.c4;have c5:=cO.c5;have c6:=cO.c6;clear cO;have pO:=((Own.new (g:=w.heap.size+1) (by simp) [I d1,I d2] 46).alloc _).below k1;have pfA:=pO.f;have p0:=pO.c0;have p1:=pO.c1;clear pO;have zO:=oz;have zA:=zO.s7;clear zO;have k:=hb.trans (k1.mono hb.size);have hzw:w.heap.size+3≤w1.heap.size:=by have:=k1.size;simp at this;omega
        clear k1 hb h1;have r1:=set_same;have r2:=set_off;have r3:=set_blk
        go_wp2_with (first | (go_at_call 110;refine (awithin_any _ _ _ _).mono ?_;rintro e w' ⟨rfl,rfl⟩))
        have HS0:=Lib.hid hS0;clear hS0;have n1:¬ w.heap.size=w1.heap.size:=by omega
        have n2:¬ w.heap.size+1=w1.heap.size:=by omega
        have a6:=((boxed_below w1 (.cells #[I d1,I d2] 46)).cell (p:=⟨w.heap.size,6,none⟩) (by show w.heap.size < w1.heap.size;omega)).trans c6
        go_region_law
          (first
            | (refine step_append_lies _ (by rfl) _ _ _ (by rfl) w1.heap.size 46 i0 (.agg #[.int .i64 0, .int .i64 0]) 2 16 Tryz.underlying62 hi hz0 hz1 hz2 rfl (by decide) (.slice none 0 0) 0 [] (by rfl) (World.ownsRow_nil _ _ _ _) ⟨b, off, none⟩ xs.length cap (xs.flatMap ADebt.cells) (by rfl) Hl.out (Sl.news (HS0.out.below below_autor)) Hone.out hpos (by unfold maxLen; omega) (by omega) (by first | omega | (simp; done) | (simp; omega)) _ rfl ?_; intro g1 cap1 w2 hown1 hgrow1 hat1 hlt1
               rw [Nat.zero_add,List.nil_append] at hown1;have hbW:=Below.grown (Below.refl _ _) hgrow1 (Nat.le_refl _) (fun j hj=>by cases hj);have hbA:Below w1.heap.size w1 w2:=Below.grown (B:=w1.heap.size) below_autor hgrow1 (by simp) (fun j hj=>by cases hj);have hg1:w1.heap.size≤g1:=by rcases hat1 with h | h;(cases h);(rw [h];simp)
               have hzA:=hbA.size;have s6:=(hbA.cell (p:=⟨w.heap.size,6,none⟩) (by first | omega | (simp;done) | (simp;omega))).trans c6;have s7:=(hbA.cell (p:=⟨w.heap.size+1,0,none⟩) (by first | omega | (simp;done) | (simp;omega))).trans p0;have s8:=(hbA.cell (p:=⟨w.heap.size+1,1,none⟩) (by first | omega | (simp;done) | (simp;omega))).trans p1;have m1:¬ w.heap.size=w2.heap.size:=by omega
               have m2:¬ w.heap.size+1=w2.heap.size:=by omega
               clear hat1 hgrow1)
            | (first
                | (refine step_append_lies _ (by rfl) _ _ _ (by rfl) w1.heap.size 46 i0 (.agg #[.int .i64 0,.int .i64 0]) 2 16 Tryz.underlying62 hi hz0 hz1 hz2 rfl (by decide) (.slice (some ⟨g1,0,none⟩) xs.length cap1) xs.length (xs.flatMap ADebt.cells) (by rfl) (hown1.alloc _) ⟨w2.heap.size,0,none⟩ 1 1 [I d1,I d2] (by rfl) (by rfl) (news_lit _ _ _) (oneCells_lit rfl) (by omega) (by unfold maxLen;omega) (by omega) (by first | omega | (simp;done) | (simp;omega)) _ rfl ?_;intro g2 cap2 w3 hown2 hgrow2 hat2 hlt2)
                | (refine step_append_lies _ (by rfl) _ _ _ (by rfl) w1.heap.size 46 i0 (.agg #[.int .i64 0,.int .i64 0]) 2 16 Tryz.underlying62 hi hz0 hz1 hz2 rfl (by decide) (.slice (some ⟨g1,0,none⟩) xs.length cap1) xs.length (xs.flatMap ADebt.cells) (by rfl) hown1 ⟨w1.heap.size,0,none⟩ 1 1 [I d1,I d2] (by rfl) (by rfl) (news_own (Own.below (w:=World.drew (w1.alloc (.cells #[I d1,I d2] 46))) (Own.new (w:=w1) rfl [I d1,I d2] 46) hbW)) (oneCells_lit rfl) (by omega) (by unfold maxLen;omega) (by omega) (by first | omega | (simp;done) | (simp;omega)) _ rfl ?_;intro g2 cap2 w3 hown2 hgrow2 hat2 hlt2)
               have hg2a:w1.heap.size≤g2:=by rcases hat2 with h | h<;>first | (cases h;done) | (cases h;omega) | omega | (rw [h];simp;done) | (rw [h];simp;omega)
               have hg2:=Lib.hid (show w.heap.size≤g2 by omega);have hbB:Below w1.heap.size w1 w3:=Below.grown (B:=w1.heap.size) below_autor hgrow2 (by first | omega | (simp;done) | (simp;omega)) (fun j hj=>by cases hj;omega);have hzB:=hbB.size;have s6:=(hbB.cell (p:=⟨w.heap.size,6,none⟩) (by first | omega | (simp;done) | (simp;omega))).trans c6;have s7:=(hbB.cell (p:=⟨w.heap.size+1,0,none⟩) (by first | omega | (simp;done) | (simp;omega))).trans p0;have s8:=(hbB.cell (p:=⟨w.heap.size+1,1,none⟩) (by first | omega | (simp;done) | (simp;omega))).trans p1;have sf6:=(hbB.frozen (p:=⟨w.heap.size,6,none⟩) (by first | omega | (simp;done) | (simp;omega))).trans cf6;clear hat2 hgrow2))
        all_goals
          have eO:=oc.below hbB;have efA:=eO.f;have e0:=eO.c0;have e1:=eO.c1;have e2:=eO.c2;have e3:=eO.c3;have e4:=eO.c4;have e5:=eO.c5;have e6:=eO.c6;clear eO;have fO:=oz.below hbB;have fA:=fO.s7;clear fO
          have HS:Hid (w3.ownsRow w1.heap.size 46 2 (.slice (some ⟨g2,0,none⟩) (xs.length+1) cap2) (xs.length+1) ((xs++[(⟨d1,d2⟩:ADebt)]).flatMap ADebt.cells)):=by
            rw [List.flatMap_append];exact hown2
          have kB:=k.trans (hbB.mono k.size);have hl1:xs.length+1≤281474976710656:=by omega
          clear hown1 hown2 hbW hbA hbB c0 c1 c2 c3 c4 c5 c6 zA oc oz k p0 p1 pfA s6 s7 s8;go_wp2;exact bodyPost_ret (v:=T2 (.agg #[I x1,I x2,I x3,I x4,I x5,I x6,.slice (some ⟨g2,0,none⟩) (xs.length+1) cap2]) (I 0)) (by simp [results,Tryz.results125,go_sem, *];try omega) rfl (⟨_,rfl,Sl.of_owns' (base:=w1.heap.size) (e:=46) (n':=xs.length+1) (by repeat (first | with_reducible exact HS.out | refine owns_set ?_ (by omega) _)) (by simp) (by simpa using hl1),below_autor,FarB.lit hg2.out⟩)
end
end Go.Proofs.YtdjgcenjonegjaaGreat
