/- terms: what is wrong with them; a copy; two held against each other · debt.Age: the plain law (the walks are not begun) · ref.aged and ref.Aged · debt.Age, ref.Aged: the list that comes back lies in new memory -/
import Derived.Test.YtdjgcenjonegjaaGreatPk06
import Derived.Test.YtdjgcenjonegjaaGreatPk02
import Derived.Test.YtdjgcenjonegjaaGreatPk07
import Derived.Test.YtdjgcenjonegjaaGreatPk05
set_option maxRecDepth 20000
set_option maxHeartbeats 8000000
set_option linter.unusedSimpArgs false
set_option linter.unusedVariables false
namespace Go.Proofs.YtdjgcenjonegjaaGreat
section
open Go.RowKit

def termsOk (f b d al:Int):Bool:=inB f 0 100000&&inB b 0 10000&&inB d 0 10000&&inB al 0 2097151
def termsE (xs:List AStep) (f b d al:Int):Int:=if tariffE xs=0 then (if termsOk f b d al then 0 else 2) else tariffE xs
theorem CheckTerms_any (v : Value) (xs : List AStep) (f b d al : Int) (w : World) (h : Sl w v 2 xs.length (xs.flatMap AStep.cells)) : Calls Tryz.prog 78 #[.agg #[v, I f, I b, I d, I al]] w (Grew (I (termsE xs f b d al)) w) := by
  have T:=Lib.hid (fun W hW=>CheckT_any v xs W hW);have hS:=h;obtain ⟨a,cap,rfl,-⟩:=h
  by_cases hT:tariffE xs=0
  · rw [hT] at T
    cases p1:inB f 0 100000
    · rw [show termsE xs f b d al=2 by simp [termsE,termsOk,hT,p1]]
      go_enter Tryz.func78,Tryz.ntmps78
      go_wp2_with fail
      refine (T.out _ (hS.below (boxed_below w (.cells #[.slice a xs.length cap,I f,I b,I d,I al] 24)))).mono ?_;rintro e w1 ⟨rfl,k1⟩;have cO:=(Own.new (w:=w) rfl [.slice a xs.length cap,I f,I b,I d,I al] 24).below k1;have cA:=cO.s5;clear cO;have k:=below_box k1;clear k1
      go_wp2_with (go_at_call 110;refine (awithin_any _ _ _ _).mono ?_;rintro e w' ⟨rfl,rfl⟩)
      go_ret;exact Grew.intro rfl below_auto
    · cases p2 : inB b 0 10000
      · rw [show termsE xs f b d al=2 by simp [termsE,termsOk,hT,p2]]
        go_enter Tryz.func78,Tryz.ntmps78
        go_wp2_with fail
        refine (T.out _ (hS.below (boxed_below w (.cells #[.slice a xs.length cap,I f,I b,I d,I al] 24)))).mono ?_;rintro e w1 ⟨rfl,k1⟩;have cO:=(Own.new (w:=w) rfl [.slice a xs.length cap,I f,I b,I d,I al] 24).below k1;have cA:=cO.s5;clear cO;have k:=below_box k1;clear k1
        go_wp2_with (go_at_call 110;refine (awithin_any _ _ _ _).mono ?_;rintro e w' ⟨rfl,rfl⟩)
        go_ret;exact Grew.intro rfl below_auto
      · cases p3:inB d 0 10000
        · rw [show termsE xs f b d al=2 by simp [termsE,termsOk,hT,p3]]
          go_enter Tryz.func78,Tryz.ntmps78
          go_wp2_with fail
          refine (T.out _ (hS.below (boxed_below w (.cells #[.slice a xs.length cap,I f,I b,I d,I al] 24)))).mono ?_;rintro e w1 ⟨rfl,k1⟩;have cO:=(Own.new (w:=w) rfl [.slice a xs.length cap,I f,I b,I d,I al] 24).below k1;have cA:=cO.s5;clear cO;have k:=below_box k1;clear k1
          go_wp2_with (go_at_call 110;refine (awithin_any _ _ _ _).mono ?_;rintro e w' ⟨rfl,rfl⟩)
          go_ret;exact Grew.intro rfl below_auto
        · cases p4:inB al 0 2097151
          · rw [show termsE xs f b d al=2 by simp [termsE,termsOk,hT,p4]]
            go_enter Tryz.func78,Tryz.ntmps78
            go_wp2_with fail
            refine (T.out _ (hS.below (boxed_below w (.cells #[.slice a xs.length cap,I f,I b,I d,I al] 24)))).mono ?_;rintro e w1 ⟨rfl,k1⟩;have cO:=(Own.new (w:=w) rfl [.slice a xs.length cap,I f,I b,I d,I al] 24).below k1;have cA:=cO.s5;clear cO;have k:=below_box k1;clear k1
            go_wp2_with (go_at_call 110;refine (awithin_any _ _ _ _).mono ?_;rintro e w' ⟨rfl,rfl⟩)
            go_ret;exact Grew.intro rfl below_auto
          · rw [show termsE xs f b d al=0 by simp [termsE,termsOk,hT,p1,p2,p3,p4]]
            go_enter Tryz.func78,Tryz.ntmps78
            go_wp2_with fail
            refine (T.out _ (hS.below (boxed_below w (.cells #[.slice a xs.length cap,I f,I b,I d,I al] 24)))).mono ?_;rintro e w1 ⟨rfl,k1⟩;have cO:=(Own.new (w:=w) rfl [.slice a xs.length cap,I f,I b,I d,I al] 24).below k1;have cA:=cO.s5;clear cO;have k:=below_box k1;clear k1
            go_wp2_with (go_at_call 110;refine (awithin_any _ _ _ _).mono ?_;rintro e w' ⟨rfl,rfl⟩)
            go_ret;exact Grew.intro rfl below_auto
  · rw [show termsE xs f b d al=tariffE xs by simp [termsE,hT]]
    generalize tariffE xs=r at *;go_enter Tryz.func78,Tryz.ntmps78
    go_wp2_with fail
    refine (T.out _ (hS.below (boxed_below w (.cells #[.slice a xs.length cap,I f,I b,I d,I al] 24)))).mono ?_;rintro e w1 ⟨rfl,k1⟩;have cO:=(Own.new (w:=w) rfl [.slice a xs.length cap,I f,I b,I d,I al] 24).below k1;have cA:=cO.s5;clear cO;have k:=below_box k1;clear k1
    go_wp2_with (go_at_call 110;refine (awithin_any _ _ _ _).mono ?_;rintro e w' ⟨rfl,rfl⟩)
    go_ret;exact Grew.intro rfl below_auto
theorem TermsFault_any (v : Value) (xs : List AStep) (f b d al : Int) (w : World) (h : Sl w v 2 xs.length (xs.flatMap AStep.cells)) : Calls Tryz.prog 55 #[.agg #[v, I f, I b, I d, I al]] w (Grew (I (termsE xs f b d al)) w) := by
  have T:=Lib.hid (fun W hW=>TariffFault_any v xs W hW);have hS:=h;obtain ⟨a,cap,rfl,-⟩:=h
  by_cases hT:tariffE xs=0
  · rw [hT] at T
    cases p1:inB f 0 100000
    · rw [show termsE xs f b d al=2 by simp [termsE,termsOk,hT,p1]]
      go_enter Tryz.func55,Tryz.ntmps55
      go_wp2_with fail
      refine (T.out _ (hS.below (boxed_below w (.cells #[.slice a xs.length cap,I f,I b,I d,I al] 24)))).mono ?_;rintro e w1 ⟨rfl,k1⟩;have cO:=(Own.new (w:=w) rfl [.slice a xs.length cap,I f,I b,I d,I al] 24).below k1;have cA:=cO.s5;clear cO;have k:=below_box k1;clear k1
      go_wp2_with (go_at_call 57;refine (In_any _ _ _ _).mono ?_;rintro e w' ⟨rfl,rfl⟩)
      go_ret;exact Grew.intro rfl below_auto
    · cases p2 : inB b 0 10000
      · rw [show termsE xs f b d al=2 by simp [termsE,termsOk,hT,p2]]
        go_enter Tryz.func55,Tryz.ntmps55
        go_wp2_with fail
        refine (T.out _ (hS.below (boxed_below w (.cells #[.slice a xs.length cap,I f,I b,I d,I al] 24)))).mono ?_;rintro e w1 ⟨rfl,k1⟩;have cO:=(Own.new (w:=w) rfl [.slice a xs.length cap,I f,I b,I d,I al] 24).below k1;have cA:=cO.s5;clear cO;have k:=below_box k1;clear k1
        go_wp2_with (go_at_call 57;refine (In_any _ _ _ _).mono ?_;rintro e w' ⟨rfl,rfl⟩)
        go_ret;exact Grew.intro rfl below_auto
      · cases p3:inB d 0 10000
        · rw [show termsE xs f b d al=2 by simp [termsE,termsOk,hT,p3]]
          go_enter Tryz.func55,Tryz.ntmps55
          go_wp2_with fail
          refine (T.out _ (hS.below (boxed_below w (.cells #[.slice a xs.length cap,I f,I b,I d,I al] 24)))).mono ?_;rintro e w1 ⟨rfl,k1⟩;have cO:=(Own.new (w:=w) rfl [.slice a xs.length cap,I f,I b,I d,I al] 24).below k1;have cA:=cO.s5;clear cO;have k:=below_box k1;clear k1
          go_wp2_with (go_at_call 57;refine (In_any _ _ _ _).mono ?_;rintro e w' ⟨rfl,rfl⟩)
          go_ret;exact Grew.intro rfl below_auto
        · cases p4:inB al 0 2097151
          · rw [show termsE xs f b d al=2 by simp [termsE,termsOk,hT,p4]]
            go_enter Tryz.func55,Tryz.ntmps55
            go_wp2_with fail
            refine (T.out _ (hS.below (boxed_below w (.cells #[.slice a xs.length cap,I f,I b,I d,I al] 24)))).mono ?_;rintro e w1 ⟨rfl,k1⟩;have cO:=(Own.new (w:=w) rfl [.slice a xs.length cap,I f,I b,I d,I al] 24).below k1;have cA:=cO.s5;clear cO;have k:=below_box k1;clear k1
            go_wp2_with (go_at_call 57;refine (In_any _ _ _ _).mono ?_;rintro e w' ⟨rfl,rfl⟩)
            go_ret;exact Grew.intro rfl below_auto
          · rw [show termsE xs f b d al=0 by simp [termsE,termsOk,hT,p1,p2,p3,p4]]
            go_enter Tryz.func55,Tryz.ntmps55
            go_wp2_with fail
            refine (T.out _ (hS.below (boxed_below w (.cells #[.slice a xs.length cap,I f,I b,I d,I al] 24)))).mono ?_;rintro e w1 ⟨rfl,k1⟩;have cO:=(Own.new (w:=w) rfl [.slice a xs.length cap,I f,I b,I d,I al] 24).below k1;have cA:=cO.s5;clear cO;have k:=below_box k1;clear k1
            go_wp2_with (go_at_call 57;refine (In_any _ _ _ _).mono ?_;rintro e w' ⟨rfl,rfl⟩)
            go_ret;exact Grew.intro rfl below_auto
  · rw [show termsE xs f b d al=tariffE xs by simp [termsE,hT]]
    generalize tariffE xs=r at *;go_enter Tryz.func55,Tryz.ntmps55
    go_wp2_with fail
    refine (T.out _ (hS.below (boxed_below w (.cells #[.slice a xs.length cap,I f,I b,I d,I al] 24)))).mono ?_;rintro e w1 ⟨rfl,k1⟩;have cO:=(Own.new (w:=w) rfl [.slice a xs.length cap,I f,I b,I d,I al] 24).below k1;have cA:=cO.s5;clear cO;have k:=below_box k1;clear k1
    go_wp2_with (go_at_call 57;refine (In_any _ _ _ _).mono ?_;rintro e w' ⟨rfl,rfl⟩)
    go_ret;exact Grew.intro rfl below_auto
theorem steps_own (v:Value) (xs:List AStep) (w:World) (h:Sl w v 2 xs.length (xs.flatMap AStep.cells)) (hby:xs.length*16≤140737488355328):
    Calls Tryz.prog 22 #[v] w (GrewOw 244 2 xs.length (xs.flatMap AStep.cells) w):=by
  obtain ⟨i0,hi,hz0,hz1,hz2⟩:=info_parts info_steps;have h':=h;obtain ⟨a,cap,rfl,hn,hl,h0,h⟩:=h;cases a with
  | none=>
    obtain ⟨hn0,rfl⟩:=h0 rfl;obtain rfl:xs=[]:=List.length_eq_zero_iff.1 hn0;clear h h' h0 hl;go_enter Tryz.func22,Tryz.ntmps22
    go_wp2_with fail
    go_ret;exact ⟨_,rfl,World.ownsRow_nil _ _ _ _,Below.refl _ _⟩
  | some ad=>
    have hnews:=Lib.hid h'.news;have hone:oneCells (xs.flatMap AStep.cells):=oneCells_flat (fun x u hu=>by simp only [AStep.cells,List.mem_cons,List.not_mem_nil,or_false] at hu;rcases hu with rfl | rfl<;>rfl) _;clear h h' h0;have Hl:=Lib.hid hl;clear hl;have c3:0+xs.length≤maxLen:=by unfold maxLen;omega
    have c4:=Lib.hid (show (0+xs.length)*16≤140737488355328 by omega);clear hby;go_enter Tryz.func22,Tryz.ntmps22
    go_wp2_with (at_builtin;refine wpList_append_own _ rfl _ _ 22 rfl w.heap.size 244 i0 (.agg #[.int .i64 0,.int .i64 0]) 2 16 Tryz.underlying22 hi hz0 hz1 hz2 rfl (by decide) _ 0 [] rfl (World.ownsRow_nil _ _ _ _) ad _ _ (xs.flatMap AStep.cells) rfl Hl.out hnews.out hone c3 c4.out (Nat.le_refl _) ?_;intro v' w1 hown' hgrow _)
    have hbel:=Below.grown (B:=w.heap.size) (Below.refl _ w) hgrow (Nat.le_refl _) (fun k hk=>absurd (show (none:Option Nat)=some k from hk) (by simp));rw [Nat.zero_add,List.nil_append] at hown';clear hgrow;go_wp2;go_ret;exact ⟨_,rfl,hown',hbel⟩

def GrewTerms (xs:List AStep) (f b d al:Int) (w:World) (e:Ending) (w':World):Prop:=∃ v,e=.returned (.agg #[v,I f,I b,I d,I al])∧Sl w' v 2 xs.length (xs.flatMap AStep.cells)∧Below w.heap.size w w'
theorem terms_any (v:Value) (xs:List AStep) (f b d al:Int) (w:World) (h:Sl w v 2 xs.length (xs.flatMap AStep.cells)) (hby:xs.length*16≤140737488355328):Calls Tryz.prog 9 #[.agg #[v,I f,I b,I d,I al]] w (GrewTerms xs f b d al w):=by
  have hS:=h;obtain ⟨a,cap,rfl,-⟩:=h;obtain ⟨kB,o1,o2⟩:=boxes2 w [.slice a xs.length cap,I f,I b,I d,I al] 24 [.slice none 0 0,I 0,I 0,I 0,I 0] 24;have S:=Lib.hid (steps_own _ xs _ (hS.below kB) hby);go_enter Tryz.func9,Tryz.ntmps9
  go_wp2_with fail
  refine S.out.mono ?_;rintro e w1 ⟨v',rfl,h1,k1⟩;have cO:=o1.below k1;have cA:=cO.s5;clear cO;have zO:=o2.below k1;have zA:=zO.s5;clear zO;have kk:=kB.trans (k1.mono kB.size);have hn:xs.length≤281474976710656:=by omega
  have H1:=Lib.hid (fun u0 u1 u2 u3 u4 u5=>Sl.of_owns (ownsRow_setCell_below (ownsRow_setCell_below (ownsRow_setCell_below (ownsRow_setCell_below (ownsRow_setCell_below (ownsRow_setCell_below h1 (a:=⟨w.heap.size,0,none⟩) (by simp;omega) u0) (a:=⟨w.heap.size+1,0,none⟩) (by simp) u1) (a:=⟨w.heap.size+1,1,none⟩) (by simp) u2) (a:=⟨w.heap.size+1,2,none⟩) (by simp) u3) (a:=⟨w.heap.size+1,3,none⟩) (by simp) u4) (a:=⟨w.heap.size+1,4,none⟩) (by simp) u5) hn);obtain ⟨a',cap',rfl,-⟩:=Sl.of_owns h1 hn;clear h1 o1 o2 kB k1;have r1:=set_same;have r2:=set_off;have r3:=set_blk;go_wp2;exact bodyPost_ret (v:=.agg #[.slice a' xs.length cap',I f,I b,I d,I al]) (by simp [results,Tryz.results9,go_sem, *];try omega) rfl (⟨_,rfl,H1.out _ _ _ _ _ _,below_autor⟩)
end
section
open Go.RowKit
def age1 (bp o:Int):Int:=min (o+o*bp / 10000) 1000000000
def ageN (bp:Int):Nat→Int→Int
  | 0,o=>o
  | n+1,o=>age1 bp (ageN bp n o)
theorem age1_bd {bp o:Int} (h0:0≤o) (p0:0≤bp):0≤age1 bp o∧age1 bp o≤1000000000:=by
  have h2:0≤o*bp / 10000:=Int.ediv_nonneg (Int.mul_nonneg h0 p0) (by omega);unfold age1;omega
theorem ageN_bd {bp o:Int} (h0:0≤o) (h1:o≤1000000000) (p0:0≤bp):∀ n,0≤ageN bp n o∧ageN bp n o≤1000000000
  | 0=>⟨h0,h1⟩
  | n+1=>age1_bd (ageN_bd h0 h1 p0 n).1 p0
/-- where nothing grows, nothing grows later -/
theorem ageN_still {bp o:Int} (h1:o≤1000000000) (n:Nat) (h:o*bp / 10000=0):ageN bp n o=o:=by
  induction n with
  | zero=>rfl
  | succ n ih=>unfold ageN;rw [ih];unfold age1;rw [h];omega
theorem ageN_add (bp:Int) (m n:Nat) (o:Int):ageN bp (n+m) o=ageN bp n (ageN bp m o):=by
  induction n with
  | zero=>simp [ageN]
  | succ n ih=>rw [show n+1+m=(n+m)+1 by omega];unfold ageN;rw [ih]
def aged (n:Nat) (d:ADebt):ADebt:=⟨ageN d.bp n d.owed,d.bp⟩
def ageOk (xs:List ADebt) (m:Int):Bool:=debtE xs==0&&inB m 0 2400
end
section
open Go.RowKit
theorem aged_any (d : ADebt) (n : Nat) (w : World) (hok : okDebt d = true) (hn : n ≤ 2400) :
    Calls Tryz.prog 151 #[.agg #[I d.owed,I d.bp],I n] w (Grew (.agg #[I (ageN d.bp n d.owed),I d.bp]) w):=by
  obtain ⟨q0,q1,q2,q3⟩:=okDebt_true.1 hok;go_enter Tryz.func151,Tryz.ntmps151;go_wp2
  go_loopw [5] (fun i wr=>∃ k:Nat,k≤n∧i=I k∧wr=(w.alloc (.cells #[I (ageN d.bp k d.owed),I d.bp] 46)).alloc (.cells #[I 0,I 0] 46)) (fun i _=>n-(intOf i).toNat)
  case atStart=>exact ⟨0,Nat.zero_le _,rfl,rfl⟩
  case round=>
    obtain ⟨k,hk,rfl,rfl⟩:=hrel;obtain ⟨g0,g1⟩:=ageN_bd q0 q1 q2 (n:=k);have hs:=Lib.hid (show ageN d.bp (k+1) d.owed=age1 d.bp (ageN d.bp k d.owed) from rfl)
    by_cases hlt:k < n
    · generalize ageN d.bp k d.owed=o at *
      have m0:0≤o*d.bp:=Int.mul_nonneg g0 q2;have m1:o*d.bp≤1000000000*10000:=Int.mul_le_mul g1 q3 q2 (by omega);have d0:0≤o*d.bp / 10000:=Int.ediv_nonneg m0 (by omega);have d1:o*d.bp / 10000≤1000000000:=by omega
      by_cases hm:o+o*d.bp / 10000≤1000000000
      · have H:=Lib.hid (show o+o*d.bp / 10000=ageN d.bp (k+1) d.owed by rw [hs.out];unfold age1;omega)
        go_wp2;exact ⟨⟨k+1,by omega,by go_num,by rw [← H.out]⟩,by simp [intOf];omega⟩
      · have H:=Lib.hid (show 1000000000=ageN d.bp (k+1) d.owed by rw [hs.out];unfold age1;omega)
        go_wp2;exact ⟨⟨k+1,by omega,by go_num,by rw [← H.out]⟩,by simp [intOf];omega⟩
    · have hkn:k=n:=by omega
      subst hkn;go_wp2;exact bodyPost_ret (v:=.agg #[I (ageN d.bp k d.owed),I d.bp]) (by simp [results,Tryz.results151,go_sem]) rfl (Grew.intro rfl below_auto)
end
section
open Go.RowKit

theorem infoDebt:(Tryz.prog.info? 46).map (fun i=>(i.zero,i.size,i.bytes))=some (some (.agg #[.int .i64 0,.int .i64 0]),2,16):=by kernel_rfl
theorem cells_appD (l:List ADebt) (a b:Int):l.flatMap ADebt.cells++[I a,I b]=(l++[(⟨a,b⟩:ADebt)]).flatMap ADebt.cells:=by simp [ADebt.cells]
theorem size_alloc1 (w:World) (c:Obj):w.heap.size+1=(w.alloc c).heap.size:=by show _=(w.heap.push c).size;simp
theorem news_at {n:Nat} (w:World) (h:n=w.heap.size) (cs:List Value) (e:TypeId):∀ (j:Nat) (u:Value),cs[j]?=some u→(w.alloc (.cells cs.toArray e)).cell? ((⟨n,0,none⟩:Addr).add j)=some u:=by
  subst h;exact news_lit w cs e

def ageE (xs:List ADebt) (m:Int):Int:=if debtE xs=0 then (if inB m 0 2400 then 0 else 2) else debtE xs
def ageL (xs:List ADebt) (m:Int):List ADebt:=if ageOk xs m then xs.map (aged m.toNat) else []
theorem owns_below {w w':World} {b e sz n:Nat} {v:Value} {cs:List Value} (h:w.ownsRow b e sz v n cs) (hb:Below w.heap.size w w'):w'.ownsRow b e sz v n cs:=by
  obtain ⟨hl,h⟩:=h;refine ⟨hl,h.imp id ?_⟩;rintro ⟨g,cap,cur,hv,hg,hh,r⟩;exact ⟨g,cap,cur,hv,hg,(hb.block g (Array.getElem?_eq_some_iff.1 hh).1).trans hh,r⟩

/-- the writes of the words, behind a first one -/
def agedTo (n:Nat) (xs:List ADebt) (k:Nat):List ADebt:=(xs.take k).map (aged n)
theorem agedTo_succ (n:Nat) {xs:List ADebt} {k:Nat} (hk:k < xs.length):agedTo n xs (k+1)=agedTo n xs k++[aged n (xs.getD k default)]:=by
  unfold agedTo;rw [List.take_add_one,List.map_append,List.getElem?_eq_getElem hk,List.getD_eq_getElem?_getD,List.getElem?_eq_getElem hk];simp
theorem agedTo_len (n:Nat) (xs:List ADebt) (k:Nat):(agedTo n xs k).length≤k:=by simp [agedTo];omega
def ARel (w:World) (n:Nat) (xs:List ADebt) (k:Nat) (v:Value) (wr:World):Prop:=
  wr.ownsRow w.heap.size 46 2 v (agedTo n xs k).length ((agedTo n xs k).flatMap ADebt.cells)∧Below w.heap.size w wr


def mixL (n:Nat) (xs:List ADebt) (k:Nat):List ADebt:=agedTo n xs k++xs.drop k
theorem mixL_len (n:Nat) (xs:List ADebt) (k:Nat) (hk:k≤xs.length):(mixL n xs k).length=xs.length:=by
  unfold mixL;rw [List.length_append,List.length_drop];simp [agedTo];omega
theorem mixL_get (n:Nat) (xs:List ADebt) (k:Nat) (hk:k < xs.length):(mixL n xs k).getD k default=xs.getD k default:=by
  have hl:(agedTo n xs k).length=k:=by simp [agedTo];omega
  unfold mixL;rw [List.getD_eq_getElem?_getD,List.getD_eq_getElem?_getD,List.getElem?_append_right (by omega),hl,List.getElem?_drop];simp
theorem mixL_set (n:Nat) (xs:List ADebt) (k:Nat) (hk:k < xs.length):(mixL n xs k).set k (aged n (xs.getD k default))=mixL n xs (k+1):=by
  have hl:(agedTo n xs k).length=k:=by simp [agedTo];omega
  unfold mixL;rw [agedTo_succ n hk,List.set_append_right _ _ (by omega),hl,Nat.sub_self,List.drop_eq_getElem_cons hk,List.set_cons_zero,List.append_assoc]
  rfl
/-- one cell of a list of debts set -/
theorem set_owed (ys:List ADebt) (k:Nat) (hk:k < ys.length) (o p bp:Int) (h:ys.getD k default=⟨p,bp⟩):(ys.flatMap ADebt.cells).set (k*2) (I o)=(ys.set k ⟨o,bp⟩).flatMap ADebt.cells:=by
  induction ys generalizing k with
  | nil=>simp at hk
  | cons y ys ih=>
    cases k with
    | zero=>simp at h;subst h;simp [ADebt.cells]
    | succ k=>
      have:=ih k (by simpa using hk) (by simpa using h);simp only [List.flatMap_cons,List.set_cons_succ];rw [← this,List.set_append_right _ _ (by simp [ADebt.cells];omega)];have e:(k+1)*2-(ADebt.cells y).length=k*2:=by simp [ADebt.cells];omega
      rw [e]
def MRel (w:World) (g:Nat) (ys:List ADebt) (wr:World):Prop:=Own wr g (ys.flatMap ADebt.cells)∧Below w.heap.size w wr
theorem MRel.drewN {w:World} {g:Nat} {ys:List ADebt} {wr:World} (h:MRel w g ys wr) (q:Nat):MRel w g ys (wr.drewN q):=⟨h.1.drewN q,drewN_below h.2 q⟩
theorem MRel.set {w:World} {g:Nat} {ys:List ADebt} {wr:World} (h:MRel w g ys wr) (hg:w.heap.size≤g) (k:Nat) (hk:k < ys.length) (o p bp:Int) (hy:ys.getD k default=⟨p,bp⟩):MRel w g (ys.set k ⟨o,bp⟩) (wr.setCell ⟨g,k*2,none⟩ (I o)):=by
  refine ⟨?_,h.2.setCell hg _⟩;rw [← set_owed ys k hk o p bp hy];exact h.1.set _ _


def GrewF (xs:List ADebt) (k:Int) (w:World) (e:Ending) (w':World):Prop:=∃ v,e=.returned (T2 v (I k))∧Sl w' v 2 xs.length (xs.flatMap ADebt.cells)∧Below w.heap.size w w'∧FarB w.heap.size v
set_option maxRecDepth 1000000 in
theorem AgeF_any (v : Value) (xs : List ADebt) (m : Int) (w : World) (h : Sl w v 2 xs.length (xs.flatMap ADebt.cells)) :
    Calls Tryz.prog 117 #[v,I m] w (GrewF (ageL xs m) (ageE xs m) w):=by
  have F:=Lib.hid (fun W (hW:Sl W v 2 xs.length (xs.flatMap ADebt.cells))=>fault_any v xs W hW)
  by_cases hE:debtE xs=0
  · rw [hE] at F
    by_cases hm:inB m 0 2400=true
    · have e1 : ageL xs m = mixL m.toNat xs xs.length := by simp [ageL, ageOk, hm, hE, agedTo, mixL]
      have e3:ageE xs m=0:=by simp [ageE,hE,hm]
      rw [e1,e3];obtain ⟨h8,hall⟩:=debtE_zero hE;have Hall:=Lib.hid hall;obtain ⟨m0,m1⟩:=inB_true.1 hm;obtain ⟨n,rfl⟩:=Int.eq_ofNat_of_zero_le m0;have hn2:n≤2400:=by omega
      simp only [Int.toNat_natCast];clear e1 e3 hall hE;obtain ⟨i0,hi,hz0,hz1,hz2⟩:=info_parts infoDebt;go_enter Tryz.func117,Tryz.ntmps117
      go_wp2_with fail
      refine (F.out _ h).mono ?_;rintro e w0 ⟨rfl,k1⟩;have h':=h.below k1;have h'':=h';obtain ⟨a,cap,rfl,hn,hl,h0,h1⟩:=h';clear F;cases a with
      | none=>
        obtain ⟨hn0,rfl⟩:=h0 rfl;obtain rfl:xs=[]:=List.length_eq_zero_iff.1 hn0;clear h h'' h0 hl h1 hn Hall
        go_wp2_with fail
        go_loopw [26] (fun i wr=>i=I 0∧wr=w0) (fun _ _=>0)
        case atStart=>exact ⟨rfl,rfl⟩
        case round=>
          obtain ⟨rfl,rfl⟩:=hrel;go_wp2;go_ret2;exact ⟨_,rfl,Sl.nil _ _,k1,FarB.nil _ _ _⟩
      | some ad =>
        have hnews:=Lib.hid h''.news;have hone:oneCells (xs.flatMap ADebt.cells):=oneCells_flat (fun x u hu=>by simp only [ADebt.cells,List.mem_cons,List.not_mem_nil,or_false] at hu;rcases hu with rfl | rfl<;>rfl) _;clear h h'' h0 h1;have Hl:=Lib.hid hl;clear hl;have c3:0+xs.length≤maxLen:=by unfold maxLen;omega
        have c4:=Lib.hid (show (0+xs.length)*16≤140737488355328 by omega)
        go_wp2_with (at_builtin;refine wpList_append_own _ rfl _ _ 62 rfl w0.heap.size 46 i0 (.agg #[.int .i64 0,.int .i64 0]) 2 16 Tryz.underlying62 hi hz0 hz1 hz2 rfl (by decide) _ 0 [] rfl (World.ownsRow_nil _ _ _ _) ad _ _ (xs.flatMap ADebt.cells) rfl Hl.out hnews.out hone c3 c4.out (Nat.le_refl _) ?_;intro v' w1 hown' hgrow _)
        have hbel:=k1.trans ((Below.grown (B:=w0.heap.size) (Below.refl _ w0) hgrow (Nat.le_refl _) (fun k hk=>absurd (show (none:Option Nat)=some k from hk) (by simp))).mono k1.size);rw [Nat.zero_add,List.nil_append] at hown';have hcase:=owns_cases hown';clear hown' hgrow;have hk1:=k1.size;rcases hcase with ⟨rfl,hn0⟩ | ⟨g,cap',rfl,hg,hcap,hO⟩
        · obtain rfl:xs=[]:=List.length_eq_zero_iff.1 hn0
          clear h8 Hall hn c3 c4 hone hnews Hl hn0 hk1 hi hz0 hz1 hz2;go_wp2
          have hu:∀ W,Sem.run Tryz.prog (Builtin.len_ #[62] 3 #[Value.slice none 0 0]) W=.ok (I 0) W:=by
            intro W;simp only [go_sem,Tryz.underlying62]
            rfl
          rw [hu];clear hu;go_wp2
          go_loopw [26] (fun i wr=>i=I 0∧wr=w1) (fun _ _=>0)
          case atStart=>exact ⟨rfl,rfl⟩
          case round=>
            obtain ⟨rfl,rfl⟩:=hrel;go_wp2;go_ret2;exact ⟨_,rfl,Sl.nil _ _,hbel,FarB.nil _ _ _⟩
        · have hgw:w.heap.size≤g:=by omega
          clear hg;go_wp2
          have hu:∀ W,Sem.run Tryz.prog (Builtin.len_ #[62] 3 #[Value.slice (some { block:=g,off:=0 }) xs.length cap']) W=.ok (I xs.length) W:=by
            intro W;simp only [go_sem,Tryz.underlying62]
          rw [hu];clear hu;go_wp2
          go_loopw [26] (fun i wr=>∃ k:Nat,k≤xs.length∧i=I k∧Hid (MRel w g (mixL n xs k) wr)) (fun i _=>xs.length-(intOf i).toNat)
          case atStart=>exact ⟨0,Nat.zero_le _,rfl,by simpa [mixL,agedTo] using hO,hbel⟩
          case round=>
            obtain ⟨k,hk,rfl,hD⟩:=hrel
            by_cases hlt:k < xs.length
            · have hlen := mixL_len n xs k hk
              have hok:=okAt Hall.out hlt;obtain ⟨q0,q1,q2,q3⟩:=okDebt_true.1 hok;have hget:=mixL_get n xs k hlt;have hset:=Lib.hid (mixL_set n xs k hlt);have hi0:(0:Int)≤(k:Int):=by omega
              have hi1:(k:Int) < (xs.length:Int):=by omega
              generalize xs.getD k default=x at *;have hx:x=⟨x.owed,x.bp⟩:=rfl
              have hstart:Hid (MRel w g ((mixL n xs k).set k ⟨x.owed,x.bp⟩) wr):=by
                have:(mixL n xs k).set k ⟨x.owed,x.bp⟩=mixL n xs k:=by
                  rw [← hget];apply List.ext_getElem (by simp);intro i a1 a2;rw [List.getElem_set]
                  split
                  · subst_vars;simp [List.getD_eq_getElem?_getD,List.getElem?_eq_getElem a2]
                  · rfl
                rw [this];exact hD
              generalize mixL n xs k=ys at *;clear hD;go_wp2
              go_step3
              go_wp2
              go_step3
              go_wp2
              go_loopw [33] (fun i wr=>∃ j:Nat,j≤n∧i=I j∧Hid (MRel w g (ys.set k ⟨ageN x.bp j x.owed,x.bp⟩) wr)) (fun i _=>n-(intOf i).toNat)
              case atStart=>exact ⟨0,Nat.zero_le _,rfl,hstart⟩
              case round=>
                obtain ⟨j,hj,rfl,hI⟩:=hrel;obtain ⟨g0,g1⟩:=ageN_bd q0 q1 q2 (n:=j);obtain ⟨hOw,hbw⟩:=hI.out;have hkl:k < (ys.set k ⟨ageN x.bp j x.owed,x.bp⟩).length:=by simp;omega
                obtain ⟨e0,e1⟩:=elDebt hOw.lt hOw.cell (Below.refl _ _) k hkl
                have hg2:(ys.set k ⟨ageN x.bp j x.owed,x.bp⟩).getD k default=⟨ageN x.bp j x.owed,x.bp⟩:=by
                  rw [List.getD_eq_getElem?_getD,List.getElem?_set_self (by omega)];rfl
                rw [hg2] at e0 e1;simp only [Nat.zero_add] at e0 e1;have hf:=hOw.frozen (k*2);have hs:=Lib.hid (show ageN x.bp (j+1) x.owed=age1 x.bp (ageN x.bp j x.owed) from rfl);have hstill:=Lib.hid (fun hh=>ageN_still (bp:=x.bp) (o:=ageN x.bp j x.owed) g1 (n-j) hh);have hadd:=Lib.hid (show ageN x.bp n x.owed=ageN x.bp (n-j) (ageN x.bp j x.owed) by rw [← ageN_add];congr 1;omega);have hnext:=Lib.hid (fun q o'=>MRel.set (hI.out.drewN q) hgw k hkl o' _ _ hg2);clear hOw hbw;generalize ageN x.bp j x.owed=o at *
                by_cases hlt2:j < n
                · have m0:0≤o*x.bp:=Int.mul_nonneg g0 q2
                  have m1:o*x.bp≤1000000000*10000:=Int.mul_le_mul g1 q3 q2 (by omega);have d0:0≤o*x.bp / 10000:=Int.ediv_nonneg m0 (by omega);have d1:o*x.bp / 10000≤1000000000:=by omega
                  by_cases hz:o*x.bp / 10000=0
                  · have H:∀ q,Hid (MRel w g (mixL n xs (k+1)) (wr.drewN q)):=by
                      intro q;rw [← hset.out];unfold aged;rw [hadd.out,hstill.out hz];exact hI.out.drewN q
                    clear hI hnext hstill hadd hs hset hstart hg2 hkl;go_wp2
                    go_quiet (fail)
                    go_wp2;rw [Exit.noGoto_normal];go_wp2;exact ⟨⟨k+1,by omega,by go_num,H _⟩,by simp [intOf];omega⟩
                  · by_cases hv:o+o*x.bp / 10000≤1000000000
                    · have H:∀ q,Hid (MRel w g (ys.set k ⟨ageN x.bp (j+1) x.owed,x.bp⟩) ((wr.drewN q).setCell ⟨g,k*2,none⟩ (I (o+o*x.bp / 10000)))):=by
                        intro q;have:=hnext.out q (o+o*x.bp / 10000);rw [List.set_set] at this;rw [hs.out,show age1 x.bp o=o+o*x.bp / 10000 by unfold age1;omega];exact this
                      clear hI hnext hstill hadd hs hset hstart hg2 hkl;have hne:(o*x.bp / 10000==0)=false:=by simp [hz]
                      go_wp2
                      go_quiet (fail)
                      go_wp2;exact ⟨⟨j+1,by omega,by go_num,H _⟩,by simp [intOf];omega⟩
                    · have H:∀ q,Hid (MRel w g (ys.set k ⟨ageN x.bp (j+1) x.owed,x.bp⟩) ((wr.drewN q).setCell ⟨g,k*2,none⟩ (I 1000000000))):=by
                        intro q;have:=hnext.out q 1000000000;rw [List.set_set] at this;rw [hs.out,show age1 x.bp o=1000000000 by unfold age1;omega];exact this
                      clear hI hnext hstill hadd hs hset hstart hg2 hkl;have hne:(o*x.bp / 10000==0)=false:=by simp [hz]
                      go_wp2
                      go_quiet (fail)
                      go_wp2;exact ⟨⟨j+1,by omega,by go_num,H _⟩,by simp [intOf];omega⟩
                · have hjn:j=n:=by omega
                  have H:Hid (MRel w g (mixL n xs (k+1)) wr):=by
                    rw [← hset.out];unfold aged;rw [hadd.out,hjn,Nat.sub_self];exact hI
                  clear hI hnext hstill hadd hs hset hstart hg2 hkl;have hjn':(n:Int)≤(j:Int):=by omega
                  clear hjn;go_wp2;rw [Exit.noGoto_normal];go_wp2;exact ⟨⟨k+1,by omega,by go_num,H⟩,by simp [intOf];omega⟩
            · have hkm:k=xs.length:=by omega
              have hS:=hD.out.1.sl (n:=xs.length) (cap:=cap') (sz:=2) hn.1 hcap (by rw [length_flat _ 2 ADebt.cells_len,mixL_len _ _ _ hk]);have hb':=hD.out.2;rw [hkm] at hS;have HL:=Lib.hid (mixL_len n xs xs.length (Nat.le_refl _));clear hkm hD;go_wp2;go_ret2;exact ⟨_,rfl,by rw [HL.out];exact hS,hb',FarB.lit hgw⟩
    · have e1:ageL xs m=[]:=by simp [ageL,ageOk,hm]
      have e3:ageE xs m=2:=by simp [ageE,hE,hm]
      rw [e1,e3]
      have hcase:m < 0∨¬ m < 0∧2400 < m:=by
        rw [inB_true] at hm;omega
      clear e1 e3 hm hE;rcases hcase with c1 | ⟨c1,c2⟩
      · go_enter Tryz.func117,Tryz.ntmps117
        go_wp2_with fail
        refine (F.out _ h).mono ?_;rintro e w1 ⟨rfl,k1⟩;go_wp2;go_ret2;exact ⟨_,rfl,Sl.nil _ _,k1,FarB.nil _ _ _⟩
      · go_enter Tryz.func117,Tryz.ntmps117
        go_wp2_with fail
        refine (F.out _ h).mono ?_;rintro e w1 ⟨rfl,k1⟩;go_wp2;go_ret2;exact ⟨_,rfl,Sl.nil _ _,k1,FarB.nil _ _ _⟩
  · have e1:ageL xs m=[]:=by simp [ageL,ageOk,hE]
    have e3:ageE xs m=debtE xs:=by simp [ageE,hE]
    have hb:(debtE xs != 0)=true:=by simp [hE]
    rw [e1,e3];clear e1 e3 hE;go_enter Tryz.func117,Tryz.ntmps117
    go_wp2_with fail
    refine (F.out _ h).mono ?_;rintro e w1 ⟨rfl,k1⟩;go_wp2;go_ret2;exact ⟨_,rfl,Sl.nil _ _,k1,FarB.nil _ _ _⟩
theorem AgedF_any (v : Value) (xs : List ADebt) (m : Int) (w : World) (h : Sl w v 2 xs.length (xs.flatMap ADebt.cells)) :
    Calls Tryz.prog 113 #[v,I m] w (GrewF (ageL xs m) (ageE xs m) w):=by
  have F:=Lib.hid (fun W (hW:Sl W v 2 xs.length (xs.flatMap ADebt.cells))=>DebtFault_any v xs W hW)
  by_cases hE:debtE xs=0
  · rw [hE] at F
    by_cases hm:inB m 0 2400=true
    · have e1:ageL xs m=agedTo m.toNat xs xs.length:=by simp [ageL,ageOk,hm,hE,agedTo]
      have e3:ageE xs m=0:=by simp [ageE,hE,hm]
      rw [e1,e3];obtain ⟨h8,hall⟩:=debtE_zero hE;have Hall:=Lib.hid hall;obtain ⟨m0,m1⟩:=inB_true.1 hm;obtain ⟨n,rfl⟩:=Int.eq_ofNat_of_zero_le m0;have hn2:n≤2400:=by omega
      simp only [Int.toNat_natCast];clear e1 e3 hall hE;obtain ⟨i0,hi,hz0,hz1,hz2⟩:=info_parts infoDebt;go_enter Tryz.func113,Tryz.ntmps113
      go_wp2_with fail
      refine (F.out _ h).mono ?_;rintro e w1 ⟨rfl,rfl⟩;obtain ⟨a,cap,rfl,hn,hl,h0,h1⟩:=h;clear hl h0
      go_wp2_with (go_at_call 57;refine (In_any _ _ _ _).mono ?_;rintro e w' ⟨rfl,rfl⟩)
      go_loopw [7,8] (fun v i wr=>∃ k:Nat,k≤xs.length∧i=I k∧Hid (ARel w n xs k v wr)) (fun _ i _=>xs.length-(intOf i).toNat)
      case atStart=>exact ⟨0,Nat.zero_le _,rfl,World.ownsRow_nil _ _ _ _,Below.refl _ _⟩
      case round=>
        obtain ⟨k,hk,rfl,hD⟩:=hrel
        by_cases hlt:k < xs.length
        · obtain ⟨hown,hbw⟩:=hD.out
          have hsz:=hbw.size;have hdl:=agedTo_len n xs k;obtain ⟨b,off,rfl,hb,hc⟩:=h1.resolve_left (by omega);obtain ⟨e0,e1⟩:=elDebt hb hc hbw k hlt;have hok:=okAt Hall.out hlt;have hs:=Lib.hid (agedTo_succ n hlt);have hi0:(0:Int)≤(k:Int):=by omega
          have hi1:(k:Int) < (xs.length:Int):=by omega
          clear hc h1 F;generalize xs.getD k default=x at *
          go_wp2_with fail
          refine (aged_any x n _ hok hn2).mono ?_;rintro e w2 ⟨rfl,k2⟩;have hown:=owns_below hown k2;have hbw:=hbw.trans (k2.mono hsz);have hsz:=hbw.size;have hownB:=hown.alloc (.cells #[I (ageN x.bp n x.owed),I x.bp] 46);have hbwB:=hbw.alloc hsz (.cells #[I (ageN x.bp n x.owed),I x.bp] 46);have hszB:=hbwB.size
          go_wp2_with (skip;(at_builtin;refine wpList_append_own _ rfl _ _ 62 rfl w.heap.size 46 i0 (.agg #[.int .i64 0,.int .i64 0]) 2 16 Tryz.underlying62 hi hz0 hz1 hz2 rfl (by decide) _ _ _ rfl (hownB.alloc _) ⟨(w2.heap.size+1),0,none⟩ 1 1 [I (ageN x.bp n x.owed),I x.bp] rfl rfl (news_at _ (size_alloc1 _ _) [I (ageN x.bp n x.owed),I x.bp] _) (oneCells_lit rfl) (by unfold maxLen;omega) (by omega) (by simp;omega) ?_;intro v' w1 hown' hgrow _))
          have hbel:=grown_below (hbwB.alloc hszB _) (hownB.alloc _) (Nat.le_refl _) hgrow
          have hD':Hid (ARel w n xs (k+1) v' w1):=by
            refine ⟨?_,hbel⟩;rw [hs.out,List.length_append,← cells_appD];exact hown'
          clear hown hown' hgrow hbel hbw hD;go_wp2;exact ⟨⟨k+1,by omega,by go_num,hD'⟩,by simp [intOf];omega⟩
        · have hkm:k=xs.length:=by omega
          have hFF:=FarB.of_owns hD.out.1;have hS:=Sl.of_owns hD.out.1 (by have:=agedTo_len n xs k;omega);have hb':=hD.out.2;rw [hkm] at hS;clear hkm hD F h1;go_wp2;go_ret2;exact ⟨_,rfl,hS,hb',hFF⟩
    · have e1:ageL xs m=[]:=by simp [ageL,ageOk,hm]
      have e3:ageE xs m=2:=by simp [ageE,hE,hm]
      rw [e1,e3];simp only [Bool.not_eq_true] at hm;clear e1 e3;go_enter Tryz.func113,Tryz.ntmps113
      go_wp2_with fail
      refine (F.out _ h).mono ?_;rintro e w1 ⟨rfl,rfl⟩
      go_wp2_with (go_at_call 57;refine (In_any _ _ _ _).mono ?_;rintro e w' ⟨rfl,rfl⟩)
      go_ret2;exact ⟨_,rfl,Sl.nil _ _,Below.refl _ _,FarB.nil _ _ _⟩
  · have e1:ageL xs m=[]:=by simp [ageL,ageOk,hE]
    have e3:ageE xs m=debtE xs:=by simp [ageE,hE]
    have hb:(debtE xs != 0)=true:=by simp [hE]
    rw [e1,e3];clear e1 e3 hE;go_enter Tryz.func113,Tryz.ntmps113
    go_wp2_with fail
    refine (F.out _ h).mono ?_;rintro e w1 ⟨rfl,rfl⟩;go_wp2;go_ret2;exact ⟨_,rfl,Sl.nil _ _,Below.refl _ _,FarB.nil _ _ _⟩
end
end Go.Proofs.YtdjgcenjonegjaaGreat
