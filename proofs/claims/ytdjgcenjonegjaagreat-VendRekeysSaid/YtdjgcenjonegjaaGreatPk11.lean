/- debt.Recover and its reference · a range over a function that stores into one block of its own (Bf) between two rounds; a body that goes on, or breaks off · what units cost: the reference · what units cost: line by line as the program counts, overlap by overlap as the reference does: plain law · tariff.pieces: the iterator (under way) -/
import Derived.Test.YtdjgcenjonegjaaGreatPk10
import Derived.Test.YtdjgcenjonegjaaGreatPk08
import Derived.RangeFuncFrom
import Derived.RangeFuncBound
import Derived.Test.YtdjgcenjonegjaaGreatPk07
import Derived.Test.YtdjgcenjonegjaaGreatPk02
import Derived.RangeFuncNested
import Derived.RangeFuncCalls
import Derived.RangeFuncLeaves
import Derived.Shelf.Abstract
import Derived.Shelf.RegionOpen
import Derived.WalkKit
import Derived.OwnWalkIn
import Derived.TacticsInMore
import Derived.LoopNIn
import Derived.LoopIn
namespace Go.Proofs.YtdjgcenjonegjaaGreat
set_option linter.unusedSimpArgs false
set_option linter.unusedVariables false
open Go.RowKit
set_option maxRecDepth 20000
/-- the call returns a slice that reads as cs, in new memory, and two numbers -/
def GrewSl3 (sz n:Nat) (cs:List Value) (p k:Int) (w:World) (e:Ending) (w':World):Prop:=∃ v,e=.returned (T3 v (I p) (I k))∧Sl w' v sz n cs∧Below w.heap.size w w'∧FarB w.heap.size v

def leftOf (s ahead:Int) (d:ADebt):Int:=min d.owed (ahead+d.owed-s)
def outTo (s:Int) (xs:List ADebt) (k:Nat):List ADebt:=(List.range k).filterMap fun i=>if 0 < leftOf s (sumTo xs i) (xs.getD i default) then some ⟨leftOf s (sumTo xs i) (xs.getD i default),(xs.getD i default).bp⟩ else none
theorem outTo_len (s:Int) (xs:List ADebt) (k:Nat):(outTo s xs k).length≤k:=by
  unfold outTo;exact Nat.le_trans (List.length_filterMap_le _ _) (by simp)
theorem outTo_no {s:Int} {xs:List ADebt} {k:Nat} (h:¬ 0 < leftOf s (sumTo xs k) (xs.getD k default)):outTo s xs (k+1)=outTo s xs k:=by
  unfold outTo;rw [List.range_succ,List.filterMap_append];simp only [List.filterMap_cons,List.filterMap_nil,if_neg h,List.append_nil]
theorem outTo_yes {s:Int} {xs:List ADebt} {k:Nat} (h:0 < leftOf s (sumTo xs k) (xs.getD k default)):outTo s xs (k+1)=outTo s xs k++[⟨leftOf s (sumTo xs k) (xs.getD k default),(xs.getD k default).bp⟩]:=by
  unfold outTo;rw [List.range_succ,List.filterMap_append];simp only [List.filterMap_cons,List.filterMap_nil,if_pos h]

def recOk (xs:List ADebt) (t bp:Int):Bool:=debtE xs==0&&shareOk t bp
def recE (xs:List ADebt) (t bp:Int):Int:=if debtE xs=0 then (if shareOk t bp then 0 else 2) else debtE xs
def recL (xs:List ADebt) (t bp:Int):List ADebt:=if recOk xs t bp then outTo (shareA t bp) xs xs.length else []
def recP (xs:List ADebt) (t bp:Int):Int:=if recOk xs t bp then min (debtSum xs) (shareA t bp) else 0

/-- the relation of both loops -/
def RcvRel (w:World) (s:Int) (xs:List ADebt) (k:Nat) (v:Value) (wr:World):Prop:=
  wr.ownsRow w.heap.size 46 2 v (outTo s xs k).length ((outTo s xs k).flatMap ADebt.cells)∧Below w.heap.size w wr

theorem retT3 {v:Value} {a b k:Int} (h:a=b):Ending.returned (T3 v (I a) (I k))=.returned (T3 v (I b) (I k)):=by rw [h]
theorem RcvRel.keep {w:World} {s:Int} {xs:List ADebt} {k:Nat} {v:Value} {wr:World} (hD:RcvRel w s xs k v wr) (h:outTo s xs (k+1)=outTo s xs k) (c:Obj):Hid (RcvRel w s xs (k+1) v (wr.alloc c)):=
  ⟨by rw [h];exact hD.1.alloc _,hD.2.alloc hD.2.size _⟩

set_option maxHeartbeats 2000000 in
theorem Recover_ok (v : Value) (xs : List ADebt) (t bp : Int) (w : World) (h : Sl w v 2 xs.length (xs.flatMap ADebt.cells)) (hok : recOk xs t bp = true) :
    Calls Tryz.prog 118 #[v,I t,I bp] w (GrewSl3 2 (outTo (shareA t bp) xs xs.length).length ((outTo (shareA t bp) xs xs.length).flatMap ADebt.cells) (min (debtSum xs) (shareA t bp)) 0 w):=by
  obtain ⟨i0,hi,hz0,hz1,hz2⟩:=info_parts infoDebt;simp only [recOk,Bool.and_eq_true,beq_iff_eq] at hok;obtain ⟨hE,hs⟩:=hok;obtain ⟨h8,hall⟩:=debtE_zero hE;have F:=Lib.hid (fun W (hW:Sl W v 2 xs.length (xs.flatMap ADebt.cells))=>fault_any v xs W hW);rw [hE] at F;have hs':=hs;simp only [shareOk,Bool.and_eq_true,inB_true] at hs';obtain ⟨⟨t0,t1⟩,p0,p1⟩:=hs';have hSA:shareA t bp=partA t bp:=by simp [shareA,hs]
  have hPE:partE t bp=0:=by
    have:partOk t bp=true:=by simp [partOk,inB_true];omega
    simp [partE,this]
  have P:=Lib.hid (fun W=>part_any t bp W);rw [hPE] at P;have hpb:=partA_bd t bp;have hpl:=partA_le t bp t0;rw [hSA];have Hall:=Lib.hid hall;clear hSA hPE hs hE hall;generalize partA t bp=s at *;go_enter Tryz.func118,Tryz.ntmps118
  go_wp2_with fail
  refine (F.out _ h).mono ?_;rintro e w0 ⟨rfl,k1⟩;have h1:=h.below k1;obtain ⟨a,cap,rfl,hn,hl,h0,h1⟩:=h1;clear h hl h0
  go_wp2_with (first | (go_at_call 119;refine (P.out _).mono ?_;rintro e w' ⟨rfl,rfl⟩))
  go_loopw [12,13,36] (fun p v i wr=>∃ k:Nat,k≤xs.length∧i=I k∧p=I (min (sumTo xs k) s)∧Hid (RcvRel w0 s xs k v wr)) (fun _ _ i _=>xs.length-(intOf i).toNat)
  case atStart=>exact ⟨0,Nat.zero_le _,rfl,eI (by simp [sumTo];omega),World.ownsRow_nil _ _ _ _,Below.refl _ _⟩
  case round=>
    obtain ⟨k,hk,rfl,rfl,hD⟩:=hrel;obtain ⟨s0,s1⟩:=sumTo_bd Hall.out k hk
    by_cases hlt:k < xs.length
    · obtain ⟨hown,hbw⟩:=hD.out
      have hsz:=hbw.size;have hdl:=outTo_len s xs k;obtain ⟨b,off,rfl,hb,hc⟩:=h1.resolve_left (by omega);obtain ⟨e0,e1⟩:=elDebt hb hc hbw k hlt;obtain ⟨q0,q1,q2,q3⟩:=okDebt_true.1 (okAt Hall.out hlt);have hs:=Lib.hid (sumTo_succ hlt);have hy:=Lib.hid (fun hh=>outTo_yes (s:=s) (xs:=xs) (k:=k) hh);have hno:=Lib.hid (fun hh=>outTo_no (s:=s) (xs:=xs) (k:=k) hh);have hi0:(0:Int)≤(k:Int):=by omega
      have hi1:(k:Int) < (xs.length:Int):=by omega
      clear hc h1;generalize xs.getD k default=x at *;have m0:0≤min (sumTo xs k) s:=by omega
      have m1:min (sumTo xs k) s≤s:=by omega
      have A1:=Lib.hid (show x.owed≤s-min (sumTo xs k) s→outTo s xs (k+1)=outTo s xs k from fun h=>hno.out (by unfold leftOf;omega));have A2:=Lib.hid (show x.owed≤s-min (sumTo xs k) s→min (sumTo xs k) s+x.owed=min (sumTo xs (k+1)) s from fun h=>by rw [hs.out];omega)
      have B1:=Lib.hid (show s-min (sumTo xs k) s < x.owed→outTo s xs (k+1)=outTo s xs k++[⟨x.owed-(s-min (sumTo xs k) s),x.bp⟩] from fun h=>by
        have e:leftOf s (sumTo xs k) x=x.owed-(s-min (sumTo xs k) s):=by unfold leftOf;omega
        rw [hy.out (by rw [e];omega),e])
      have B2:=Lib.hid (show s-min (sumTo xs k) s < x.owed→min (sumTo xs k) s+(s-min (sumTo xs k) s)=min (sumTo xs (k+1)) s from fun h=>by rw [hs.out];omega);clear hs hy hno F P s0 s1;generalize min (sumTo xs k) s=q at *
      by_cases hv:s-q < x.owed
      · have H1:=Lib.hid (B1.out hv)
        have H2:=Lib.hid (B2.out hv);clear A1 A2 B1 B2;have hownB:=hown.alloc (.cells #[I (x.owed-(s-q)),I x.bp] 46);have hbwB:=hbw.alloc hsz (.cells #[I (x.owed-(s-q)),I x.bp] 46);have hszB:=hbwB.size;have hlt0:0 < x.owed-(s-q):=by omega
        go_wp2_with (skip;(at_builtin;refine wpList_append_own _ rfl _ _ 62 rfl w0.heap.size 46 i0 (.agg #[.int .i64 0,.int .i64 0]) 2 16 Tryz.underlying62 hi hz0 hz1 hz2 rfl (by decide) _ _ _ rfl (hownB.alloc _) ⟨(wr.heap.size+1),0,none⟩ 1 1 [I (x.owed-(s-q)),I x.bp] rfl rfl (news_at _ (size_alloc1 _ _) [I (x.owed-(s-q)),I x.bp] _) (oneCells_lit rfl) (by unfold maxLen;omega) (by omega) (by simp;omega) ?_;intro v' w1 hown' hgrow _))
        have hbel:=grown_below (hbwB.alloc hszB _) (hownB.alloc _) (Nat.le_refl _) hgrow
        have hD':Hid (RcvRel w0 s xs (k+1) v' w1):=by
          refine ⟨?_,hbel⟩;rw [H1.out,List.length_append,← cells_appD];exact hown'
        clear hown hown' hgrow hbel hbw hD hownB hbwB;go_wp2;exact ⟨⟨k+1,by omega,by go_num,eI (by rw [H2.out]),hD'⟩,by simp [intOf];omega⟩
      · have hv':x.owed≤s-q:=by omega
        have H1:=Lib.hid (A1.out hv');have H2:=Lib.hid (A2.out hv');clear A1 A2 B1 B2;have hD':=fun c=>RcvRel.keep hD.out H1.out c;clear hown hbw hD;go_wp2;exact ⟨⟨k+1,by omega,by go_num,eI (by rw [H2.out]),hD' _⟩,by simp [intOf];omega⟩
    · have hkm:k=xs.length:=by omega
      have hS:=Sl.of_owns hD.out.1 (by have:=outTo_len s xs k;omega);have hb':=k1.trans (hD.out.2.mono k1.size);have hF:FarB w.heap.size _:=fun a n c e=>Nat.le_trans k1.size (FarB.of_owns hD.out.1 a n c e);have hP:=Lib.hid (show min (sumTo xs k) s=min (debtSum xs) s by rw [hkm,sumTo_all]);rw [hkm] at hS;clear hkm hD F P;go_wp2;go_ret3;exact ⟨_,retT3 hP.out,hS,hb',hF⟩

theorem Recover_any (v : Value) (xs : List ADebt) (t bp : Int) (w : World) (h : Sl w v 2 xs.length (xs.flatMap ADebt.cells)) :
    Calls Tryz.prog 118 #[v,I t,I bp] w (GrewSl3 2 (recL xs t bp).length ((recL xs t bp).flatMap ADebt.cells) (recP xs t bp) (recE xs t bp) w):=by
  by_cases hok:recOk xs t bp=true
  · have hok':=hok
    simp only [recOk,Bool.and_eq_true,beq_iff_eq] at hok';have e1:recL xs t bp=outTo (shareA t bp) xs xs.length:=by simp [recL,hok]
    have e2:recP xs t bp=min (debtSum xs) (shareA t bp):=by simp [recP,hok]
    have e3:recE xs t bp=0:=by simp [recE,hok'.1,hok'.2]
    rw [e1,e2,e3];exact Recover_ok v xs t bp w h hok
  · have e1 : recL xs t bp = [] := by simp [recL, hok]
    have e2:recP xs t bp=0:=by simp [recP,hok]
    rw [e1,e2];have F:=Lib.hid (fun W (hW:Sl W v 2 xs.length (xs.flatMap ADebt.cells))=>fault_any v xs W hW)
    by_cases hE:debtE xs=0
    · have hs:¬ shareOk t bp=true:=by
        intro hs;exact hok (by simp [recOk,hE,hs])
      have e3:recE xs t bp=2:=by simp [recE,hE,hs]
      rw [e3];rw [hE] at F
      have hcase:(¬ (0≤t∧t≤1000000000000∧0≤bp∧bp≤10000))∨(100000000 < t∧t≤1000000000000∧0≤bp∧bp≤10000):=by
        simp only [shareOk,Bool.and_eq_true,inB_true] at hs;omega
      clear e1 e2 e3 hs hok hE;rcases hcase with hc | ⟨c1,c2,c3,c4⟩
      · have hPE:partE t bp=2:=by
          have:partOk t bp=false:=by
            rw [← Bool.not_eq_true];simp only [partOk,Bool.and_eq_true,inB_true];omega
          simp [partE,this]
        have P:=Lib.hid (fun W=>part_any t bp W);rw [hPE] at P;clear hPE hc;go_enter Tryz.func118,Tryz.ntmps118
        go_wp2_with fail
        refine (F.out _ h).mono ?_;rintro e w1 ⟨rfl,k1⟩
        go_wp2_with (first | (go_at_call 119;refine (P.out _).mono ?_;rintro e w' ⟨rfl,rfl⟩))
        go_ret3;exact ⟨_,rfl,Sl.nil _ _,k1,FarB.nil _ _ _⟩
      · have hPE:partE t bp=0:=by
          have:partOk t bp=true:=by simp only [partOk,Bool.and_eq_true,inB_true];omega
          simp [partE,this]
        have P:=Lib.hid (fun W=>part_any t bp W);rw [hPE] at P;clear hPE;go_enter Tryz.func118,Tryz.ntmps118
        go_wp2_with fail
        refine (F.out _ h).mono ?_;rintro e w1 ⟨rfl,k1⟩
        go_wp2_with (first | (go_at_call 119;refine (P.out _).mono ?_;rintro e w' ⟨rfl,rfl⟩))
        go_ret3;exact ⟨_,rfl,Sl.nil _ _,k1,FarB.nil _ _ _⟩
    · have e3:recE xs t bp=debtE xs:=by simp [recE,hE]
      have hb:(debtE xs != 0)=true:=by simp [hE]
      rw [e3];clear e1 e2 e3 hok hE;go_enter Tryz.func118,Tryz.ntmps118
      go_wp2_with fail
      refine (F.out _ h).mono ?_;rintro e w1 ⟨rfl,k1⟩;go_wp2;go_ret3;exact ⟨_,rfl,Sl.nil _ _,k1,FarB.nil _ _ _⟩
end Go.Proofs.YtdjgcenjonegjaaGreat
namespace Go.Proofs.YtdjgcenjonegjaaGreat
set_option linter.unusedSimpArgs false
set_option linter.unusedVariables false
open Go Go.RowKit
set_option maxRecDepth 20000

/-- W' is W with whatever more, and with no block turned but Bf and, from B on, those that are no cells -/
def Turned (B Bf:Nat) {β:Type} (J:β→World→Prop):Prop:=
  ∀ s W W' row,J s W→W.grownBy W' row→(∀ r,row=some r→r=Bf∨B≤r∧∃ o,W.heap[r]?=some o∧o.isCells=false)→J s W'
def SeqStore {α : Type} (F : Fence) (n : Nat) (P : Program) (g : Nat) (lb : Array Value) (encs : α → Array Value) (Kp : World → World → Prop) (Bf : Nat) (S Sp : List α → Prop) (w : World) : Prop :=
  ∀ (l:Nat) (J Jx:List α→World→Prop) (W:World),Below w.heap.size w W→Turned W.heap.size Bf J→Turned W.heap.size Bf Jx →
    (∀ pre x W1,J pre W1→Sp (pre++[x])→YieldAt F (n-1) P l (encs x) W1 fun e W'=>
      (e=.returned (.bool true)∧J (pre++[x]) W'∧Kp W1 W')∨(e=.returned (.bool false)∧Jx (pre++[x]) W')) →
    J [] W →
    CallsIn F n P g (#[.func (.yield l) #[] #[]]++lb) W fun e W'=>(∃ v,e=.returned v)∧((∃ xs,S xs∧J xs W')∨(∃ pre,Sp pre∧Jx pre W'))
/-- how a round's body may be left -/
def roundOut {α:Type} (Kp:World→World→Prop) (I:List α→World→Prop) (Ix:Nat→List α→World→Prop) (xs:List α) (W:World):Exit→Act→World→Prop
  | .normal,_,W'=>KeepsOthers W W'∧Kp W W'∧I xs W'
  | .exit id,_,W'=>KeepsOthers W W'∧Ix id xs W'
  | .ret,_,_=>False
  | .goto _,_,_=>False
  | .panic _,_,_=>False
  | .outgrown,_,_=>False

theorem grown_put (W:World) (l:Nat) (o:Obj):W.grownBy (W.putObj l o) (some l):=grownBy_putObj' W l o

section
variable {F:Fence} {n:Nat} {P:Program}
theorem range_store {α:Type} {g:Operand} {ps:Array Tmp} {assign body:Code} {Q:Exit→Act→World→Prop} {a:Act} {w:World} (hro:F.round=none) (h1:1≤n)
    {gf:Nat} {lb:Array Value} (hg:a.eval g=.func (.func gf) #[] lb) (hFg:F.fn gf) (eg:∀ args w,(callFunc gf args).run P w=.ok (.enter gf args) w)
    {encs:α→Array Value} {Kp:World→World→Prop} {Bf:Nat} {S Sp:List α→Prop} (hBf:Bf < w.heap.size) (hseq:SeqStore F (n-1) P gf lb encs Kp Bf S Sp w)
    (hKt:∀ {A B C:World},Kp A B→Kp B C→Kp A C) (hKb:∀ (W:World) (l:Nat) (o':Obj),w.heap.size≤l→(∃ o:Obj,W.heap[l]?=some o∧o.isCells=false)→Kp W (W.putObj l o')) (hps:∀ x,(encs x).size=ps.size)
    (I:List α→World→Prop) (Ix:Nat→List α→World→Prop) (hI:Turned w.heap.size Bf I) (hIx:∀ c,Turned w.heap.size Bf (Ix c)) (h0:I [] w) (a₁:α→Act)
    (hassign:∀ (l:Nat) (x:α) (W:World) (K:Act→World→Prop),K (a₁ x) W →
      assign.wpIn (F.inRound l) (n-1-1) P (Exit.then K (fun _ _ _=>False)) { tmps:=(ps.zip (encs x)).foldl (fun t (p,v)=>t.setIfInBounds p v) a.tmps,defers:=[] } W)
    (hbody:∀ (l:Nat) (pre:List α) (x:α) (W:World),I pre W→Sp (pre++[x])→body.wpIn (F.inRound l) (n-1-1) P (roundOut Kp I Ix (pre++[x]) W) (a₁ x) W)
    (hdone:∀ (D:Nat) (xs:List α) (W:World),w.heap.size≤D→S xs→I xs W→W.heap[D]?=some (.deferred (some []))→Q .normal { a with defers:={ target:=.collected D,args:=#[] }::a.defers } W)
    (hstop:∀ (D:Nat) (c:Nat) (pre:List α) (W:World),w.heap.size≤D→Sp pre→Ix c pre W→W.heap[D]?=some (.deferred (some []))→(Code.exit c).wpIn F n P Q { a with defers:={ target:=.collected D,args:=#[] }::a.defers } W):
    (Code.rangeFunc g ps assign body).wpIn F n P Q a w:=by
  refine wpIn_rangeFunc fun fn hfn=>?_
  rw [hro]
  -- the record, by its state and what is pending
  let R:LoopState→Option Code→Loop:=fun st pe=>{ state:=st,pending:=pe,fn,tmps:=a.tmps,params:=ps,assign,body,defers:=w.heap.size }
  have hsz0:(w.alloc (.deferred (some []))).heap.size=w.heap.size+1:=World.size_alloc w _
  have hnewD:((w.alloc (.deferred (some []))).alloc (.loop (R .ready none))).heap[w.heap.size]?=some (.deferred (some [])):=
    (Below.heap_alloc _ _ _ (by rw [hsz0];exact Nat.lt_succ_self _)).trans (World.alloc_heap_new w _)
  have hnewL:((w.alloc (.deferred (some []))).alloc (.loop (R .ready none))).heap[w.heap.size+1]?=some (.loop (R .ready none)):=by
    have:=World.alloc_heap_new (w.alloc (.deferred (some []))) (.loop (R .ready none))
    rwa [hsz0] at this
  have hsz1:((w.alloc (.deferred (some []))).alloc (.loop (R .ready none))).heap.size=w.heap.size+2:=by rw [World.size_alloc,hsz0]
  have hbel:Below w.heap.size w ((w.alloc (.deferred (some []))).alloc (.loop (R .ready none))):=((Below.refl _ w).alloc (Nat.le_refl _) _).alloc (by rw [hsz0];exact Nat.le_succ _) _
  have hI1:I [] ((w.alloc (.deferred (some []))).alloc (.loop (R .ready none))):=
    hI _ _ _ none (hI _ _ _ none h0 (World.grownBy_alloc w _ none) (fun r e=>by cases e)) (World.grownBy_alloc _ _ none) (fun r e=>by cases e)
  refine ⟨w.heap.size+1,[{ target:=.collected w.heap.size,args:=#[] }],((w.alloc (.deferred (some []))).alloc (.loop (R .ready none))),{ target:=.fn (.func gf) lb,args:=#[.func (.yield (w.heap.size+1)) #[] #[]] },((w.alloc (.deferred (some []))).alloc (.loop (R .ready none))),gf,#[.func (.yield (w.heap.size+1)) #[] #[]]++lb,((w.alloc (.deferred (some []))).alloc (.loop (R .ready none))),
    run_enterLoop_outer _ _ _ _ _,(by simp only [resolve,hg];simp [go_sem]),(fun f' hf'=>by simp [Target.leads] at hf';subst hf';exact hFg),(by simp [invoke,go_sem,eg]),fun _=>h1,?_⟩
  have keep:∀ {A B:World} {row:Option Nat},A.grownBy B row→(∀ r,row=some r→r=Bf∨w.heap.size+2≤r∧∃ o,A.heap[r]?=some o∧o.isCells=false)→∀ {k:Nat} {o:Obj},w.heap.size≤k→k < w.heap.size+2→A.heap[k]?=some o→B.heap[k]?=some o:=by
    intro A B row hgr hr k o hk0 hk1 hk;rw [hgr.block k (Array.getElem?_eq_some_iff.1 hk).1 (fun e=>by rcases hr k e.symm with h | ⟨h,_⟩<;>omega)];exact hk
  have wide:∀ {A:World} {row:Option Nat},(∀ r,row=some r→r=Bf∨w.heap.size+2≤r∧∃ o,A.heap[r]?=some o∧o.isCells=false)→∀ r,row=some r→r=Bf∨w.heap.size≤r∧∃ o,A.heap[r]?=some o∧o.isCells=false:=fun h r e=>(h r e).imp id fun h=>⟨by omega,h.2⟩
  refine (hseq (w.heap.size+1) (fun pre W=>I pre W∧W.heap[w.heap.size+1]?=some (.loop (R .ready none))∧W.heap[w.heap.size]?=some (.deferred (some [])))
    (fun pre W=>∃ c,Ix c pre W∧W.heap[w.heap.size+1]?=some (.loop (R .done (some (.exit c))))∧W.heap[w.heap.size]?=some (.deferred (some [])))
    ((w.alloc (.deferred (some []))).alloc (.loop (R .ready none))) hbel ?_ ?_ ?_ ⟨hI1,hnewL,hnewD⟩).mono ?_
  · intro s A B row hs hgr hr
    rw [hsz1] at hr;exact ⟨hI _ _ _ row hs.1 hgr (wide hr),keep hgr hr (by omega) (by omega) hs.2.1,keep hgr hr (by omega) (by omega) hs.2.2⟩
  · rintro s A B row ⟨c,hc,hl,hd⟩ hgr hr
    rw [hsz1] at hr;exact ⟨c,hIx c _ _ _ row hc hgr (wide hr),keep hgr hr (by omega) (by omega) hl,keep hgr hr (by omega) (by omega) hd⟩
  · rintro pre x W ⟨hi,hl,hd⟩ hlen
    have hlt:w.heap.size+1 < W.heap.size:=(Array.getElem?_eq_some_iff.1 hl).1;refine ⟨fn,_,assign,body,run_yield hl (hps x),roundIn_of_wpIn hfn (hassign _ x W _ ⟨_,run_beginRound hl rfl,?_⟩)⟩;have hi2:I pre (W.putObj (w.heap.size+1) (.loop (R .busy none))):=hI _ _ _ _ hi (grown_put W _ _) (fun r e=>by cases e;exact .inr ⟨by omega,_,hl,rfl⟩);have hl2:(W.putObj (w.heap.size+1) (.loop (R .busy none))).heap[w.heap.size+1]?=some (.loop (R .busy none)):=World.putObj_heap_same hlt;have hd2:(W.putObj (w.heap.size+1) (.loop (R .busy none))).heap[w.heap.size]?=some (.deferred (some [])):=(World.putObj_heap_other (by omega)).trans hd;have hk2:Kp W (W.putObj (w.heap.size+1) (.loop (R .busy none))):=hKb W _ _ (by omega) ⟨_,hl,rfl⟩;refine wpIn_mono (hbody _ pre x _ hi2 hlen) ?_;rintro e a3 W3 hp;cases e with
    | normal=>
      obtain ⟨hko,hkp,hi3⟩:=hp;have hl3:=hko.same _ _ hl2 rfl;have hd3:=hko.same _ _ hd2 rfl;have hlt3:=(Array.getElem?_eq_some_iff.1 hl3).1;exact ⟨_,_,run_endRound none hl3,.inl ⟨rfl,⟨hI _ _ _ _ hi3 (grown_put W3 _ _) (fun r e=>by cases e;exact .inr ⟨by omega,_,hl3,rfl⟩),World.putObj_heap_same hlt3,(World.putObj_heap_other (by omega)).trans hd3⟩,hKt (hKt hk2 hkp) (hKb W3 _ _ (by omega) ⟨_,hl3,rfl⟩)⟩⟩
    | exit id=>
      obtain ⟨hko,hi3⟩:=hp;have hl3:=hko.same _ _ hl2 rfl;have hd3:=hko.same _ _ hd2 rfl;have hlt3:=(Array.getElem?_eq_some_iff.1 hl3).1;exact ⟨_,_,run_endRound (some (.exit id)) hl3,.inr ⟨rfl,id,hIx id _ _ _ _ hi3 (grown_put W3 _ _) (fun r e=>by cases e;exact .inr ⟨by omega,_,hl3,rfl⟩),World.putObj_heap_same hlt3,(World.putObj_heap_other (by omega)).trans hd3⟩⟩
    | ret=>exact hp.elim
    | goto t=>exact hp.elim
    | panic c=>exact hp.elim
    | outgrown=>exact hp.elim
  · rintro e W2 ⟨⟨v,rfl⟩,(⟨xs,hS,hi,hl,hd⟩ | ⟨pre,hSp,c,hi,hl,hd⟩)⟩
    · exact ⟨none,_,run_endLoop hl (by intro h;cases h),hdone _ xs _ (Nat.le_refl _) hS (hI _ _ _ _ hi (grown_put W2 _ _) (fun r e=>by cases e;exact .inr ⟨by omega,_,hl,rfl⟩)) ((World.putObj_heap_other (by omega)).trans hd)⟩
    · exact ⟨some (.exit c),_,run_endLoop hl (by intro h;cases h),hstop _ c pre _ (Nat.le_refl _) hSp (hIx c _ _ _ _ hi (grown_put W2 _ _) (fun r e=>by cases e;exact .inr ⟨by omega,_,hl,rfl⟩)) ((World.putObj_heap_other (by omega)).trans hd)⟩
end
end Go.Proofs.YtdjgcenjonegjaaGreat
namespace Go.Proofs.YtdjgcenjonegjaaGreat
set_option linter.unusedSimpArgs false
set_option linter.unusedVariables false
open Go.RowKit
set_option maxRecDepth 20000

/-- of the units from lo to hi, how many lie from a to b -/
def lapI (lo hi a b:Int):Int:=if (if b < hi then b else hi) < (if lo < a then a else lo) then 0 else (if b < hi then b else hi)-(if lo < a then a else lo)
theorem lapI_bd {lo hi a b:Int} (h0:0≤lo) (h1:hi≤10000000):0≤lapI lo hi a b∧lapI lo hi a b≤10000000:=by
  unfold lapI
  repeat' split
  all_goals omega
def loA (xs:List AStep):Nat→Int | 0=>0 | k+1=>(xs.getD k default).upto
def costN (xs:List AStep) (a b:Int):Nat→Int | 0=>0 | k+1=>costN xs a b k+lapI (loA xs k) (xs.getD k default).upto a b*(xs.getD k default).price
def costA (xs:List AStep) (a b:Int):Int:=costN xs a b xs.length
theorem loA_bd {xs:List AStep} (h:xs.all okStep=true) {k:Nat} (hk:k≤xs.length):0≤loA xs k∧loA xs k≤10000000:=by
  cases k with
  | zero=>exact ⟨Int.le_refl _,by show (0:Int)≤_;omega⟩
  | succ k=>
    have:=okStep_true.1 (okStepAt h (show k < xs.length by omega));exact ⟨by show (0:Int)≤(xs.getD k default).upto;omega,by show (xs.getD k default).upto≤_;omega⟩
theorem lapcost_bd {l u a b p:Int} (h0:0≤l) (h1:u≤10000000) (p0:1≤p) (p1:p≤100000):0≤lapI l u a b*p∧lapI l u a b*p≤1000000000000:=by
  obtain ⟨x0,x1⟩:=lapI_bd (lo:=l) (hi:=u) (a:=a) (b:=b) h0 h1;refine ⟨Int.mul_nonneg x0 (by omega),?_⟩;have:=Int.mul_le_mul x1 p1 (by omega) (by omega);omega
theorem costN_bd {xs:List AStep} (h:xs.all okStep=true) (a b:Int) {k:Nat} (hk:k≤xs.length):0≤costN xs a b k∧costN xs a b k≤1000000000000*(k:Int):=by
  induction k with
  | zero=>exact ⟨Int.le_refl _,by show (0:Int)≤_;omega⟩
  | succ k ih=>
    obtain ⟨i0,i1⟩:=ih (by omega);have hx:=okStep_true.1 (okStepAt h (show k < xs.length by omega));obtain ⟨l0,-⟩:=loA_bd h (show k≤xs.length by omega);obtain ⟨m0,m1⟩:=lapcost_bd (l:=loA xs k) (u:=(xs.getD k default).upto) (a:=a) (b:=b) (p:=(xs.getD k default).price) l0 (by omega) (by omega) (by omega);have hs:costN xs a b (k+1)=costN xs a b k+lapI (loA xs k) (xs.getD k default).upto a b*(xs.getD k default).price:=rfl;rw [hs];omega

theorem overlap_any (lo hi a b:Int) (w:World) (h0:0≤lo) (h1:lo≤10000000) (h2:0≤hi) (h3:hi≤10000000) (h4:0≤a) (h5:a≤10000000) (h6:0≤b) (h7:b≤10000000):
    Calls Tryz.prog 152 #[I lo,I hi,I a,I b] w (Pure (I (lapI lo hi a b)) w):=by
  go_enter Tryz.func152,Tryz.ntmps152;go_wp2
  all_goals
    go_ret;refine Pure.intro (congrArg (Value.int .i64) ?_);(try rw [wrap_small _ (by omega) (by omega)]);unfold lapI
    repeat' split
    all_goals omega

set_option maxHeartbeats 2000000 in
theorem cost_any (v:Value) (xs:List AStep) (a b:Int) (w:World) (h:Sl w v 2 xs.length (xs.flatMap AStep.cells)) (hT:tariffE xs=0) (a0:0≤a) (a1:a≤10000000) (b0:0≤b) (b1:b≤10000000):
    Calls Tryz.prog 116 #[v,I a,I b] w (Grew (I (costA xs a b)) w):=by
  obtain ⟨p,cap,rfl,hn,hl,-,h⟩:=h;obtain ⟨l0,l8,hall,-,-⟩:=tariffE_zero hT;obtain ⟨g,off,rfl,hg,hc⟩:=h.resolve_left (by omega);have HC:=Lib.hid hc;have HA:=Lib.hid (show costA xs a b=costN xs a b xs.length from rfl);generalize costA xs a b=A at *;have HB:=Lib.hid (fun k hk=>And.intro (costN_bd hall a b (k:=k) hk) (loA_bd hall (k:=k) hk));have HO:=Lib.hid (fun k hk=>okStep_true.1 (okStepAt hall (k:=k) hk));have HL:=Lib.hid (fun lo hi w h0 h1 h2 h3=>overlap_any lo hi a b w h0 h1 h2 h3 a0 a1 b0 b1);clear h hc hT hall hl;go_enter Tryz.func116,Tryz.ntmps116;go_wp2
  go_loopw [7,8,9] (fun n l i wr=>∃ k:Nat,k≤xs.length∧n=I (costN xs a b k)∧l=I (loA xs k)∧i=I k∧∃ q,wr=w.drewN q) (fun _ _ i _=>xs.length-(intOf i).toNat)
  case atStart=>exact ⟨0,Nat.zero_le _,rfl,rfl,rfl,0,rfl⟩
  case round=>
    obtain ⟨k,hk,rfl,rfl,rfl,q,rfl⟩:=hrel
    by_cases hlt:k < xs.length
    · obtain ⟨e0,e1⟩:=elStep hg HC.out (Below.refl _ _) k hlt
      have hi0:(0:Int)≤(k:Int):=by omega
      have hi1:(k:Int) < (xs.length:Int):=by omega
      obtain ⟨⟨c0,c1⟩,m0,m1⟩:=HB.out k (by omega);obtain ⟨u0,u1,p0,p1⟩:=HO.out k hlt;have hstep:=Lib.hid (And.intro (show costN xs a b (k+1)=costN xs a b k+lapI (loA xs k) (xs.getD k default).upto a b*(xs.getD k default).price from rfl) (show loA xs (k+1)=(xs.getD k default).upto from rfl));have hmul:=lapcost_bd (l:=loA xs k) (u:=(xs.getD k default).upto) (a:=a) (b:=b) (p:=(xs.getD k default).price) m0 (by omega) p0 p1;generalize costN xs a b k=c at *;generalize loA xs k=l at *;generalize xs.getD k default=x at *;have L:=fun W=>HL.out l x.upto W m0 m1 (by omega) (by omega);generalize lapI l x.upto a b=t at *;have w1:IntKind.i64.wrap (t*x.price)=t*x.price:=wrap_small _ (by omega) (by omega);have w2:IntKind.i64.wrap (c+t*x.price)=c+t*x.price:=wrap_small _ (by omega) (by omega);clear hmul u0 u1 p0 p1 c0 c1 m0 m1 HL;go_wp2
      go_quiet ((first | (go_at_call 152;exact Pure.quiet2 (L _))))
      go_wp2
      go_round
      case rel=>exact ⟨k+1,by omega,by rw [hstep.out.1],by rw [hstep.out.2],by go_num,_,rfl⟩
      case measure=>simp [intOf];omega
    · have hge:(xs.length:Int)≤(k:Int):=by omega
      obtain rfl:k=xs.length:=by omega
      rw [← HA.out];clear HB HO HL;go_wp2;go_ret;exact Grew.intro rfl below_auto
end Go.Proofs.YtdjgcenjonegjaaGreat
namespace Go.Proofs.YtdjgcenjonegjaaGreat
set_option linter.unusedSimpArgs false
set_option linter.unusedVariables false
open Go.RowKit
set_option maxRecDepth 20000

/-- the steps from a number of units on, each with how many are left in it, and its price -/
def piecesL:List AStep→Int→List (Int×Int)
  | [],_=>[]
  | s::r,f=>if s.upto≤f then piecesL r f else (s.upto-f,s.price)::piecesL r s.upto
/-- units and price of each line -/
def billP:List (Int×Int)→Int→List (Int×Int)
  | [],_=>[]
  | x::r,u=>if u=0 then [] else (min x.1 u,x.2)::billP r (u-min x.1 u)
def billR (a b:Int):List AStep→Int→List (Int×Int)
  | [],_=>[]
  | s::r,lo=>if 0 < lapI lo s.upto a b then (lapI lo s.upto a b,s.price)::billR a b r s.upto else billR a b r s.upto
def sumR (a b:Int):List AStep→Int→Int
  | [],_=>0
  | s::r,lo=>lapI lo s.upto a b*s.price+sumR a b r s.upto
def sumL:List (Int×Int)→Int
  | []=>0
  | x::r=>x.1*x.2+sumL r
/-- each step ends behind the one ahead of it, the first behind lo -/
def Rise:Int→List AStep→Prop
  | _,[]=>True
  | lo,s::r=>lo < s.upto∧Rise s.upto r

theorem lapI_max (lo hi a b:Int):lapI lo hi a b=max 0 (min hi b-max lo a):=by
  unfold lapI
  repeat' split
  all_goals omega
theorem costN_drop (xs:List AStep) (a b:Int):∀ k,k≤xs.length→costN xs a b k+sumR a b (xs.drop k) (loA xs k)=sumR a b xs 0
  | 0,_=>by show 0+_=_;rw [List.drop_zero];show 0+sumR a b xs 0=_;omega
  | k + 1, hk => by
    have ih:=costN_drop xs a b k (by omega)
    have hx:xs.drop k=xs.getD k default::xs.drop (k+1):=by
      rw [List.getD_eq_getElem?_getD,List.getElem?_eq_getElem (by omega)];exact List.drop_eq_getElem_cons (by omega)
    rw [hx,sumR] at ih;show costN xs a b k+lapI (loA xs k) (xs.getD k default).upto a b*(xs.getD k default).price+sumR a b (xs.drop (k+1)) (xs.getD k default).upto=_;omega
theorem costA_sum (xs:List AStep) (a b:Int):costA xs a b=sumR a b xs 0:=by
  have:=costN_drop xs a b xs.length (Nat.le_refl _);rw [List.drop_length] at this;show costN xs a b xs.length=_;have h0:sumR a b [] (loA xs xs.length)=0:=rfl;omega
theorem rise_of {xs:List AStep} (hall:xs.all okStep=true) (hr:rises xs=true):∀ n k,k≤xs.length→xs.length-k=n→Rise (loA xs k) (xs.drop k)
  | 0,k,hk,hn=>by
    have:xs.drop k=[]:=List.drop_eq_nil_of_le (by omega)
    rw [this];trivial
  | n + 1, k, hk, hn => by
    have hx:xs.drop k=xs.getD k default::xs.drop (k+1):=by
      rw [List.getD_eq_getElem?_getD,List.getElem?_eq_getElem (by omega)];exact List.drop_eq_getElem_cons (by omega)
    rw [hx];refine ⟨?_,rise_of hall hr n (k+1) (by omega) (by omega)⟩;cases k with
    | zero=>have:=okStep_true.1 (okStepAt hall (show 0 < xs.length by omega));show (0:Int) < _;omega
    | succ j=>exact rises_at hr (by omega)
end Go.Proofs.YtdjgcenjonegjaaGreat
namespace Go.Proofs.YtdjgcenjonegjaaGreat
set_option linter.unusedSimpArgs false
set_option linter.unusedVariables false
open Go Go.RowKit Go.Shelf
set_option maxRecDepth 20000
attribute [local go_sem] Oper.semAt_some

/-- what lay below z lies as it lay, but for two blocks that the loop's body writes; and so does every step that was laid since -/
def KpB (U V z:Nat) (A B:World):Prop:=A.heap.size≤B.heap.size∧(∀ k o,A.heap[k]?=some o→o.isCells=true→k < z→k≠U→k≠V→B.heap[k]?=some o) ∧
  ∀ k cur fz,A.heap[k]?=some (.cells cur 244 fz)→z≤k→B.heap[k]?=some (.cells cur 244 fz)
theorem KpB.block {U V z:Nat} {A B:World} (h:KpB U V z A B) {a:Addr} {v:Value} (hc:A.cell? a=some v) (hz:a.block < z) (h1:a.block≠U) (h2:a.block≠V):B.heap[a.block]?=A.heap[a.block]?:=by
  obtain ⟨o,ho,hoc⟩:=cells_of_cell hc;rw [h.2.1 _ o ho hoc hz h1 h2,ho]
theorem piece_drop {xs:List AStep} {k:Nat} (hk:k < xs.length) (f:Int):piecesL (xs.drop k) f=if (xs.getD k default).upto≤f then piecesL (xs.drop (k+1)) f else ((xs.getD k default).upto-f,(xs.getD k default).price)::piecesL (xs.drop (k+1)) (xs.getD k default).upto:=by
  have hx:xs.drop k=xs.getD k default::xs.drop (k+1):=by
    rw [List.getD_eq_getElem?_getD,List.getElem?_eq_getElem hk];exact List.drop_eq_getElem_cons hk
  rw [hx];rfl
set_option maxRecDepth 100000 in
set_option maxHeartbeats 2000000 in
theorem pieces_in (F : Fence) (n : Nat) (hF : F.fn 165) (hro : F.round = none) (hn : 1 ≤ n) (l bt Bf g off cap U V z : Nat) (xs : List AStep) (a : Int) (J Jx : List (Int × Int) → World → Prop) (W : World)
    (hJ:Turned W.heap.size Bf J) (hb1:bt < W.heap.size) (hb2:Bf < W.heap.size) (hb3:g < W.heap.size) (hne1:bt≠Bf) (hne2:g≠Bf) (hz:z≤W.heap.size) (hbz:bt < z) (hfz:Bf < z) (hgz:g < z) (hbU:bt≠U) (hbV:bt≠V) (hfU:Bf≠U) (hfV:Bf≠V) (hgU:g≠U) (hgV:g≠V)
    (hY:∀ pre x W1,J pre W1→pre++[x] <+: piecesL xs a→YieldAt F (n-1) Tryz.prog l #[I x.1,I x.2] W1 fun e W'=>
      (e=.returned (.bool true)∧J (pre++[x]) W'∧KpB U V z W1 W')∨(e=.returned (.bool false)∧Jx (pre++[x]) W'))
    (hT:tariffE xs=0) (a0:0≤a) (hct:W.cell? ⟨bt,0,none⟩=some (.slice (some ⟨g,off,none⟩) xs.length cap)) (hcf:W.cell? ⟨Bf,0,none⟩=some (I a)) (hff:W.frozen? ⟨Bf,0,none⟩=false)
    (hc:∀ j,j < (xs.flatMap AStep.cells).length→W.cell? ⟨g,off+j,none⟩=some ((xs.flatMap AStep.cells).getD j undef)) (h0:J [] W):
    CallsIn F n Tryz.prog 165 #[.func (.yield l) #[] #[],.pointer (some ⟨bt,0,none⟩),.pointer (some ⟨Bf,0,none⟩)] W fun e W'=>(∃ v,e=.returned v) ∧
      ((∃ ys,ys=piecesL xs a∧J ys W')∨(∃ pre,pre <+: piecesL xs a∧Jx pre W')):=by
  refine callsIn_of_wp Tryz.func165 rfl hF ?_ hro;simp only [Tryz.ntmps165,List.size_toArray,List.length_cons,List.length_nil,Nat.reduceAdd,Nat.reduceSub,Array.replicate_succ,Array.replicate_zero,List.push_toArray,List.append_toArray,List.nil_append,List.cons_append];have HC:=Lib.hid hc;clear hc
  gi_wp2
  gi_loopw [5,8] (fun _ i wr=>∃ (k:Nat) (pre:List (Int×Int)) (f:Int),k≤xs.length∧i=I k∧Hid (piecesL xs a=pre++piecesL (xs.drop k) f∧0≤f∧J pre wr∧wr.cell? ⟨bt,0,none⟩=some (.slice (some ⟨g,off,none⟩) xs.length cap)∧wr.cell? ⟨Bf,0,none⟩=some (I f)∧wr.frozen? ⟨Bf,0,none⟩=false∧W.heap.size≤wr.heap.size∧wr.heap[g]?=W.heap[g]?))
    (fun _ i _=>xs.length-(intOf i).toNat)
  case atStart=>exact ⟨0,[],a,Nat.zero_le _,rfl,Lib.hid ⟨by rw [List.drop_zero];rfl,a0,h0,hct,hcf,hff,Nat.le_refl _,rfl⟩⟩
  case round=>
    obtain ⟨k,pre,f,hk,rfl,HR⟩:=hrel;obtain ⟨r1,f0,hJp,c1,c2,c3,hsz,hgk⟩:=HR.out
    by_cases hlt:k < xs.length
    · have HE:∀ A:World,A.heap[g]?=W.heap[g]?→A.cell? ⟨g,off+k*2,none⟩=some (I (xs.getD k default).upto)∧A.cell? ⟨g,off+k*2+1,none⟩=some (I (xs.getD k default).price):=fun A hA=>by
        obtain ⟨e0,e1⟩:=elStep hb3 HC.out (Below.refl _ _) k hlt;exact ⟨(World.cell?_of_block hA).trans e0,(World.cell?_of_block hA).trans e1⟩
      obtain ⟨e0,e1⟩:=HE wr hgk;obtain ⟨-,l8,hall,-,-⟩:=tariffE_zero hT;obtain ⟨u0,u1,p0,p1⟩:=okStep_true.1 (okStepAt hall hlt);have hpd:=Lib.hid (piece_drop hlt f);have hi0:(0:Int)≤(k:Int):=by omega
      have hi1:(k:Int) < (xs.length:Int):=by omega
      have R1:=Lib.hid r1;generalize xs.getD k default=x at *;clear r1 HR;have d1:∀ o,(wr.alloc o).cell? ⟨bt,0,none⟩=some (.slice (some ⟨g,off,none⟩) xs.length cap):=fun o=>((boxed_below wr o).cell (p:=⟨bt,0,none⟩) (by show bt < _;omega)).trans c1;have d2:∀ o,(wr.alloc o).cell? ⟨Bf,0,none⟩=some (I f):=fun o=>((boxed_below wr o).cell (p:=⟨Bf,0,none⟩) (by show Bf < _;omega)).trans c2;have d3:∀ o,(wr.alloc o).frozen? ⟨Bf,0,none⟩=false:=fun o=>((boxed_below wr o).frozen (p:=⟨Bf,0,none⟩) (by show Bf < _;omega)).trans c3;have d4:∀ o,(wr.alloc o).heap[g]?=W.heap[g]?:=fun o=>((boxed_below wr o).block g (by omega)).trans hgk;have d5:∀ o,J pre (wr.alloc o):=fun o=>hJ _ _ _ none hJp (World.grownBy_alloc wr o none) (fun r e=>by cases e);have D:=Lib.hid (And.intro d4 d5);clear d4 d5 hgk hJp
      by_cases hle:x.upto≤f
      · gi_wp2
        go_roundw
        case rel=>exact ⟨k+1,pre,f,by omega,by go_num,Lib.hid ⟨by rw [R1.out,hpd.out,if_pos hle],f0,D.out.2 _,d1 _,d2 _,d3 _,Nat.le_trans hsz (boxed_below wr _).size,D.out.1 _⟩⟩
        case measure=>simp [intOf];omega
      · have hw:IntKind.i64.wrap (x.upto-f)=x.upto-f:=wrap_small _ (by clear D R1 hpd;omega) (by clear D R1 hpd;omega)
        obtain ⟨fn,tmps,assign,body,hy,hR⟩:=hY pre (x.upto-f,x.price) (wr.alloc (.cells #[I x.upto,I x.price] 244)) (D.out.2 _) ⟨piecesL (xs.drop (k+1)) x.upto,by rw [R1.out,hpd.out,if_neg (by omega)];simp⟩
        dsimp only at hy
        gi_wp2
        refine hR.mono ?_;rintro e W3 (⟨rfl,hJ3,hk3⟩ | ⟨rfl,hJx3⟩)
        · have s1:wr.heap.size+1≤W3.heap.size:=by have:=hk3.1;rwa [World.size_alloc] at this
          have f1:W3.cell? ⟨bt,0,none⟩=some (.slice (some ⟨g,off,none⟩) xs.length cap):=(World.cell?_of_block (hk3.block (d1 _) hbz hbU hbV)).trans (d1 _);have f2:W3.cell? ⟨Bf,0,none⟩=some (I f):=(World.cell?_of_block (hk3.block (d2 _) hfz hfU hfV)).trans (d2 _);have f3:W3.frozen? ⟨Bf,0,none⟩=false:=(World.frozen?_of_block (hk3.block (d2 (.cells #[I x.upto,I x.price] 244)) hfz hfU hfV)).trans (d3 _);have eA:=((boxed_below wr (.cells #[I x.upto,I x.price] 244)).cell (p:=⟨g,off+k*2,none⟩) (by show g < _;omega)).trans e0;have f4:W3.heap[g]?=W.heap[g]?:=(hk3.block eA hgz hgU hgV).trans (D.out.1 _);have eN:(wr.alloc (.cells #[I x.upto,I x.price] 244)).heap[wr.heap.size]?=some (.cells #[I x.upto,I x.price] 244 (0,0)):=heap_alloc_new wr _;have f5:W3.cell? ⟨wr.heap.size,0,none⟩=some (I x.upto):=by rw [cell_of_cells (hk3.2.2 _ _ _ eN (by omega))];rfl
          have F4:=Lib.hid f4;clear eN eA d1 d2 d3 e0 e1 c1 c2 c3 f4;have hset:=set_same;have hoff:=set_blk;have hq:=Lib.hid (show J (pre++[(x.upto-f,x.price)]) (W3.setCell ⟨Bf,0,none⟩ (I x.upto)) from hJ _ _ _ _ hJ3 (grownBy_setCell' W3 Bf (I x.upto)) (fun r e=>by cases e;exact Or.inl rfl));have hb:=Lib.hid (show (W3.setCell ⟨Bf,0,none⟩ (I x.upto)).cell? ⟨bt,0,none⟩=some (.slice (some ⟨g,off,none⟩) xs.length cap) by rw [set_blk _ _ _ _ _ _ (Ne.symm hne1)];exact f1);have hs:=Lib.hid (show (W3.setCell ⟨Bf,0,none⟩ (I x.upto)).cell? ⟨Bf,0,none⟩=some (I x.upto) by rw [set_same,f2];rfl);have hz:=Lib.hid (show (W3.setCell ⟨Bf,0,none⟩ (I x.upto)).frozen? ⟨Bf,0,none⟩=false by rw [World.frozen?_setCell];exact f3)
          have hg4:=Lib.hid (show (W3.setCell ⟨Bf,0,none⟩ (I x.upto)).heap[g]?=W.heap[g]? by
            rw [(grownBy_setCell' W3 Bf (I x.upto)).block g (by omega) (fun e=>hne2 (by cases e;rfl))];exact F4.out)
          have hsz3:=Lib.hid (show W.heap.size≤(W3.setCell ⟨Bf,0,none⟩ (I x.upto)).heap.size from Nat.le_trans (by omega) (grownBy_setCell' W3 Bf (I x.upto)).size)
          gi_wp2
          go_roundw
          case rel=>exact ⟨k+1,pre++[(x.upto-f,x.price)],x.upto,by omega,by go_num,Lib.hid ⟨by rw [R1.out,hpd.out,if_neg (by omega)];simp,by omega,hq.out,hb.out,hs.out,hz.out,hsz3.out,hg4.out⟩⟩
          case measure=>simp [intOf];omega
        · gi_wp2
          refine bodyPost_ret (results_none rfl _ _ _) rfl ?_;exact ⟨⟨_,rfl⟩,.inr ⟨pre++[(x.upto-f,x.price)],⟨piecesL (xs.drop (k+1)) x.upto,by rw [R1.out,hpd.out,if_neg (by omega)];simp⟩,hJx3⟩⟩
    · obtain rfl:k=xs.length:=by omega
      gi_wp2
      go_end0
      exact ⟨⟨_,rfl⟩,.inl ⟨pre,by rw [r1,List.drop_length];simp [piecesL],hJp⟩⟩
end Go.Proofs.YtdjgcenjonegjaaGreat
