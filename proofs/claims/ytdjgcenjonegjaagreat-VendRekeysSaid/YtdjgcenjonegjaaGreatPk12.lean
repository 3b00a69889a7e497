/- the most units for an amount: step by step as the program takes them; what the halving of the reference looks for: plain law · what is wrong with what is asked of a tariff: the program, the reference · ref.MostFor · a region that draws its order, within a round of a loop over a function: operations that leave memory alone are walked once, in the order of the text -/
import Derived.Test.YtdjgcenjonegjaaGreatPk11
import Derived.Test.YtdjgcenjonegjaaGreatPk07
import Derived.Sort.QuietThIn
import Derived.Sort.BigQuietIn
import Derived.RangeFuncCalls
import Derived.OwnWalkIn
namespace Go.Proofs.YtdjgcenjonegjaaGreat
set_option linter.unusedSimpArgs false
set_option linter.unusedVariables false
open Go.RowKit
set_option maxRecDepth 20000

def takeN (money u p:Int) (x:Int×Int):Int:=min x.1 (min ((money-p) / x.2) (2097151-u))
def mostP (money:Int):List (Int×Int)→Int→Int→Int×Int
  | [],u,p=>(u,p)
  | x::r,u,p=>if takeN money u p x < x.1 then (u+takeN money u p x,p+takeN money u p x*x.2) else mostP money r (u+takeN money u p x) (p+takeN money u p x*x.2)
def endU:Int→List AStep→Int
  | lo,[]=>lo
  | _,s::r=>endU s.upto r
theorem endU_le:∀ {ts:List AStep} {lo:Int},Rise lo ts→lo≤endU lo ts
  | [],_,_=>Int.le_refl _
  | s::r,lo,h=>by have:=endU_le h.2;have:=h.1;show lo≤endU s.upto r;omega
theorem sumR_zero {a b:Int}:∀ {ts:List AStep} {lo:Int},Rise lo ts→b≤lo→sumR a b ts lo=0
  | [],_,_,_=>rfl
  | s::r,lo,h,hb=>by
    have h0:lapI lo s.upto a b=0:=by rw [lapI_max];omega
    rw [sumR,h0,sumR_zero h.2 (by have:=h.1;omega)];omega
theorem sumR_pos {a b:Int}:∀ {ts:List AStep} (lo:Int),(∀ s∈ts,1≤s.price)→0≤sumR a b ts lo
  | [],_,_=>Int.le_refl _
  | s::r,lo,h=>by
    have h1:0≤lapI lo s.upto a b:=by rw [lapI_max];omega
    have h2:=Int.mul_nonneg h1 (by have:=h s (by simp);omega:0≤s.price)
    have h3:=sumR_pos (a:=a) (b:=b) (ts:=r) s.upto (fun x hx=>h x (List.mem_cons_of_mem _ hx))
    rw [sumR];omega
theorem most_law {a money : Int} : ∀ {ts : List AStep} {lo : Int} (u p : Int), Rise lo ts → (∀ s ∈ ts, 1 ≤ s.price) → u ≤ 2097151 → p ≤ money →
    ∃ k,0≤k∧k≤2097151-u∧max lo a+k≤max (max lo a) (endU lo ts)∧mostP money (piecesL ts (max lo a)) u p=(u+k,p+sumR a (max lo a+k) ts lo) ∧
      sumR a (max lo a+k) ts lo≤money-p∧∀ m,k < m→m≤2097151-u→max lo a+m≤max (max lo a) (endU lo ts)→money-p < sumR a (max lo a+m) ts lo
  | [],lo,u,p,_,_,hu,hm=>by
    refine ⟨0,Int.le_refl _,by omega,by omega,?_,?_,?_⟩
    · show (u,p)=(u+0,p+0);simp
    · show (0:Int)≤_;omega
    · intro m h1 h2 h3
      have:endU lo ([]:List AStep)=lo:=rfl
      omega
  | s :: r, lo, u, p, h, hp, hu, hm => by
    obtain ⟨h1,h2⟩:=h
    have hpr:∀ x∈r,1≤x.price:=fun x hx=>hp x (List.mem_cons_of_mem _ hx)
    have hc:1≤s.price:=hp s (by simp)
    have he:endU lo (s::r)=endU s.upto r:=rfl
    have hel:=endU_le h2
    by_cases hs:s.upto≤max lo a
    · obtain ⟨k,k0,k1,k2,k3,k4,k5⟩:=most_law (a:=a) (money:=money) u p h2 hpr hu hm
      have e:max s.upto a=max lo a:=by omega
      have hS:∀ b,sumR a b (s::r) lo=sumR a b r s.upto:=fun b=>by
        have h0:lapI lo s.upto a b=0:=by rw [lapI_max];omega
        rw [sumR,h0];omega
      rw [e] at k2 k3 k4 k5
      refine ⟨k,k0,k1,by rw [he];omega,?_,by rw [hS];exact k4,fun m m1 m2 m3=>by rw [hS];exact k5 m m1 m2 (by rw [he] at m3;omega)⟩
      rw [piecesL,if_pos hs,hS]
      exact k3
    · rw [piecesL, if_neg hs]
      have hf:max lo a < s.upto:=by omega
      generalize hfe:max lo a=f at *
      have hS:∀ b,f≤b→sumR a b (s::r) lo=min (s.upto-f) (b-f)*s.price+sumR a b r s.upto:=fun b hb=>by
        have h0:lapI lo s.upto a b=min (s.upto-f) (b-f):=by rw [lapI_max];omega
        rw [sumR,h0]
      have hn:takeN money u p (s.upto-f,s.price)=min (s.upto-f) (min ((money-p) / s.price) (2097151-u)):=rfl
      have hd0:0≤(money-p) / s.price:=Int.ediv_nonneg (by omega) (by omega)
      have hd1:(money-p) / s.price*s.price≤money-p:=Int.ediv_mul_le _ (by omega)
      have hd2:money-p < ((money-p) / s.price+1)*s.price:=Int.lt_ediv_add_one_mul_self _ (by omega)
      generalize hde:(money-p) / s.price=d at *
      have hmul:∀ x y:Int,x≤y→x*s.price≤y*s.price:=fun x y hxy=>Int.mul_le_mul_of_nonneg_right hxy (by omega)
      rw [mostP]
      generalize takeN money u p (s.upto-f,s.price)=n at *
      by_cases hlt:n < s.upto-f
      · refine ⟨n,by omega,by omega,by rw [he];omega,?_,?_,?_⟩
        · rw [if_pos hlt,hS _ (by omega),sumR_zero h2 (by omega)]
          have:min (s.upto-f) (f+n-f)=n:=by omega
          rw [this];simp
        · rw [hS _ (by omega),sumR_zero h2 (by omega)]
          have:min (s.upto-f) (f+n-f)=n:=by omega
          rw [this]
          have:=hmul n d (by omega)
          omega
        · intro m m1 m2 m3
          rw [hS _ (by omega)]
          have hnd:n=d:=by omega
          have:=hmul (d+1) (min (s.upto-f) (f+m-f)) (by omega)
          have:=sumR_pos (a:=a) (b:=f+m) s.upto hpr
          omega
      · have hnl:n=s.upto-f:=by omega
        have hle:n*s.price≤money-p:=by have:=hmul n d (by omega);omega
        obtain ⟨k,k0,k1,k2,k3,k4,k5⟩:=most_law (a:=a) (money:=money) (u+n) (p+n*s.price) h2 hpr (by omega) (by omega)
        have e:max s.upto a=s.upto:=by omega
        rw [e] at k2 k3 k4 k5
        have hsum:∀ j,0≤j→sumR a (f+(n+j)) (s::r) lo=n*s.price+sumR a (s.upto+j) r s.upto:=fun j hj=>by
          rw [hS _ (by omega)]
          have e1:min (s.upto-f) (f+(n+j)-f)=n:=by omega
          have e2:f+(n+j)=s.upto+j:=by omega
          rw [e1,e2]
        refine ⟨n+k,by omega,by omega,by rw [he];omega,?_,?_,?_⟩
        · rw [if_neg hlt,hsum k k0]
          show mostP money (piecesL r s.upto) (u+n) (p+n*s.price)=_
          rw [k3]
          simp only [Prod.mk.injEq]
          omega
        · rw [hsum k k0];omega
        · intro m m1 m2 m3
          have:=k5 (m-n) (by omega) (by omega) (by rw [he] at m3;omega)
          have e3:m=n+(m-n):=by omega
          rw [e3,hsum (m-n) (by omega)]
          omega
end Go.Proofs.YtdjgcenjonegjaaGreat
namespace Go.Proofs.YtdjgcenjonegjaaGreat
set_option linter.unusedSimpArgs false
set_option linter.unusedVariables false
open Go.RowKit
set_option maxRecDepth 20000

def unitsE (xs:List AStep) (a u:Int):Int:=if tariffE xs=0 then (if 0≤a∧a≤10000000∧0≤u∧u≤2097151∧a+u≤10000000 then 0 else 2) else tariffE xs
theorem unitsE_two {xs:List AStep} {a u:Int} (hT:tariffE xs=0) (h:¬ (0≤a∧a≤10000000∧0≤u∧u≤2097151∧a+u≤10000000)):unitsE xs a u=2:=by rw [unitsE,if_pos hT,if_neg h]
theorem unitsE_zero {xs:List AStep} {a u:Int} (hT:tariffE xs=0) (h:0≤a∧a≤10000000∧0≤u∧u≤2097151∧a+u≤10000000):unitsE xs a u=0:=by rw [unitsE,if_pos hT,if_pos h]
theorem unitsE_bad {xs:List AStep} {a u:Int} (hT:tariffE xs≠0):unitsE xs a u=tariffE xs:=by rw [unitsE,if_neg hT]
theorem unitsE_ok {xs:List AStep} {a u:Int} (h:unitsE xs a u=0):tariffE xs=0∧0≤a∧a≤10000000∧0≤u∧u≤2097151∧a+u≤10000000:=by
  unfold unitsE at h
  split at h
  · split at h
    · exact ⟨by assumption,by assumption⟩
    · omega
  · contradiction
set_option maxHeartbeats 2000000 in
theorem asked_any (v:Value) (xs:List AStep) (a u:Int) (w:World) (h:Sl w v 2 xs.length (xs.flatMap AStep.cells)):
    Calls Tryz.prog 154 #[v,I a,I u] w (Grew (I (unitsE xs a u)) w):=by
  have T:=Lib.hid (fun W hW=>CheckT_any v xs W hW)
  by_cases hT:tariffE xs=0
  · rw [hT] at T
    by_cases q1:a < 0
    · rw [unitsE_two hT (by omega)]
      clear hT;go_enter Tryz.func154,Tryz.ntmps154
      go_wp2_with fail
      refine (T.out _ h).mono ?_;rintro e w1 ⟨rfl,k1⟩;go_wp2;go_ret;exact Grew.intro rfl below_auto
    by_cases q2:10000000 < a
    · rw [unitsE_two hT (by omega)]
      clear hT;go_enter Tryz.func154,Tryz.ntmps154
      go_wp2_with fail
      refine (T.out _ h).mono ?_;rintro e w1 ⟨rfl,k1⟩;go_wp2;go_ret;exact Grew.intro rfl below_auto
    by_cases q3:u < 0
    · rw [unitsE_two hT (by omega)]
      clear hT;go_enter Tryz.func154,Tryz.ntmps154
      go_wp2_with fail
      refine (T.out _ h).mono ?_;rintro e w1 ⟨rfl,k1⟩;go_wp2;go_ret;exact Grew.intro rfl below_auto
    by_cases q4:2097151 < u
    · rw [unitsE_two hT (by omega)]
      clear hT;go_enter Tryz.func154,Tryz.ntmps154
      go_wp2_with fail
      refine (T.out _ h).mono ?_;rintro e w1 ⟨rfl,k1⟩;go_wp2;go_ret;exact Grew.intro rfl below_auto
    have hw:IntKind.i64.wrap (a+u)=a+u:=wrap_small _ (by omega) (by omega)
    by_cases q5:10000000 < a+u
    · rw [unitsE_two hT (by omega)]
      clear hT;go_enter Tryz.func154,Tryz.ntmps154
      go_wp2_with fail
      refine (T.out _ h).mono ?_;rintro e w1 ⟨rfl,k1⟩;go_wp2;go_ret;exact Grew.intro rfl below_auto
    · rw [unitsE_zero hT (by omega)]
      clear hT;go_enter Tryz.func154,Tryz.ntmps154
      go_wp2_with fail
      refine (T.out _ h).mono ?_;rintro e w1 ⟨rfl,k1⟩;go_wp2;go_ret;exact Grew.intro rfl below_auto
  · rw [unitsE_bad hT]
    generalize tariffE xs=r at *;have q1:=hT;clear hT;go_enter Tryz.func154,Tryz.ntmps154
    go_wp2_with fail
    refine (T.out _ h).mono ?_;rintro e w1 ⟨rfl,k1⟩;go_wp2;go_ret;exact Grew.intro rfl below_auto
set_option maxHeartbeats 2000000 in
theorem UnitsMay_any (v:Value) (xs:List AStep) (a u:Int) (w:World) (h:Sl w v 2 xs.length (xs.flatMap AStep.cells)):
    Calls Tryz.prog 115 #[v,I a,I u] w (Grew (I (unitsE xs a u)) w):=by
  have T:=Lib.hid (fun W hW=>TariffFault_any v xs W hW)
  by_cases hT:tariffE xs=0
  · rw [hT] at T
    cases p1:inB a 0 10000000
    · rw [unitsE_two hT (by have:=inB_false.1 p1;omega)]
      clear hT;go_enter Tryz.func115,Tryz.ntmps115
      go_wp2_with fail
      refine (T.out _ h).mono ?_;rintro e w1 ⟨rfl,k1⟩
      go_wp2_with (go_at_call 57;refine (In_any _ _ _ _).mono ?_;rintro e w' ⟨rfl,rfl⟩)
      go_ret;exact Grew.intro rfl below_auto
    cases p2:inB u 0 2097151
    · rw [unitsE_two hT (by have:=inB_false.1 p2;omega)]
      clear hT;go_enter Tryz.func115,Tryz.ntmps115
      go_wp2_with fail
      refine (T.out _ h).mono ?_;rintro e w1 ⟨rfl,k1⟩
      go_wp2_with (go_at_call 57;refine (In_any _ _ _ _).mono ?_;rintro e w' ⟨rfl,rfl⟩)
      go_ret;exact Grew.intro rfl below_auto
    obtain ⟨a0,a1⟩:=inB_true.1 p1;obtain ⟨u0,u1⟩:=inB_true.1 p2;have hw:IntKind.i64.wrap (a+u)=a+u:=wrap_small _ (by omega) (by omega)
    by_cases q5:10000000 < a+u
    · rw [unitsE_two hT (by omega)]
      clear a0 a1 u0 u1;clear hT;go_enter Tryz.func115,Tryz.ntmps115
      go_wp2_with fail
      refine (T.out _ h).mono ?_;rintro e w1 ⟨rfl,k1⟩
      go_wp2_with (go_at_call 57;refine (In_any _ _ _ _).mono ?_;rintro e w' ⟨rfl,rfl⟩)
      go_ret;exact Grew.intro rfl below_auto
    · rw [unitsE_zero hT (by omega)]
      clear a0 a1 u0 u1;clear hT;go_enter Tryz.func115,Tryz.ntmps115
      go_wp2_with fail
      refine (T.out _ h).mono ?_;rintro e w1 ⟨rfl,k1⟩
      go_wp2_with (go_at_call 57;refine (In_any _ _ _ _).mono ?_;rintro e w' ⟨rfl,rfl⟩)
      go_ret;exact Grew.intro rfl below_auto
  · rw [unitsE_bad hT]
    generalize tariffE xs=r at *;have q1:=hT;clear hT;go_enter Tryz.func115,Tryz.ntmps115
    go_wp2_with fail
    refine (T.out _ h).mono ?_;rintro e w1 ⟨rfl,k1⟩
    go_wp2_with (go_at_call 57;refine (In_any _ _ _ _).mono ?_;rintro e w' ⟨rfl,rfl⟩)
    go_ret;exact Grew.intro rfl below_auto
end Go.Proofs.YtdjgcenjonegjaaGreat
namespace Go.Proofs.YtdjgcenjonegjaaGreat
set_option linter.unusedSimpArgs false
set_option linter.unusedVariables false
open Go.RowKit
set_option maxRecDepth 20000

theorem sumR_mono {a b c:Int} (hbc:b≤c):∀ {ts:List AStep} (lo:Int),(∀ s∈ts,1≤s.price)→sumR a b ts lo≤sumR a c ts lo
  | [],_,_=>Int.le_refl _
  | s::r,lo,h=>by
    have h1:lapI lo s.upto a b≤lapI lo s.upto a c:=by rw [lapI_max,lapI_max];omega
    have h2:=Int.mul_le_mul_of_nonneg_right h1 (by have:=h s (by simp);omega:0≤s.price)
    have h3:=sumR_mono (a:=a) hbc (ts:=r) s.upto (fun x hx=>h x (List.mem_cons_of_mem _ hx))
    rw [sumR,sumR];omega
theorem endU_last {xs:List AStep}:∀ n k,k+1≤xs.length→xs.length-k=n→endU (loA xs k) (xs.drop k)=lastU xs
  | 0,k,hk,hn=>by omega
  | n + 1, k, hk, hn => by
    have hx:xs.drop k=xs.getD k default::xs.drop (k+1):=by
      rw [List.getD_eq_getElem?_getD,List.getElem?_eq_getElem (by omega)];exact List.drop_eq_getElem_cons (by omega)
    rw [hx];show endU (loA xs (k+1)) (xs.drop (k+1))=_
    by_cases he:k+1=xs.length
    · have hnil:xs.drop (k+1)=[]:=List.drop_eq_nil_of_le (by omega)
      rw [hnil];show (xs.getD k default).upto=(xs.getD (xs.length-1) default).upto;rw [show k=xs.length-1 by omega]
    · exact endU_last n (k+1) (by omega) (by omega)
/-- the most units for an amount -/
def mostA (xs:List AStep) (a money:Int):Int:=(mostP money (piecesL xs a) 0 0).1
theorem most_is {xs:List AStep} {a money:Int} (hT:tariffE xs=0) (a0:0≤a) (a1:a≤10000000) (m0:0≤money):
    0≤mostA xs a money∧mostA xs a money≤2097151∧a+mostA xs a money≤10000000∧mostP money (piecesL xs a) 0 0=(mostA xs a money,costA xs a (a+mostA xs a money)) ∧
      ∀ m,0≤m→m≤2097151→a+m≤10000000→(costA xs a (a+m)≤money↔m≤mostA xs a money):=by
  obtain ⟨l0,-,hall,hr,hl⟩:=tariffE_zero hT;have h:=rise_of hall hr xs.length 0 (Nat.zero_le _) (by omega);rw [List.drop_zero] at h;have he:=endU_last (xs:=xs) xs.length 0 (by omega) (by omega);rw [List.drop_zero,hl] at he;have hp:∀ s∈xs,1≤s.price:=fun s hs=>(okStep_true.1 (List.all_eq_true.1 hall s hs)).2.2.1;obtain ⟨k,k0,k1,k2,k3,k4,k5⟩:=most_law (a:=a) (money:=money) (ts:=xs) (lo:=0) 0 0 h hp (by omega) m0;have e:max 0 a=a:=by omega
  have he':endU 0 xs=10000000:=he;rw [e] at k2 k3 k4 k5;rw [he'] at k2 k5;have hk:mostA xs a money=k:=by unfold mostA;rw [k3];show 0+k=k;omega
  rw [hk];refine ⟨k0,by omega,by omega,?_,fun m m0 m1 m2=>?_⟩
  · rw [k3,costA_sum];simp
  · rw [costA_sum]
    constructor
    · intro hc
      refine Decidable.byContradiction fun hlt=>?_
      have:=k5 m (by omega) (by omega) (by omega);omega
    · intro hle
      have:=sumR_mono (a:=a) (b:=a+m) (c:=a+k) (by omega) (ts:=xs) 0 hp;omega

def mostE (xs:List AStep) (a m:Int):Int:=if unitsE xs a 0=0 then (if inB m 0 1000000000000 then 0 else 2) else unitsE xs a 0
def mostU (xs:List AStep) (a m:Int):Int:=if mostE xs a m=0 then mostA xs a m else 0
def mostC (xs:List AStep) (a m:Int):Int:=if mostE xs a m=0 then costA xs a (a+mostA xs a m) else 0
theorem most_ok {xs:List AStep} {a m:Int} (h:mostE xs a m=0):mostU xs a m=mostA xs a m∧mostC xs a m=costA xs a (a+mostA xs a m):=by simp [mostU,mostC,h]
theorem most_err {xs:List AStep} {a m:Int} (h:mostE xs a m≠0):mostU xs a m=0∧mostC xs a m=0:=by simp [mostU,mostC,h]
theorem half_of (x y:Int) (h0:0≤x) (h1:x < y) (_h2:y≤2097151):∃ c,(x+y+1).tdiv 2=c∧x < c∧c≤y:=by
  refine ⟨(x+y+1).tdiv 2,rfl,?_⟩;rw [Int.tdiv_eq_ediv_of_nonneg (by omega)];omega

set_option maxHeartbeats 2000000 in
theorem MostFor_any (v : Value) (xs : List AStep) (a m : Int) (w : World) (h : Sl w v 2 xs.length (xs.flatMap AStep.cells)) :
    Calls Tryz.prog 60 #[v,I a,I m] w (Grew (T3 (I (mostU xs a m)) (I (mostC xs a m)) (I (mostE xs a m))) w):=by
  have T:=Lib.hid (fun W hW=>UnitsMay_any v xs a 0 W hW)
  by_cases hU:unitsE xs a 0=0
  · rw [hU] at T
    cases p1:inB m 0 1000000000000
    · have hE:mostE xs a m=2:=by simp [mostE,hU,p1]
      obtain ⟨q1,q2⟩:=most_err (xs:=xs) (a:=a) (m:=m) (by rw [hE];decide);rw [q1,q2,hE];clear q1 q2 hE hU;go_enter Tryz.func60,Tryz.ntmps60
      go_wp2_with fail
      refine (T.out _ h).mono ?_;rintro e w1 ⟨rfl,k1⟩
      go_wp2_with (go_at_call 57;refine (In_any _ _ _ _).mono ?_;rintro e w' ⟨rfl,rfl⟩)
      go_ret3;exact Grew.intro rfl k1
    · have hE : mostE xs a m = 0 := by simp [mostE, hU, p1]
      obtain ⟨q1,q2⟩:=most_ok hE;rw [q1,q2,hE];obtain ⟨hT,a0,a1,-,-,-⟩:=unitsE_ok hU;obtain ⟨n0,n1⟩:=inB_true.1 p1;obtain ⟨K0,K1,K2,-,K3⟩:=most_is hT a0 a1 n0;have C:=Lib.hid (fun b W hW b0 b1=>cost_any v xs a b W hW hT a0 a1 b0 b1);generalize mostA xs a m=K at *;have HK:=Lib.hid K3;clear q1 q2 hE hU hT K3 n0 n1;have hw0:IntKind.i64.wrap (10000000-a)=10000000-a:=wrap_small _ (by omega) (by omega);go_enter Tryz.func60,Tryz.ntmps60
      go_wp2_with fail
      refine (T.out _ h).mono ?_;rintro e w1 ⟨rfl,k1⟩
      by_cases hH:10000000-a < 2097151
      · go_wp2_with (go_at_call 57;refine (In_any _ _ _ _).mono ?_;rintro e w' ⟨rfl,rfl⟩)
        go_loopw [10,11,12] (fun l h _ wr=>∃ x y:Int,l=I x∧h=I y∧Hid (0≤x∧x≤K∧K≤y∧y≤2097151∧a+y≤10000000)∧Below w.heap.size w wr) (fun l h _ _=>(intOf h-intOf l).toNat)
        case atStart=>exact ⟨0,10000000-a,rfl,rfl,Lib.hid ⟨by omega,by omega,by omega,by omega,by omega⟩,k1⟩
        case round=>
          obtain ⟨x,y,rfl,rfl,hb,kw⟩:=hrel;clear hw0 hH
          by_cases hlt:x < y
          · have hb':=hb.out
            obtain ⟨c,hc,c0,c1⟩:=half_of x y (by omega) hlt (by omega);have e1:IntKind.i64.wrap (x+y)=x+y:=wrap_small _ (by omega) (by omega);have e2:IntKind.i64.wrap (x+y+1)=x+y+1:=wrap_small _ (by omega) (by omega);have e3:IntKind.i64.wrap c=c:=wrap_small _ (by omega) (by omega);have e4:IntKind.i64.wrap (a+c)=a+c:=wrap_small _ (by omega) (by omega);have e5:IntKind.i64.wrap (c-1)=c-1:=wrap_small _ (by omega) (by omega);have CC:=Lib.hid (C.out (a+c) _ (h.below kw) (by omega) (by omega));have hk:=Lib.hid (HK.out c (by omega) (by omega) (by omega));generalize costA xs a (a+c)=t at *;clear hb' K0 K1 K2 a0 a1
            go_wp2_with fail
            refine CC.out.mono ?_;rintro e w2 ⟨rfl,k2⟩;have kk:=kw.trans (k2.mono kw.size)
            by_cases hle:t≤m
            · have hck:=Lib.hid (hk.out.1 hle)
              clear hk;go_wp2
              go_round
              case rel=>exact ⟨c,y,rfl,rfl,Lib.hid (by have:=hb.out;have:=hck.out;omega),kk⟩
              case measure=>simp [intOf];omega
            · have hck:=Lib.hid (fun hle2=>hle (hk.out.2 hle2))
              clear hk;go_wp2
              go_round
              case rel=>exact ⟨x,c-1,rfl,rfl,Lib.hid (by have:=hb.out;have:¬ c≤K:=hck.out;omega),kk⟩
              case measure=>simp [intOf];omega
          · have hb':=hb.out
            obtain rfl:x=K:=by omega
            have e4:IntKind.i64.wrap (a+x)=a+x:=wrap_small _ (by omega) (by omega);have CC:=Lib.hid (C.out (a+x) _ (h.below kw) (by omega) (by omega));generalize costA xs a (a+x)=t at *;clear hb' K0 K1 K2 a0 a1
            go_wp2_with fail
            refine CC.out.mono ?_;rintro e w2 ⟨rfl,k2⟩;have kk:=kw.trans (k2.mono kw.size);go_wp2;go_ret3;exact Grew.intro rfl kk
      · go_wp2_with (go_at_call 57;refine (In_any _ _ _ _).mono ?_;rintro e w' ⟨rfl,rfl⟩)
        go_loopw [10,11,12] (fun l h _ wr=>∃ x y:Int,l=I x∧h=I y∧Hid (0≤x∧x≤K∧K≤y∧y≤2097151∧a+y≤10000000)∧Below w.heap.size w wr) (fun l h _ _=>(intOf h-intOf l).toNat)
        case atStart=>exact ⟨0,2097151,rfl,rfl,Lib.hid ⟨by omega,by omega,by omega,by omega,by omega⟩,k1⟩
        case round=>
          obtain ⟨x,y,rfl,rfl,hb,kw⟩:=hrel;clear hw0 hH
          by_cases hlt:x < y
          · have hb':=hb.out
            obtain ⟨c,hc,c0,c1⟩:=half_of x y (by omega) hlt (by omega);have e1:IntKind.i64.wrap (x+y)=x+y:=wrap_small _ (by omega) (by omega);have e2:IntKind.i64.wrap (x+y+1)=x+y+1:=wrap_small _ (by omega) (by omega);have e3:IntKind.i64.wrap c=c:=wrap_small _ (by omega) (by omega);have e4:IntKind.i64.wrap (a+c)=a+c:=wrap_small _ (by omega) (by omega);have e5:IntKind.i64.wrap (c-1)=c-1:=wrap_small _ (by omega) (by omega);have CC:=Lib.hid (C.out (a+c) _ (h.below kw) (by omega) (by omega));have hk:=Lib.hid (HK.out c (by omega) (by omega) (by omega));generalize costA xs a (a+c)=t at *;clear hb' K0 K1 K2 a0 a1
            go_wp2_with fail
            refine CC.out.mono ?_;rintro e w2 ⟨rfl,k2⟩;have kk:=kw.trans (k2.mono kw.size)
            by_cases hle:t≤m
            · have hck:=Lib.hid (hk.out.1 hle)
              clear hk;go_wp2
              go_round
              case rel=>exact ⟨c,y,rfl,rfl,Lib.hid (by have:=hb.out;have:=hck.out;omega),kk⟩
              case measure=>simp [intOf];omega
            · have hck:=Lib.hid (fun hle2=>hle (hk.out.2 hle2))
              clear hk;go_wp2
              go_round
              case rel=>exact ⟨x,c-1,rfl,rfl,Lib.hid (by have:=hb.out;have:¬ c≤K:=hck.out;omega),kk⟩
              case measure=>simp [intOf];omega
          · have hb':=hb.out
            obtain rfl:x=K:=by omega
            have e4:IntKind.i64.wrap (a+x)=a+x:=wrap_small _ (by omega) (by omega);have CC:=Lib.hid (C.out (a+x) _ (h.below kw) (by omega) (by omega));generalize costA xs a (a+x)=t at *;clear hb' K0 K1 K2 a0 a1
            go_wp2_with fail
            refine CC.out.mono ?_;rintro e w2 ⟨rfl,k2⟩;have kk:=kw.trans (k2.mono kw.size);go_wp2;go_ret3;exact Grew.intro rfl kk
  · have hE:mostE xs a m=unitsE xs a 0:=by simp [mostE,hU]
    obtain ⟨q1,q2⟩:=most_err (xs:=xs) (a:=a) (m:=m) (by rw [hE];exact hU);rw [q1,q2,hE];clear q1 q2 hE;generalize unitsE xs a 0=r at *;go_enter Tryz.func60,Tryz.ntmps60
    go_wp2_with fail
    refine (T.out _ h).mono ?_;rintro e w1 ⟨rfl,k1⟩;go_wp2;go_ret3;exact Grew.intro rfl k1
end Go.Proofs.YtdjgcenjonegjaaGreat
namespace Go.Proofs.YtdjgcenjonegjaaGreat
set_option linter.unusedSimpArgs false
set_option linter.unusedVariables false
open Go
set_option maxRecDepth 20000

def noDefers:List Oper→Bool
  | []=>true
  | o::r=>(match o.op with | .defer _=>false | _=>true)&&noDefers r
theorem noDefers_at:∀ {l:List Oper} {i:Nat} {o:Oper},noDefers l=true→l[i]?=some o→∀ c,o.op≠.defer c
  | [],_,_,_,h,_=>by simp at h
  | x::r,0,o,hn,h,c=>by
    simp only [List.getElem?_cons_zero,Option.some.injEq] at h
    subst h
    simp only [noDefers,Bool.and_eq_true] at hn
    intro he
    rw [he] at hn
    exact absurd hn.1 (by simp)
  | x::r,i+1,o,hn,h,c=>by
    simp only [noDefers,Bool.and_eq_true] at hn
    exact noDefers_at hn.2 (by simpa using h) c
section
variable {F:Fence} {n:Nat} {P:Program} {Q:Exit→Act→World→Prop}
theorem upon_round (l:Nat) {o:Oper} {a:Act} {K:Act→World→Prop} {r:Result Next} (h:o.uponIn F n P a K Q r):o.uponIn (F.inRound l) n P a K Q r:=by
  cases r with
  | ok x w'=>cases x<;>exact h
  | halt x w'=>cases x<;>exact h
theorem wp_round (l:Nat) {o:Oper} {a:Act} {w:World} {K:Act→World→Prop} (hd:∀ c,o.op≠.defer c) (h:o.wpIn F n P a w K Q):o.wpIn (F.inRound l) n P a w K Q:=by
  unfold Oper.wpIn at *;refine ⟨h.1,?_⟩;have h2:=h.2;rw [Oper.semAt_plain F _ _ hd] at h2;rw [Oper.semAt_plain (F.inRound l) _ _ hd];exact upon_round l h2
theorem wpOp_round (l:Nat) {ops:List Oper} (hn:noDefers ops=true) {i:Nat} {K:Act→World→Prop} {a:Act} {w:World} (h:wpOpIn F n P ops.toArray Q i K a w):wpOpIn (F.inRound l) n P ops.toArray Q i K a w:=by
  unfold wpOpIn at *;cases hi:ops.toArray[i]? with
  | none=>simpa [hi] using h
  | some o=>
    have hd:=noDefers_at hn (by simpa using hi);simp only [hi] at h ⊢
    split
    · rename_i hw;simp only [hw,if_true] at h;exact wp_round l hd h
    · rename_i hw;simp only [hw] at h;exact ⟨h.1,h.2⟩
theorem wpAny_round (l:Nat) {md:Region.Mode} {ops:List Oper} (hn:noDefers ops=true):∀ (fuel:Nat) (listed:Array Bool) (a:Act) (w:World),wpAnyIn F n P md ops.toArray Q fuel listed a w→wpAnyIn (F.inRound l) n P md ops.toArray Q fuel listed a w
  | 0,_,_,_,h=>h
  | fuel+1,_,_,_,h=>⟨h.1,fun i hi=>wpOp_round l hn (wpOpIn_mono (fun a w=>wpAny_round l hn fuel _ a w) (h.2 i hi))⟩
theorem region_round (l:Nat) {id:Nat} {a:Act} {w:World} {ops:List Oper} (hro:F.round=none) (hm:P.follows .mixedOrders=true) (hB:Region.lexB .any ops.toArray=true) (hn:noDefers ops=true)
    (h:wpQuietIn F n P ops.toArray (fun w'=>∃ n,w'=w.drewN n) (fun a'=>∀ w',(∃ n,w'=w.drewN n)→Q .normal a' w') ops a):(Code.region id ops.toArray true).wpIn (F.inRound l) n P Q a w:=by
  simp only [Region.lexB,Bool.and_eq_true] at hB;refine wpIn_region_any hm (wpAny_round l hn _ _ _ _ (wpAnyIn_of_quiet (Q:=fun a'=>∀ w',(∃ n,w'=w.drewN n)→Q .normal a' w') hro (fun _ w' hw' h=>h w' hw') _ _ _ _ ⟨1,rfl⟩ ?_));have:=wpAnyQIn_lex (F:=F) (n:=n) (C:=fun w'=>∃ n,w'=w.drewN n) (md:=.any) hB.1 ops 0 (Array.replicate ops.length false) a (by simp) (by simpa using hB.2) h;simpa using this
end
end Go.Proofs.YtdjgcenjonegjaaGreat
