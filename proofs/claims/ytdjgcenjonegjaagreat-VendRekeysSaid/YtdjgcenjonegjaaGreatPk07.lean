/- what Rekey answers · tariffs: what is wrong with one; the reference · steps: new memory for a list (made by wip/bin/gen_api.py) · tariff.Check · sameSteps: are two lists the same? (made by wip/bin/gen_api.py) -/
import Derived.Test.YtdjgcenjonegjaaGreatPk06
import Derived.Test.YtdjgcenjonegjaaGreatPk04
import Derived.Test.YtdjgcenjonegjaaGreatPk05
import Derived.Test.YtdjgcenjonegjaaGreatPk01
import Derived.Test.YtdjgcenjonegjaaGreatPk02
import Derived.Lib.ReflectliteSlice
import Derived.Laws.Externs
import Derived.BigCall
import Derived.BigGuard
set_option maxRecDepth 20000
set_option maxHeartbeats 8000000
set_option linter.unusedSimpArgs false
set_option linter.unusedVariables false
namespace Go.Proofs.YtdjgcenjonegjaaGreat
section
open Go.RowKit

def rekeyE (x:AAcc) (xs:List ADebt):Int:=if accMay x xs then (if x.rev=15 then 24 else if x.next=1048576 then 20 else 0) else 5
def rekeyX (x:AAcc) (xs:List ADebt):AAcc:=if rekeyE x xs=0 then ⟨x.meter,x.rev+1,x.next+1,x.month,x.bought,x.free⟩ else ⟨0,0,0,0,0,0⟩
def rekeyL (x:AAcc) (xs:List ADebt):List ADebt:=if rekeyE x xs=0 then xs else []
def rekeyB (x:AAcc) (xs:List ADebt):ABill:=if rekeyE x xs=0 then ⟨x.next,0,0,0,0,0,0⟩ else ⟨0,0,0,0,0,0,0⟩
theorem rekey_err {x:AAcc} {xs:List ADebt} (k:Int) (h:rekeyE x xs=k) (hk:k≠0):rekeyX x xs=⟨0,0,0,0,0,0⟩∧rekeyL x xs=[]∧rekeyB x xs=⟨0,0,0,0,0,0,0⟩∧rekeyE x xs=k:=by simp [rekeyX,rekeyL,rekeyB,h,hk]
theorem rekey_ok {x:AAcc} {xs:List ADebt} (h:rekeyE x xs=0):rekeyX x xs=⟨x.meter,x.rev+1,x.next+1,x.month,x.bought,x.free⟩∧rekeyL x xs=xs∧rekeyB x xs=⟨x.next,0,0,0,0,0,0⟩∧rekeyE x xs=0:=by simp [rekeyX,rekeyL,rekeyB,h]
theorem accMay_bd {x:AAcc} {xs:List ADebt} (h:accMay x xs=true):0≤x.meter∧x.meter≤49∧0≤x.rev∧x.rev≤15∧1≤x.next∧x.next≤1048576∧0≤x.month∧x.month≤2399∧0≤x.bought∧x.bought≤10000000∧-1≤x.free∧x.free≤x.month:=by
  simp only [accMay,Bool.and_eq_true,inB_true] at h;omega
end
section
open Go.RowKit

def okStep (d:AStep):Bool:=inB d.upto 1 10000000&&inB d.price 1 100000
theorem okStep_true {d:AStep}:okStep d=true↔1≤d.upto∧d.upto≤10000000∧1≤d.price∧d.price≤100000:=by simp [okStep,inB,and_assoc]
theorem okStep_false {d:AStep}:okStep d=false↔d.upto < 1∨1≤d.upto∧(10000000 < d.upto∨d.upto≤10000000∧(d.price < 1∨1≤d.price∧100000 < d.price)):=by
  rw [← Bool.not_eq_true,okStep_true];omega
/-- each step ends behind the one ahead of it -/
def rises (xs:List AStep):Bool:=(List.range (xs.length-1)).all fun j=>decide ((xs.getD j default).upto < (xs.getD (j+1) default).upto)
theorem rises_true {xs:List AStep} (h:∀ j,j+1 < xs.length→(xs.getD j default).upto < (xs.getD (j+1) default).upto):rises xs=true:=by
  simp only [rises,List.all_eq_true,List.mem_range,decide_eq_true_eq];exact fun j hj=>h j (by omega)
theorem rises_false {xs:List AStep} {j:Nat} (hj:j+1 < xs.length) (h:¬ (xs.getD j default).upto < (xs.getD (j+1) default).upto):rises xs=false:=by
  rw [← Bool.not_eq_true];intro hr;simp only [rises,List.all_eq_true,List.mem_range,decide_eq_true_eq] at hr;exact h (hr j (by omega))
theorem rises_at {xs:List AStep} (h:rises xs=true) {j:Nat} (hj:j+1 < xs.length):(xs.getD j default).upto < (xs.getD (j+1) default).upto:=by
  simp only [rises,List.all_eq_true,List.mem_range,decide_eq_true_eq] at h;exact h j (by omega)
def lastU (xs:List AStep):Int:=(xs.getD (xs.length-1) default).upto
def tariffE (xs:List AStep):Int:=
  if inB (xs.length:Int) 1 8 then (if xs.all okStep then (if rises xs then (if lastU xs=10000000 then 0 else 3) else 3) else 2) else 1
theorem okStepAt {xs:List AStep} (h:xs.all okStep=true) {k:Nat} (hk:k < xs.length):okStep (xs.getD k default)=true:=by
  rw [List.getD_eq_getElem?_getD,List.getElem?_eq_getElem hk];exact List.all_eq_true.1 h _ (List.getElem_mem hk)
theorem tariffE_zero {xs : List AStep} (h : tariffE xs = 0) : 1 ≤ xs.length ∧ xs.length ≤ 8 ∧ xs.all okStep = true ∧ rises xs = true ∧ lastU xs = 10000000 := by
  unfold tariffE at h
  split at h
  · rename_i h1
    obtain ⟨a,b⟩:=inB_true.1 h1
    split at h
    · split at h
      · split at h
        · exact ⟨by omega,by omega,by assumption,by assumption,by assumption⟩
        · omega
      · omega
    · omega
  · omega

theorem TariffFault_any (v : Value) (xs : List AStep) (w : World) (h : Sl w v 2 xs.length (xs.flatMap AStep.cells)) :
    Calls Tryz.prog 112 #[v] w (Grew (I (tariffE xs)) w):=by
  obtain ⟨a,cap,rfl,hn,hl,h0,h⟩:=h;clear hl h0;cases hi:inB (xs.length:Int) 1 8
  · have hE:tariffE xs=1:=by simp [tariffE,hi]
    rw [hE];clear hE h;go_enter Tryz.func112,Tryz.ntmps112
    go_wp2_with (go_at_call 57;refine (In_any _ _ _ _).mono ?_;rintro e w' ⟨rfl,rfl⟩)
    go_ret;exact Grew.intro rfl (Below.refl _ _)
  · obtain ⟨l0, l1⟩ := inB_true.1 hi
    obtain ⟨b,off,rfl,hb,hc⟩:=h.resolve_left (by omega);have HE:=Lib.hid (show tariffE xs=if xs.all okStep then (if rises xs then (if lastU xs=10000000 then 0 else 3) else 3) else 2 by simp only [tariffE,hi,if_true]);have HC:=Lib.hid hc;clear h hc;go_enter Tryz.func112,Tryz.ntmps112
    go_wp2_with (go_at_call 57;refine (In_any _ _ _ _).mono ?_;rintro e w' ⟨rfl,rfl⟩)
    go_loop [3] (fun i=>∃ k:Nat,k≤xs.length∧i=I k∧Hid ((xs.take k).all okStep=true)) (fun i=>xs.length-(intOf i).toNat)
    case atStart=>exact ⟨0,Nat.zero_le _,rfl,rfl⟩
    case round=>
      obtain ⟨k,hk,rfl,hall⟩:=hrel
      by_cases hlt:k < xs.length
      · obtain ⟨e0,e1⟩:=elStep hb HC.out (Below.refl _ _) k hlt
        have hi0:(0:Int)≤(k:Int):=by omega
        have hi1:(k:Int) < (xs.length:Int):=by omega
        have hgood:=Lib.hid (fun hp=>all_take_succ (p:=okStep) hlt hall.out hp);have hbad:=Lib.hid (fun hp=>all_false_at (p:=okStep) hlt hp);generalize xs.getD k default=x at *;cases p1:inB x.upto 1 10000000
        · have hA:=Lib.hid (hbad.out (by simp [okStep,p1]))
          clear hgood hbad
          go_wp2_with (go_at_call 57;refine (In_any _ _ _ _).mono ?_;rintro e w' ⟨rfl,rfl⟩)
          go_ret;exact Grew.intro (eI (by rw [HE.out,hA.out];rfl)) (Below.refl _ _)
        · cases p2:inB x.price 1 100000
          · have hA:=Lib.hid (hbad.out (by simp [okStep,p1,p2]))
            clear hgood hbad
            go_wp2_with (go_at_call 57;refine (In_any _ _ _ _).mono ?_;rintro e w' ⟨rfl,rfl⟩)
            go_ret;exact Grew.intro (eI (by rw [HE.out,hA.out];rfl)) (Below.refl _ _)
          · have hA:=Lib.hid (hgood.out (by simp [okStep,p1,p2]))
            clear hgood hbad
            go_wp2_with (go_at_call 57;refine (In_any _ _ _ _).mono ?_;rintro e w' ⟨rfl,rfl⟩)
            go_round
            case rel=>exact ⟨k+1,by omega,by go_num,hA.out⟩
            case measure=>simp [intOf];omega
      · have hA:=Lib.hid (show xs.all okStep=true by have:=hall.out;rwa [List.take_of_length_le (by omega)] at this)
        clear hall;have hge:(xs.length:Int)≤(k:Int):=by omega
        rw [hA.out,if_pos rfl] at HE;clear hA hk;go_wp2
        go_loopw [4] (fun i wr=>∃ k:Nat,1≤k∧k≤xs.length∧i=I k∧Hid (∀ j,j+1 < k→(xs.getD j default).upto < (xs.getD (j+1) default).upto)∧∃ q,wr=w.drewN q) (fun i _=>xs.length-(intOf i).toNat)
        case atStart=>exact ⟨1,Nat.le_refl _,by omega,rfl,(fun j hj=>by omega),0,rfl⟩
        case round=>
          obtain ⟨k,hk1,hk,rfl,hall,q,rfl⟩:=hrel
          by_cases hlt:k < xs.length
          · obtain ⟨e0,e1⟩:=elStep hb HC.out (Below.refl _ _) k hlt
            obtain ⟨k,rfl⟩:∃ k',k=k'+1:=⟨k-1,by omega⟩;obtain ⟨d0,d1⟩:=elStep hb HC.out (Below.refl _ _) k (by omega);have hi0:(0:Int)≤((k+1:Nat):Int):=by omega
            have hi1:((k+1:Nat):Int) < (xs.length:Int):=by omega
            have hto:(((k+1:Nat):Int)-1).toNat=k:=by omega
            have hto2:(((k+1:Nat):Int)).toNat=k+1:=by omega
            have hgood:=Lib.hid (show (xs.getD k default).upto < (xs.getD (k+1) default).upto→∀ j,j+1 < k+1+1→(xs.getD j default).upto < (xs.getD (j+1) default).upto from fun h j hj=>by
              by_cases hjk:j=k
              · rw [hjk];exact h
              · exact hall.out j (by omega))
            have hbad:=Lib.hid (fun h=>rises_false (xs:=xs) (j:=k) hlt h);have hj0:(0:Int)≤((k+1:Nat):Int)-1:=by omega
            have hj1:((k+1:Nat):Int)-1 < (xs.length:Int):=by omega
            have hkk:((k+1:Nat):Int)+1=((k+1+1:Nat):Int):=by omega
            have Hkk:=Lib.hid hkk;clear hall hkk;generalize xs.getD (k+1) default=x at *;generalize xs.getD k default=y at *;generalize hK:((k+1:Nat):Int)=K at *
            by_cases hq:x.upto≤y.upto
            · have hA:=Lib.hid (hbad.out (by omega))
              clear hgood hbad;go_wp2
              go_quiet (fail)
              go_wp2;go_ret;exact Grew.intro (eI (by rw [HE.out,hA.out];rfl)) below_auto
            · have hA:=Lib.hid (hgood.out (by omega))
              clear hgood hbad;go_wp2
              go_quiet (fail)
              go_wp2;exact ⟨⟨k+1+1,by omega,by omega,eI Hkk.out,hA,_,rfl⟩,by simp [intOf];omega⟩
          · have hA:=Lib.hid (rises_true (xs:=xs) (fun j hj=>hall.out j (by omega)))
            have hkl:k=xs.length:=by omega
            have hge:(xs.length:Int)≤(k:Int):=by omega
            rw [hA.out,if_pos rfl] at HE;obtain ⟨e0,e1⟩:=elStep hb HC.out (Below.refl _ _) (xs.length-1) (by omega);have hL:=Lib.hid (show lastU xs=(xs.getD (xs.length-1) default).upto from rfl);have hto:((xs.length:Int)-1).toNat=xs.length-1:=by omega
            have hj0:(0:Int)≤(xs.length:Int)-1:=by omega
            have hj1:(xs.length:Int)-1 < (xs.length:Int):=by omega
            clear hall hA hkl;generalize xs.getD (xs.length-1) default=x at *;rw [hL.out] at HE
            by_cases hq:x.upto=10000000
            · rw [if_pos hq] at HE
              have hq2:(x.upto != 10000000)=false:=by simp [hq]
              clear hq;go_wp2;go_ret;exact Grew.intro (eI HE.out.symm) below_auto
            · rw [if_neg hq] at HE
              have hq2:(x.upto != 10000000)=true:=by simp [hq]
              clear hq;go_wp2;go_ret;exact Grew.intro (eI HE.out.symm) below_auto
end
section
open Go.RowKit

theorem info_steps:(Tryz.prog.info? 244).map (fun i=>(i.zero,i.size,i.bytes))=some (some (.agg #[.int .i64 0,.int .i64 0]),2,16):=by kernel_rfl

end
section
open Go.RowKit

theorem descSteps:∃ i,Tryz.prog.info? 22=some i∧i.desc=.slice 244:=by
  have h:(Tryz.prog.info? 22).map (·.desc)=some (.slice 244):=by kernel_rfl
  cases hi:Tryz.prog.info? 22 with
  | none=>rw [hi] at h;cases h
  | some i=>rw [hi] at h;exact ⟨i,rfl,by simpa using h⟩
theorem packSteps:Tryz.prog.packed 22=false:=by kernel_rfl

/-- the closure: does step i end no later than step j? -/
theorem Check1_any (v:Value) (xs:List AStep) (g i j:Nat) (w:World) (h:Sl w v 2 xs.length (xs.flatMap AStep.cells)) (hc:w.cell? ⟨g,0,none⟩=some v) (hi:i < xs.length) (hj:j < xs.length):
    Calls Tryz.prog 157 #[I i,I j,.pointer (some ⟨g,0,none⟩)] w (Grew (.bool (decide ((xs.getD i default).upto≤(xs.getD j default).upto))) w):=by
  obtain ⟨a,cap,rfl,hn,hl,h0,hr⟩:=h;obtain ⟨b,off,rfl,hb,hcl⟩:=hr.resolve_left (by omega);obtain ⟨e0,-⟩:=elStep hb hcl (Below.refl _ _) i hi;obtain ⟨d0,-⟩:=elStep hb hcl (Below.refl _ _) j hj;have i0:(0:Int)≤(i:Int):=by omega
  have i1:(i:Int) < (xs.length:Int):=by omega
  have j0:(0:Int)≤(j:Int):=by omega
  have j1:(j:Int) < (xs.length:Int):=by omega
  clear hl h0 hr hcl hi hj;generalize xs.getD i default=x at *;generalize xs.getD j default=y at *;go_enter Tryz.func157,Tryz.ntmps157;go_wp2
  go_quiet (fail)
  go_wp2;go_ret;exact Grew.intro rfl below_auto

/-- sort.SliceIsSorted with that closure: does each step end behind the one ahead of it? -/
theorem SliceIsSorted_any (v : Value) (xs : List AStep) (g : Nat) (w : World) (h : Sl w v 2 xs.length (xs.flatMap AStep.cells)) (hg : g < w.heap.size) (hc : w.cell? ⟨g, 0, none⟩ = some v) (hpos : 0 < xs.length) (h8 : xs.length ≤ 8) :
    Calls Tryz.prog 156 #[.iface 22 v,.func (.func 157) #[] #[.pointer (some ⟨g,0,none⟩)]] w (Grew (.bool (rises xs)) w):=by
  obtain ⟨i,hi,hd⟩:=descSteps;have C:=Lib.hid (fun i j W hW hc hi hj=>Check1_any v xs g i j W hW hc hi hj);have HS:=Lib.hid h;obtain ⟨a,cap,rfl,hn,hl,h0,hr⟩:=h;clear hl h0 hr;have hv:=Go.Lib.run_valueOf_slice (P:=Tryz.prog) 22 244 i hi hd a xs.length cap;have hlen:=fun ad w ha=>Go.Lib.run_valueLen_slice (P:=Tryz.prog) 22 244 i hi hd packSteps ad a xs.length cap w ha;simp only [typeHandle] at hv hlen;generalize Tryz.prog.globals.size=G at hv hlen;have HV:=Lib.hid hv;have HL:=Lib.hid hlen;clear hv hlen;go_enter Tryz.func156,Tryz.ntmps156;go_wp2
  rw [run_callFunc_extern Tryz.func166 (by kernel_rfl) (by kernel_rfl) (by kernel_rfl) (e:=fun args=>Extern.ReflectliteValue.unpack (args.getD 0 (.tuple #[]))) (by kernel_rfl),
    show Sem.run Tryz.prog ((fun args:Array Value=>Extern.ReflectliteValue.unpack (args.getD 0 (.tuple #[]))) #[.iface 22 (.slice a xs.length cap)]) w=_ from HV.out w]
  simp only [Result.andThen];rw [Oper.upon_value];go_wp2
  rw [run_callFunc_extern Tryz.func167 (by kernel_rfl) (by kernel_rfl) (by kernel_rfl) (e := Extern.ReflectliteValue.method (Extern.ReflectliteValue.valueError "reflectlite.Value.Len" 0) Extern.ReflectliteValue.len) (by kernel_rfl),
    HL.out _ _ (by simp)]
  simp only [Result.andThen];rw [Oper.upon_value];go_wp2;have k0:Below w.heap.size w ((w.alloc (.cells #[.slice a xs.length cap] 22)).alloc (.cells #[.pointer (some ⟨G,22,none⟩),.pointer (some ⟨w.heap.size,0,none⟩),.int .u64 151] 260)):=(boxed_below w _).alloc (boxed_below w _).size _
  go_loopw [7] (fun i wr=>∃ k:Nat,k < xs.length∧i=I k∧Hid (∀ j,k≤j→j+1 < xs.length→(xs.getD j default).upto < (xs.getD (j+1) default).upto)∧Below w.heap.size w wr) (fun i _=>(intOf i).toNat)
  case atStart=>exact ⟨xs.length-1,by omega,by congr 1<;>omega,(fun j h1 h2=>by omega),k0⟩
  case round=>
    clear k0;obtain ⟨k,hk,rfl,hall,hb⟩:=hrel;cases k with
    | zero=>
      have hT:=Lib.hid (rises_true (xs:=xs) (fun j hj=>hall.out j (Nat.zero_le _) hj));clear hall;go_wp2;go_ret;exact Grew.intro (eB hT.out.symm) hb
    | succ k=>
      have hw:=HS.out.below hb;have hcg:=(hb.cell (p:=⟨g,0,none⟩) hg).trans hc;have CC:=Lib.hid (C.out (k+1) k _ hw hcg hk (by omega));have hF:=Lib.hid (fun h=>rises_false (xs:=xs) (j:=k) hk h)
      have hN:=Lib.hid (show (xs.getD k default).upto < (xs.getD (k+1) default).upto→∀ j,k≤j→j+1 < xs.length→(xs.getD j default).upto < (xs.getD (j+1) default).upto from fun h j hj hl=>by
        by_cases e:j=k
        · rw [e];exact h
        · exact hall.out j (by omega) hl)
      have hp0:(0:Int) < ((k+1:Nat):Int):=by omega
      have hKJ:((k+1:Nat):Int)-1=(k:Int):=by omega
      clear hall hw;generalize xs.getD (k+1) default=x at *;generalize xs.getD k default=y at *;generalize hK:((k+1:Nat):Int)=K at *;have HK:=Lib.hid hK;clear hK
      by_cases hq:x.upto≤y.upto
      · have hA:=Lib.hid (hF.out (by omega))
        rw [decide_eq_true hq] at CC;clear hF hN hq
        go_wp2_with fail
        refine CC.out.mono ?_;rintro e w1 ⟨rfl,k1⟩;have kk:=hb.trans (k1.mono hb.size);clear k1 hcg;go_wp2;go_ret;exact Grew.intro (eB hA.out.symm) kk
      · have hA:=Lib.hid (hN.out (by omega))
        rw [decide_eq_false hq] at CC;clear hF hN hq
        go_wp2_with fail
        refine CC.out.mono ?_;rintro e w1 ⟨rfl,k1⟩;have kk:=hb.trans (k1.mono hb.size);clear k1 hcg;go_wp2;exact ⟨⟨k,by omega,rfl,hA,kk⟩,by rw [← HK.out];simp [intOf];try omega⟩

theorem CheckT_any (v : Value) (xs : List AStep) (w : World) (h : Sl w v 2 xs.length (xs.flatMap AStep.cells)) :
    Calls Tryz.prog 122 #[v] w (Grew (I (tariffE xs)) w):=by
  have hS0:=h;have k0:=boxed_below w (.cells #[v] 22);have ob:=Own.new (w:=w) rfl [v] 22;obtain ⟨a,cap,rfl,hn,hl,h0,h⟩:=h;clear hl h0
  by_cases hl1:xs.length < 1
  · have hE:tariffE xs=1:=by
      have:inB (xs.length:Int) 1 8=false:=by rw [inB_false];omega
      simp [tariffE,this]
    have HE:=Lib.hid hE;have t1:(xs.length:Int) < 1:=by omega
    clear hE h hS0 ob;go_enter Tryz.func122,Tryz.ntmps122;go_wp2;go_ret;exact Grew.intro (eI HE.out.symm) k0
  by_cases hl2:8 < xs.length
  · have hE:tariffE xs=1:=by
      have:inB (xs.length:Int) 1 8=false:=by rw [inB_false];omega
      simp [tariffE,this]
    have HE:=Lib.hid hE;have t1:¬ (xs.length:Int) < 1:=by omega
    have t2:(8:Int) < (xs.length:Int):=by omega
    clear hE h hS0 ob;go_enter Tryz.func122,Tryz.ntmps122;go_wp2;go_ret;exact Grew.intro (eI HE.out.symm) k0
  have hi:inB (xs.length:Int) 1 8=true:=by rw [inB_true];omega
  have HE:=Lib.hid (show tariffE xs=if xs.all okStep then (if rises xs then (if lastU xs=10000000 then 0 else 3) else 3) else 2 by simp only [tariffE,hi,if_true]);have t1:¬ (xs.length:Int) < 1:=by omega
  have t2:¬ (8:Int) < (xs.length:Int):=by omega
  have S:=Lib.hid (fun W hW hg hc=>SliceIsSorted_any (.slice a xs.length cap) xs w.heap.size W hW hg hc (by omega) (by omega));obtain ⟨b,off,rfl,hbl,hcl⟩:=h.resolve_left (by omega);have HC:=Lib.hid hcl;have HS0:=Lib.hid hS0;have OB:=Lib.hid ob;clear h hcl hi hS0 ob;go_enter Tryz.func122,Tryz.ntmps122;go_wp2
  go_loopw [16] (fun i wr=>∃ k:Nat,k≤xs.length∧i=I k∧Hid ((xs.take k).all okStep=true)∧Own wr w.heap.size [.slice (some ⟨b,off,none⟩) xs.length cap]∧Below w.heap.size w wr) (fun i _=>xs.length-(intOf i).toNat)
  case atStart=>exact ⟨0,Nat.zero_le _,rfl,rfl,OB.out,k0⟩
  case round=>
    obtain ⟨k,hk,rfl,hall,hO,hbw⟩:=hrel;have hsz:=hbw.size
    by_cases hlt:k < xs.length
    · obtain ⟨e0,e1⟩:=elStep hbl HC.out hbw k hlt
      have hi0:(0:Int)≤(k:Int):=by omega
      have hi1:(k:Int) < (xs.length:Int):=by omega
      have hgood:=Lib.hid (fun hp=>all_take_succ (p:=okStep) hlt hall.out hp);have hbad:=Lib.hid (fun hp=>all_false_at (p:=okStep) hlt hp);generalize xs.getD k default=x at *;cases hq:okStep x
      · have hA:=Lib.hid (hbad.out hq)
        rcases okStep_false.1 hq with q | ⟨q0,q | ⟨q1,q | ⟨q2,q⟩⟩⟩
        all_goals
          clear hq hgood hbad;go_wp2;go_ret;exact Grew.intro (eI (by rw [HE.out,hA.out];rfl)) (hbw.alloc hsz _)
      · obtain ⟨q0,q1,q2,q3⟩:=okStep_true.1 hq
        have hA:=Lib.hid (hgood.out hq);clear hq hgood hbad;go_wp2;exact ⟨⟨k+1,by omega,by go_num,hA.out,hO.alloc _,hbw.alloc hsz _⟩,by simp [intOf];omega⟩
    · have hA:=Lib.hid (show xs.all okStep=true by have:=hall.out;rwa [List.take_of_length_le (by omega)] at this)
      rw [hA.out,if_pos rfl] at HE;have hge:(xs.length:Int)≤(k:Int):=by omega
      have hg:=hO.lt;have hc:=hO.cell 0 (by simp);simp only [Nat.zero_add,List.getD_cons_zero] at hc;have SS:=Lib.hid (S.out _ (HS0.out.below hbw) hg hc);obtain ⟨e0,e1⟩:=elStep hbl HC.out hbw (xs.length-1) (by omega);have hL:=Lib.hid (show lastU xs=(xs.getD (xs.length-1) default).upto from rfl);have hj0:(0:Int)≤(xs.length:Int)-1:=by omega
      have hj1:(xs.length:Int)-1 < (xs.length:Int):=by omega
      have hto:((xs.length:Int)-1).toNat=xs.length-1:=by omega
      clear hA hall S;generalize rises xs=rs at *;generalize xs.getD (xs.length-1) default=x at *;rw [hL.out] at HE;cases rs with
      | false=>
        rw [if_neg (by decide)] at HE
        go_wp2_with fail
        refine SS.out.mono ?_;rintro e w1 ⟨rfl,k1⟩;have kk:=hbw.trans (k1.mono hsz);clear e0 e1 hc hO k1 hbw SS;go_wp2;go_ret;exact Grew.intro (eI HE.out.symm) kk
      | true=>
        rw [if_pos rfl] at HE
        have hx:∃ t,(x.upto != 10000000)=t∧tariffE xs=if t then 3 else 0:=by
          refine ⟨_,rfl,?_⟩;rw [HE.out]
          by_cases h:x.upto=10000000<;>simp [h]
        obtain ⟨t,ht,hEt⟩:=hx;have HT:=Lib.hid hEt;clear hEt HE;cases t
        all_goals
          go_wp2_with fail
          refine SS.out.mono ?_;rintro e w1 ⟨rfl,k1⟩;have hc1:=(hO.below k1).cell 0 (by simp);simp only [Nat.zero_add,List.getD_cons_zero] at hc1;have f0:=(k1.cell (p:=⟨b,off+(xs.length-1)*2,none⟩) (Nat.lt_of_lt_of_le hbl hsz)).trans e0;have kk:=hbw.trans (k1.mono hsz);clear e0 e1 hc hO k1 hbw SS;go_wp2;go_ret;exact Grew.intro (eI (by rw [HT.out];rfl)) kk
end
section
open Go.RowKit

end
end Go.Proofs.YtdjgcenjonegjaaGreat
