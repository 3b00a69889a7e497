/- book.Find and its reference · the cells of one element of a list of structs (made by wip/bin/gen_api.py) · debts: faults and totals · values that lie nowhere below a bound · sameDebts: are two lists the same? (made by wip/bin/gen_api.py) · debts: new memory for a list (made by wip/bin/gen_api.py) -/
import Derived.Test.YtdjgcenjonegjaaGreatPk01
import Derived.Test.YtdjgcenjonegjaaGreatPk02
import Derived.Test.YtdjgcenjonegjaaGreatPk04
import Derived.Test.YtdjgcenjonegjaaGreatPk03
set_option maxRecDepth 20000
set_option maxHeartbeats 8000000
set_option linter.unusedSimpArgs false
set_option linter.unusedVariables false
namespace Go.Proofs.YtdjgcenjonegjaaGreat
section
open Go.RowKit

/-- a customer, the two lists as they lie -/
structure ACust where
  meter:Int
  rev:Int
  next:Int
  month:Int
  bought:Int
  free:Int
  da:Option Addr
  dn:Nat
  dc:Nat
  sa:Option Addr
  sn:Nat
  sc:Nat
  deriving Inhabited
def ACust.cells (x:ACust):List Value:=[I x.meter,I x.rev,I x.next,I x.month,I x.bought,I x.free,.slice x.da x.dn x.dc,.slice x.sa x.sn x.sc]
theorem ACust.cells_len (x:ACust):x.cells.length=8:=rfl
theorem elCust {w W:World} {b off:Nat} {xs:List ACust} (hb:b < w.heap.size) (hc:∀ j,j < (xs.flatMap ACust.cells).length→w.cell? ⟨b,off+j,none⟩=some ((xs.flatMap ACust.cells).getD j undef)) (hbw:Below w.heap.size w W) (k:Nat) (hk:k < xs.length):
    ∀ i,i < 8→W.cell? ⟨b,off+k*8+i,none⟩=some ((xs.getD k default).cells.getD i undef):=by
  intro i hi;have:=(hbw.cell (p:=⟨b,off+(k*8+i),none⟩) hb).trans (hc (k*8+i) (by rw [length_flat _ 8 ACust.cells_len];exact pos_lt hk hi));rw [getD_flat _ 8 ACust.cells_len _ _ _ hk hi] at this;rw [Nat.add_assoc];exact this

/-- where a meter is found first -/
def findI (me:Int):List Int→Nat→Int
  | [],_=>-1
  | x::xs,k=>if x=me then (k:Int) else findI me xs (k+1)
theorem findI_hit {me:Int}:∀ (l:List Int) (j k:Nat),k < l.length→(∀ q,q < k→l.getD q 0≠me)→l.getD k 0=me→findI me l j=((j+k:Nat):Int)
  | [],_,k,h,_,_=>by simp at h
  | x::xs,j,0,_,_,h=>by simp at h;simp [findI,h]
  | x::xs,j,k+1,hk,hno,h=>by
    have h0:x≠me:=by have:=hno 0 (by omega);simpa using this
    rw [findI,if_neg h0,findI_hit xs (j+1) k (by simpa using hk) (fun q hq=>by have:=hno (q+1) (by omega);simpa using this) (by simpa using h)]
    congr 1;omega
theorem findI_none {me:Int}:∀ (l:List Int) (j:Nat),(∀ q,q < l.length→l.getD q 0≠me)→findI me l j=-1
  | [],_,_=>rfl
  | x::xs,j,hno=>by
    have h0:x≠me:=by have:=hno 0 (by simp);simpa using this
    rw [findI,if_neg h0,findI_none xs (j+1) (fun q hq=>by have:=hno (q+1) (by simpa using hq);simpa using this)]
theorem findI_bd {me:Int}:∀ (l:List Int) (j:Nat),findI me l j=-1∨(0≤findI me l j∧findI me l j < ((j+l.length:Nat):Int))
  | [],_=>.inl rfl
  | x :: xs, j => by
    simp only [findI,List.length_cons]
    split
    · right;omega
    · rcases findI_bd (me:=me) xs (j+1) with h | h
      · exact .inl h
      · right;omega
def foundAt (xs:List ACust) (me:Int):Int:=findI me (xs.map ACust.meter) 0
theorem meter_at {xs:List ACust} {k:Nat} (hk:k < xs.length):(xs.map ACust.meter).getD k 0=(xs.getD k default).meter:=by
  rw [List.getD_eq_getElem?_getD,List.getD_eq_getElem?_getD,List.getElem?_map,List.getElem?_eq_getElem hk];rfl

/-- the closure: is it the meter? -/
theorem find1_any (x:ACust) (g:Nat) (me:Int) (w:World) (hg:g < w.heap.size) (hc:w.cell? ⟨g,0,none⟩=some (I me)):
    Calls Tryz.prog 82 #[.agg x.cells.toArray,.pointer (some ⟨g,0,none⟩)] w (Grew (.bool (x.meter==me)) w):=by
  obtain ⟨a,b,c,d,e,f,da,dn,dc,sa,sn,sc⟩:=x;have hne:¬ g=w.heap.size:=by omega
  have hk:=boxed_below w (.cells (ACust.mk a b c d e f da dn dc sa sn sc).cells.toArray 67);simp only [ACust.cells] at hk ⊢;go_enter Tryz.func82,Tryz.ntmps82;go_wp2;go_ret;exact Grew.intro rfl hk

theorem IndexCust_any (v : Value) (xs : List ACust) (g : Nat) (me : Int) (w : World) (h : Sl w v 8 xs.length (xs.flatMap ACust.cells)) (hg : g < w.heap.size) (hc : w.cell? ⟨g, 0, none⟩ = some (I me)) :
    Calls Tryz.prog 81 #[v,.func (.func 82) #[] #[.pointer (some ⟨g,0,none⟩)]] w (Grew (I (foundAt xs me)) w):=by
  obtain ⟨a,cap,rfl,hn,hl,h0,hr⟩:=h;clear hl h0;go_enter Tryz.func81,Tryz.ntmps81;go_wp2
  go_loopw [8] (fun i wr=>∃ k:Nat,k≤xs.length∧i=I k∧Hid (∀ q,q < k→(xs.map ACust.meter).getD q 0≠me)∧Below w.heap.size w wr) (fun i _=>xs.length-(intOf i).toNat)
  case atStart=>exact ⟨0,Nat.zero_le _,rfl,fun q hq=>by omega,Below.refl _ _⟩
  case round=>
    obtain ⟨k,hk,rfl,hno,hb⟩:=hrel;have hsz:=hb.size
    by_cases hlt:k < xs.length
    · obtain ⟨b,off,rfl,hbl,hcell⟩:=hr.resolve_left (by omega)
      have hel:=elCust hbl hcell hb k hlt;have e0:=hel 0 (by decide);have e1:=hel 1 (by decide);have e2:=hel 2 (by decide);have e3:=hel 3 (by decide);have e4:=hel 4 (by decide);have e5:=hel 5 (by decide);have e6:=hel 6 (by decide);have e7:=hel 7 (by decide);have hit:=Lib.hid (fun he=>findI_hit (me:=me) (xs.map ACust.meter) 0 k (by simpa using hlt) hno.out he)
      have hnx:=Lib.hid (show (xs.map ACust.meter).getD k 0≠me→∀ q,q < k+1→(xs.map ACust.meter).getD q 0≠me from fun hne q hq=>by
        by_cases hqk:q=k
        · rw [hqk];exact hne
        · exact hno.out q (by omega))
      rw [meter_at hlt] at hit hnx;have hi0:(0:Int)≤(k:Int):=by omega
      have hi1:(k:Int) < (xs.length:Int):=by omega
      have hcg:=(hb.cell (p:=⟨g,0,none⟩) hg).trans hc;clear hel hr hcell;generalize xs.getD k default=x at *;simp only [ACust.cells,List.getD_cons_zero,List.getD_cons_succ,Nat.add_zero] at e0 e1 e2 e3 e4 e5 e6 e7;have C:=Lib.hid (find1_any x g me wr (by omega) hcg)
      by_cases hm:x.meter=me
      · have hm2:(x.meter==me)=true:=by simp [hm]
        rw [hm2] at C;have HF:=Lib.hid (hit.out hm);clear hm hm2 hit hnx
        go_wp2_with (go_at_call 82;refine C.out.mono ?_;rintro e w' ⟨rfl,hb2⟩;have hb:=hb.trans (hb2.mono hsz))
        go_ret;exact Grew.intro (eI (by unfold foundAt;rw [HF.out];omega)) hb
      · have hm2:(x.meter==me)=false:=by simp [hm]
        rw [hm2] at C;have HN:=Lib.hid (hnx.out hm);clear hm hm2 hit hnx
        go_wp2_with (go_at_call 82;refine C.out.mono ?_;rintro e w' ⟨rfl,hb2⟩;have hb:=hb.trans (hb2.mono hsz))
        exact ⟨⟨k+1,by omega,by go_num,HN,hb⟩,by simp [intOf];omega⟩
    · have hge:(xs.length:Int)≤(k:Int):=by omega
      have HF:=Lib.hid (show foundAt xs me=-1 from findI_none _ 0 (fun q hq=>hno.out q (by simp at hq;omega)));clear hno hr;go_wp2;go_ret;exact Grew.intro (eI HF.out.symm) hb

def findA (xs:List ACust) (me:Int):Int:=if foundAt xs me < 0 then 0 else foundAt xs me
def findE (xs:List ACust) (me:Int):Int:=if foundAt xs me < 0 then 18 else 0
theorem Find_any (v:Value) (xs:List ACust) (me:Int) (w:World) (h:Sl w v 8 xs.length (xs.flatMap ACust.cells)):
    Calls Tryz.prog 41 #[.agg #[v],I me] w (Grew (T2 (I (findA xs me)) (I (findE xs me))) w):=by
  have h':=h;obtain ⟨a,cap,rfl,hn,hl,h0,hr⟩:=h;clear hl h0 hr hn;have hmf:∀ (fn:Fn) (first cap:Array Value) (w:World),(Instr.makeFunc fn first cap).run Tryz.prog w=.ok (.func fn first cap) w:=fun _ _ _ _=>rfl;have k0:=boxed_below w (.cells #[.slice a xs.length cap] 76);have k1:=k0.alloc k0.size (.cells #[I me] 3);have C:=Lib.hid (fun W hW hg hc=>IndexCust_any (.slice a xs.length cap) xs (w.heap.size+1) me W hW hg hc);have hS:=Lib.hid (h'.below k1);clear h';rcases Classical.em (foundAt xs me < 0) with hf | hf
  · have e1:findA xs me=0:=by simp [findA,hf]
    have e2:findE xs me=18:=by simp [findE,hf]
    rw [e1,e2];clear e1 e2;generalize foundAt xs me=f at *;go_enter Tryz.func41,Tryz.ntmps41
    go_wp2_with fail
    refine (C.out _ hS.out (by simp) (by simp)).mono ?_;rintro e w2 ⟨rfl,k2⟩;have k:=k1.trans (k2.mono k1.size);clear hS C k2;go_wp2;go_ret2;exact Grew.intro rfl k
  · have e1:findA xs me=foundAt xs me:=by simp [findA,hf]
    have e2:findE xs me=0:=by simp [findE,hf]
    rw [e1,e2];clear e1 e2;generalize foundAt xs me=f at *;go_enter Tryz.func41,Tryz.ntmps41
    go_wp2_with fail
    refine (C.out _ hS.out (by simp) (by simp)).mono ?_;rintro e w2 ⟨rfl,k2⟩;have k:=k1.trans (k2.mono k1.size);clear hS C k2;go_wp2;go_ret2;exact Grew.intro rfl k

theorem Found_any (v : Value) (xs : List ACust) (me : Int) (w : World) (h : Sl w v 8 xs.length (xs.flatMap ACust.cells)) :
    Calls Tryz.prog 24 #[.agg #[v],I me] w (Grew (I (foundAt xs me)) w):=by
  obtain ⟨a,cap,rfl,hn,hl,h0,hr⟩:=h;clear hl h0;have k0:=boxed_below w (.cells #[.slice a xs.length cap] 76);go_enter Tryz.func24,Tryz.ntmps24;go_wp2
  go_loop [5] (fun i=>∃ k:Nat,k≤xs.length∧i=I k∧Hid (∀ q,q < k→(xs.map ACust.meter).getD q 0≠me)) (fun i=>xs.length-(intOf i).toNat)
  case atStart=>exact ⟨0,Nat.zero_le _,rfl,fun q hq=>by omega⟩
  case round=>
    obtain ⟨k,hk,rfl,hno⟩:=hrel
    by_cases hlt:k < xs.length
    · obtain ⟨b,off,rfl,hbl,hcell⟩:=hr.resolve_left (by omega)
      have e0:=elCust hbl hcell k0 k hlt 0 (by decide);have hit:=Lib.hid (fun he=>findI_hit (me:=me) (xs.map ACust.meter) 0 k (by simpa using hlt) hno.out he)
      have hnx:=Lib.hid (show (xs.map ACust.meter).getD k 0≠me→∀ q,q < k+1→(xs.map ACust.meter).getD q 0≠me from fun hne q hq=>by
        by_cases hqk:q=k
        · rw [hqk];exact hne
        · exact hno.out q (by omega))
      rw [meter_at hlt] at hit hnx;have hi0:(0:Int)≤(k:Int):=by omega
      have hi1:(k:Int) < (xs.length:Int):=by omega
      clear hr hcell;generalize xs.getD k default=x at *;simp only [ACust.cells,List.getD_cons_zero,Nat.add_zero] at e0;generalize x.meter=xm at *
      by_cases hm:xm=me
      · have hm2:(xm==me)=true:=by simp [hm]
        have HF:=Lib.hid (hit.out hm);clear hm hit hnx;go_wp2;go_ret;exact Grew.intro (eI (by unfold foundAt;rw [HF.out];omega)) k0
      · have hm2:(xm==me)=false:=by simp [hm]
        have HN:=Lib.hid (hnx.out hm);clear hm hit hnx;go_wp2
        go_round
        case rel=>first | exact ⟨k+1,by omega,by go_num,HN⟩ | (refine ⟨rfl,?_⟩;(repeat apply Exists.intro);refine ⟨?_,rfl⟩;exact ⟨k+1,by omega,by go_num,HN⟩) | (refine ⟨trivial,?_⟩;(repeat apply Exists.intro);refine ⟨?_,rfl⟩;exact ⟨k+1,by omega,by go_num,HN⟩) | ((repeat apply Exists.intro);refine ⟨?_,rfl⟩;exact ⟨k+1,by omega,by go_num,HN⟩)
        case measure=>(simp [intOf];omega)
    · have hge:(xs.length:Int)≤(k:Int):=by omega
      have HF:=Lib.hid (show foundAt xs me=-1 from findI_none _ 0 (fun q hq=>hno.out q (by simp at hq;omega)));clear hno hr;go_wp2;go_ret;exact Grew.intro (eI HF.out.symm) k0
end
section
open Go.RowKit
theorem elWrite {w W:World} {b off:Nat} {xs:List AWrite} (hb:b < w.heap.size) (hc:∀ j,j < (xs.flatMap AWrite.cells).length→w.cell? ⟨b,off+j,none⟩=some ((xs.flatMap AWrite.cells).getD j undef)) (hbw:Below w.heap.size w W) (k:Nat) (hk:k < xs.length):
    W.cell? ⟨b,off+k*2,none⟩=some (I (xs.getD k default).at_)∧W.cell? ⟨b,off+k*2+1,none⟩=some (U32 (xs.getD k default).word):=by
  refine ⟨?_,?_⟩
  · have:=(hbw.cell (p:=⟨b,off+(k*2+0),none⟩) hb).trans (hc (k*2+0) (by rw [length_flat _ 2 AWrite.cells_len];exact pos_lt hk (by decide)))
    rw [getD_flat _ 2 AWrite.cells_len _ _ _ hk (by decide)] at this;simpa [← Nat.add_assoc,AWrite.cells] using this
  · have:=(hbw.cell (p:=⟨b,off+(k*2+1),none⟩) hb).trans (hc (k*2+1) (by rw [length_flat _ 2 AWrite.cells_len];exact pos_lt hk (by decide)))
    rw [getD_flat _ 2 AWrite.cells_len _ _ _ hk (by decide)] at this;simpa [← Nat.add_assoc,AWrite.cells] using this
theorem elStep {w W:World} {b off:Nat} {xs:List AStep} (hb:b < w.heap.size) (hc:∀ j,j < (xs.flatMap AStep.cells).length→w.cell? ⟨b,off+j,none⟩=some ((xs.flatMap AStep.cells).getD j undef)) (hbw:Below w.heap.size w W) (k:Nat) (hk:k < xs.length):
    W.cell? ⟨b,off+k*2,none⟩=some (I (xs.getD k default).upto)∧W.cell? ⟨b,off+k*2+1,none⟩=some (I (xs.getD k default).price):=by
  refine ⟨?_,?_⟩
  · have:=(hbw.cell (p:=⟨b,off+(k*2+0),none⟩) hb).trans (hc (k*2+0) (by rw [length_flat _ 2 AStep.cells_len];exact pos_lt hk (by decide)))
    rw [getD_flat _ 2 AStep.cells_len _ _ _ hk (by decide)] at this;simpa [← Nat.add_assoc,AStep.cells] using this
  · have:=(hbw.cell (p:=⟨b,off+(k*2+1),none⟩) hb).trans (hc (k*2+1) (by rw [length_flat _ 2 AStep.cells_len];exact pos_lt hk (by decide)))
    rw [getD_flat _ 2 AStep.cells_len _ _ _ hk (by decide)] at this;simpa [← Nat.add_assoc,AStep.cells] using this
theorem elDebt {w W:World} {b off:Nat} {xs:List ADebt} (hb:b < w.heap.size) (hc:∀ j,j < (xs.flatMap ADebt.cells).length→w.cell? ⟨b,off+j,none⟩=some ((xs.flatMap ADebt.cells).getD j undef)) (hbw:Below w.heap.size w W) (k:Nat) (hk:k < xs.length):
    W.cell? ⟨b,off+k*2,none⟩=some (I (xs.getD k default).owed)∧W.cell? ⟨b,off+k*2+1,none⟩=some (I (xs.getD k default).bp):=by
  refine ⟨?_,?_⟩
  · have:=(hbw.cell (p:=⟨b,off+(k*2+0),none⟩) hb).trans (hc (k*2+0) (by rw [length_flat _ 2 ADebt.cells_len];exact pos_lt hk (by decide)))
    rw [getD_flat _ 2 ADebt.cells_len _ _ _ hk (by decide)] at this;simpa [← Nat.add_assoc,ADebt.cells] using this
  · have:=(hbw.cell (p:=⟨b,off+(k*2+1),none⟩) hb).trans (hc (k*2+1) (by rw [length_flat _ 2 ADebt.cells_len];exact pos_lt hk (by decide)))
    rw [getD_flat _ 2 ADebt.cells_len _ _ _ hk (by decide)] at this;simpa [← Nat.add_assoc,ADebt.cells] using this
theorem elPair {w W:World} {b off:Nat} {xs:List APair} (hb:b < w.heap.size) (hc:∀ j,j < (xs.flatMap APair.cells).length→w.cell? ⟨b,off+j,none⟩=some ((xs.flatMap APair.cells).getD j undef)) (hbw:Below w.heap.size w W) (k:Nat) (hk:k < xs.length):
    W.cell? ⟨b,off+k*4,none⟩=some (I (xs.getD k default).meter)∧W.cell? ⟨b,off+k*4+1,none⟩=some (I (xs.getD k default).rev)∧W.cell? ⟨b,off+k*4+2,none⟩=some (I (xs.getD k default).body)∧W.cell? ⟨b,off+k*4+3,none⟩=some (I (xs.getD k default).tag):=by
  refine ⟨?_,?_,?_,?_⟩
  · have:=(hbw.cell (p:=⟨b,off+(k*4+0),none⟩) hb).trans (hc (k*4+0) (by rw [length_flat _ 4 APair.cells_len];exact pos_lt hk (by decide)))
    rw [getD_flat _ 4 APair.cells_len _ _ _ hk (by decide)] at this;simpa [← Nat.add_assoc,APair.cells] using this
  · have:=(hbw.cell (p:=⟨b,off+(k*4+1),none⟩) hb).trans (hc (k*4+1) (by rw [length_flat _ 4 APair.cells_len];exact pos_lt hk (by decide)))
    rw [getD_flat _ 4 APair.cells_len _ _ _ hk (by decide)] at this;simpa [← Nat.add_assoc,APair.cells] using this
  · have:=(hbw.cell (p:=⟨b,off+(k*4+2),none⟩) hb).trans (hc (k*4+2) (by rw [length_flat _ 4 APair.cells_len];exact pos_lt hk (by decide)))
    rw [getD_flat _ 4 APair.cells_len _ _ _ hk (by decide)] at this;simpa [← Nat.add_assoc,APair.cells] using this
  · have:=(hbw.cell (p:=⟨b,off+(k*4+3),none⟩) hb).trans (hc (k*4+3) (by rw [length_flat _ 4 APair.cells_len];exact pos_lt hk (by decide)))
    rw [getD_flat _ 4 APair.cells_len _ _ _ hk (by decide)] at this;simpa [← Nat.add_assoc,APair.cells] using this
end
section
open Go.RowKit

def okDebt (d:ADebt):Bool:=inB d.owed 0 1000000000&&inB d.bp 0 10000
def debtE (xs:List ADebt):Int:=if 8 < xs.length then 1 else if xs.all okDebt then 0 else 2
theorem all_take_succ {α:Type} [Inhabited α] {p:α→Bool} {xs:List α} {k:Nat} (hk:k < xs.length) (h:(xs.take k).all p=true) (hp:p (xs.getD k default)=true):(xs.take (k+1)).all p=true:=by
  rw [List.take_add_one,List.all_append,h,List.getElem?_eq_getElem hk];simpa [List.getD_eq_getElem?_getD,List.getElem?_eq_getElem hk] using hp
theorem all_false_at {α:Type} [Inhabited α] {p:α→Bool} {xs:List α} {k:Nat} (hk:k < xs.length) (hp:p (xs.getD k default)=false):xs.all p=false:=by
  rw [List.all_eq_false];refine ⟨xs[k],List.getElem_mem hk,?_⟩;simpa [List.getD_eq_getElem?_getD,List.getElem?_eq_getElem hk] using hp
theorem okDebt_true {d:ADebt}:okDebt d=true↔0≤d.owed∧d.owed≤1000000000∧0≤d.bp∧d.bp≤10000:=by simp [okDebt,inB,and_assoc]
theorem okDebt_false {d:ADebt}:okDebt d=false↔d.owed < 0∨0≤d.owed∧(1000000000 < d.owed∨d.owed≤1000000000∧(d.bp < 0∨0≤d.bp∧10000 < d.bp)):=by
  rw [← Bool.not_eq_true,okDebt_true];omega

theorem fault_any (v : Value) (xs : List ADebt) (w : World) (h : Sl w v 2 xs.length (xs.flatMap ADebt.cells)) :
    Calls Tryz.prog 149 #[v] w (Grew (I (debtE xs)) w):=by
  obtain ⟨a,cap,rfl,hn,hl,h0,h⟩:=h
  by_cases h8:8 < xs.length
  · have hE:debtE xs=1:=by simp [debtE,h8]
    have h8':(8:Int) < (xs.length:Int):=by omega
    rw [hE];clear hE h h0 hl;go_enter Tryz.func149,Tryz.ntmps149;go_wp2;go_ret;exact Grew.intro rfl (Below.refl _ _)
  · have h8':¬ (8:Int) < (xs.length:Int):=by omega
    have hE:debtE xs=if xs.all okDebt then 0 else 2:=by simp only [debtE,if_neg h8]
    have HE:=Lib.hid hE;clear hE h0 hl;go_enter Tryz.func149,Tryz.ntmps149;go_wp2
    go_loopw [10] (fun i wr=>∃ k:Nat,k≤xs.length∧i=I k∧Hid ((xs.take k).all okDebt=true)∧Below w.heap.size w wr) (fun i _=>xs.length-(intOf i).toNat)
    case atStart=>exact ⟨0,Nat.zero_le _,rfl,rfl,Below.refl _ _⟩
    case round=>
      obtain ⟨k,hk,rfl,hall,hbw⟩:=hrel;have hsz:=hbw.size
      by_cases hlt:k < xs.length
      · obtain ⟨b,off,rfl,hb,hc⟩:=h.resolve_left (by omega)
        obtain ⟨e0,e1⟩:=elDebt hb hc hbw k hlt;have hi0:(0:Int)≤(k:Int):=by omega
        have hi1:(k:Int) < (xs.length:Int):=by omega
        have hgood:=Lib.hid (fun hp=>all_take_succ (p:=okDebt) hlt hall.out hp);have hbad:=Lib.hid (fun hp=>all_false_at (p:=okDebt) hlt hp);clear h hc;generalize xs.getD k default=x at *;cases hq:okDebt x
        · have hA:=Lib.hid (hbad.out hq)
          rcases okDebt_false.1 hq with q | ⟨q0,q | ⟨q1,q | ⟨q2,q⟩⟩⟩
          all_goals
            clear hq hgood hbad;go_wp2;go_ret;exact Grew.intro (eI (by rw [HE.out,hA.out];rfl)) (hbw.alloc hsz _)
        · obtain ⟨q0,q1,q2,q3⟩:=okDebt_true.1 hq
          have hA:=Lib.hid (hgood.out hq);clear hq hgood hbad;go_wp2;exact ⟨⟨k+1,by omega,by go_num,hA.out,hbw.alloc hsz _⟩,by simp [intOf];omega⟩
      · have hA:=Lib.hid (show xs.all okDebt=true by have:=hall.out;rwa [List.take_of_length_le (by omega)] at this)
        clear hall h;have hge:(xs.length:Int)≤(k:Int):=by omega
        go_wp2;go_ret;exact Grew.intro (eI (by rw [HE.out,hA.out];rfl)) hbw

def sumTo (xs:List ADebt) (k:Nat):Int:=((xs.take k).map (·.owed)).sum
def debtSum (xs:List ADebt):Int:=(xs.map (·.owed)).sum
def totalA (xs:List ADebt):Int:=if debtE xs=0 then debtSum xs else 0
theorem sumTo_succ {xs:List ADebt} {k:Nat} (hk:k < xs.length):sumTo xs (k+1)=sumTo xs k+(xs.getD k default).owed:=by
  unfold sumTo;rw [List.take_add_one,List.map_append,List.sum_append,List.getElem?_eq_getElem hk,List.getD_eq_getElem?_getD,List.getElem?_eq_getElem hk];simp
theorem okAt {xs:List ADebt} (h:xs.all okDebt=true) {k:Nat} (hk:k < xs.length):okDebt (xs.getD k default)=true:=by
  rw [List.getD_eq_getElem?_getD,List.getElem?_eq_getElem hk];exact List.all_eq_true.1 h _ (List.getElem_mem hk)
theorem sumTo_bd {xs:List ADebt} (h:xs.all okDebt=true) (k:Nat) (hk:k≤xs.length):0≤sumTo xs k∧sumTo xs k≤1000000000*(k:Int):=by
  induction k with
  | zero=>simp [sumTo]
  | succ k ih=>
    have:=ih (by omega);have o:=okDebt_true.1 (okAt h (show k < xs.length by omega));rw [sumTo_succ (by omega)];omega
theorem sumTo_all (xs:List ADebt):sumTo xs xs.length=debtSum xs:=by simp [sumTo,debtSum]
theorem debtE_zero {xs:List ADebt} (h:debtE xs=0):xs.length≤8∧xs.all okDebt=true:=by
  unfold debtE at h
  split at h
  · cases h
  · split at h
    · exact ⟨by omega,by assumption⟩
    · cases h

theorem total_any (v:Value) (xs:List ADebt) (w:World) (h:Sl w v 2 xs.length (xs.flatMap ADebt.cells)) (h8:xs.length≤8) (hok:xs.all okDebt=true):
    Calls Tryz.prog 150 #[v] w (Grew (I (debtSum xs)) w):=by
  have Hok:=Lib.hid hok;clear hok;obtain ⟨a,cap,rfl,hn,hl,h0,h⟩:=h;clear hl h0;go_enter Tryz.func150,Tryz.ntmps150;go_wp2
  go_loopw [3,8] (fun n i wr=>∃ k:Nat,k≤xs.length∧i=I k∧n=I (sumTo xs k)∧Below w.heap.size w wr) (fun _ i _=>xs.length-(intOf i).toNat)
  case atStart=>exact ⟨0,Nat.zero_le _,rfl,rfl,Below.refl _ _⟩
  case round=>
    obtain ⟨k,hk,rfl,rfl,hbw⟩:=hrel;have hsz:=hbw.size;obtain ⟨s0,s1⟩:=sumTo_bd Hok.out k hk
    by_cases hlt:k < xs.length
    · obtain ⟨b,off,rfl,hb,hc⟩:=h.resolve_left (by omega)
      obtain ⟨e0,e1⟩:=elDebt hb hc hbw k hlt;obtain ⟨q0,q1,q2,q3⟩:=okDebt_true.1 (okAt Hok.out hlt);have hs:=Lib.hid (sumTo_succ hlt);have hi0:(0:Int)≤(k:Int):=by omega
      have hi1:(k:Int) < (xs.length:Int):=by omega
      clear h hc;generalize xs.getD k default=x at *;go_wp2;exact ⟨⟨k+1,by omega,by go_num,eI (by rw [hs.out]),hbw.alloc hsz _⟩,by simp [intOf];omega⟩
    · have hA:=Lib.hid (show sumTo xs k=debtSum xs by rw [show k=xs.length by omega];exact sumTo_all xs)
      have hge:(xs.length:Int)≤(k:Int):=by omega
      clear h;go_wp2;go_ret;exact Grew.intro (eI hA.out) hbw

theorem Total_any (v:Value) (xs:List ADebt) (w:World) (h:Sl w v 2 xs.length (xs.flatMap ADebt.cells)):
    Calls Tryz.prog 109 #[v] w (Grew (T2 (I (totalA xs)) (I (debtE xs))) w):=by
  by_cases hE:debtE xs=0
  · obtain ⟨h8,hok⟩:=debtE_zero hE
    have hA:totalA xs=debtSum xs:=by simp [totalA,hE]
    have C:=Lib.hid (fun W (hW:Sl W v 2 xs.length (xs.flatMap ADebt.cells))=>total_any v xs W hW h8 hok);have F:=Lib.hid (fun W (hW:Sl W v 2 xs.length (xs.flatMap ADebt.cells))=>fault_any v xs W hW);rw [hE] at F ⊢;rw [hA];clear hA hE h8 hok;go_enter Tryz.func109,Tryz.ntmps109
    go_wp2_with fail
    refine (F.out _ h).mono ?_;rintro e w1 ⟨rfl,k1⟩;have h1:=h.below k1
    go_wp2_with fail
    refine (C.out _ h1).mono ?_;rintro e w2 ⟨rfl,k2⟩;go_wp2;go_ret2;exact Grew.intro rfl (k1.trans (k2.mono k1.size))
  · have hA:totalA xs=0:=by simp [totalA,hE]
    have hb:(debtE xs != 0)=true:=by simp [hE]
    rw [hA];clear hA hE;go_enter Tryz.func109,Tryz.ntmps109
    go_wp2_with fail
    refine (fault_any v xs _ h).mono ?_;rintro e w1 ⟨rfl,k1⟩;go_wp2;go_ret2;exact Grew.intro rfl k1

theorem DebtFault_any (v : Value) (xs : List ADebt) (w : World) (h : Sl w v 2 xs.length (xs.flatMap ADebt.cells)) :
    Calls Tryz.prog 111 #[v] w (Pure (I (debtE xs)) w):=by
  obtain ⟨a,cap,rfl,hn,hl,h0,h⟩:=h
  by_cases h8:8 < xs.length
  · have hE:debtE xs=1:=by simp [debtE,h8]
    have h8':(8:Int) < (xs.length:Int):=by omega
    rw [hE];clear hE h h0 hl;go_enter Tryz.func111,Tryz.ntmps111;go_wp2;go_ret;exact Pure.intro rfl
  · have h8':¬ (8:Int) < (xs.length:Int):=by omega
    have hE:debtE xs=if xs.all okDebt then 0 else 2:=by simp only [debtE,if_neg h8]
    have HE:=Lib.hid hE;clear hE h0 hl;go_enter Tryz.func111,Tryz.ntmps111;go_wp2
    go_loop [3] (fun i=>∃ k:Nat,k≤xs.length∧i=I k∧Hid ((xs.take k).all okDebt=true)) (fun i=>xs.length-(intOf i).toNat)
    case atStart=>exact ⟨0,Nat.zero_le _,rfl,rfl⟩
    case round=>
      obtain ⟨k,hk,rfl,hall⟩:=hrel
      by_cases hlt:k < xs.length
      · obtain ⟨b,off,rfl,hb,hc⟩:=h.resolve_left (by omega)
        obtain ⟨e0,e1⟩:=elDebt hb hc (Below.refl _ _) k hlt;have hi0:(0:Int)≤(k:Int):=by omega
        have hi1:(k:Int) < (xs.length:Int):=by omega
        have hgood:=Lib.hid (fun hp=>all_take_succ (p:=okDebt) hlt hall.out hp);have hbad:=Lib.hid (fun hp=>all_false_at (p:=okDebt) hlt hp);clear h hc;generalize xs.getD k default=x at *;cases p1:inB x.owed 0 1000000000
        · have hA:=Lib.hid (hbad.out (by simp [okDebt,p1]))
          clear hgood hbad
          go_wp2_with (go_at_call 57;refine (In_any _ _ _ _).mono ?_;rintro e w' ⟨rfl,rfl⟩)
          go_ret;exact Pure.intro (eI (by rw [HE.out,hA.out];rfl))
        · cases p2:inB x.bp 0 10000
          · have hA:=Lib.hid (hbad.out (by simp [okDebt,p1,p2]))
            clear hgood hbad
            go_wp2_with (go_at_call 57;refine (In_any _ _ _ _).mono ?_;rintro e w' ⟨rfl,rfl⟩)
            go_ret;exact Pure.intro (eI (by rw [HE.out,hA.out];rfl))
          · have hA:=Lib.hid (hgood.out (by simp [okDebt,p1,p2]))
            clear hgood hbad
            go_wp2_with (go_at_call 57;refine (In_any _ _ _ _).mono ?_;rintro e w' ⟨rfl,rfl⟩)
            go_round
            case rel=>exact ⟨k+1,by omega,by go_num,hA.out⟩
            case measure=>simp [intOf];omega
      · have hA:=Lib.hid (show xs.all okDebt=true by have:=hall.out;rwa [List.take_of_length_le (by omega)] at this)
        clear hall h;have hge:(xs.length:Int)≤(k:Int):=by omega
        go_wp2;go_ret;exact Pure.intro (eI (by rw [HE.out,hA.out];rfl))
end
section
open Go.RowKit
/-- v lies nowhere below block B -/
def FarB (B:Nat) (v:Value):Prop:=∀ a n c,v=.slice (some a) n c→B≤a.block
theorem FarB.nil (B n c:Nat):FarB B (.slice none n c):=by intro a n c h;cases h
theorem FarB.lit {B g o n c:Nat} (h:B≤g):FarB B (.slice (some ⟨g,o,none⟩) n c):=by intro a n c e;cases e;exact h
theorem FarB.of_owns {w:World} {base e sz n:Nat} {v:Value} {cs:List Value} (h:w.ownsRow base e sz v n cs):FarB base v:=by
  rintro a m c rfl;exact (h.lt a.block rfl).1
theorem FarB.far {B z:Nat} {v:Value} (h:FarB B v) (hz:z < B):Far z v:=by
  intro a n c e;have:=h a n c e;omega
theorem FarB.mono {B C:Nat} {v:Value} (h:FarB B v) (hC:C≤B):FarB C v:=fun a n c e=>Nat.le_trans hC (h a n c e)
end
section
open Go.RowKit

end
section
open Go.RowKit

theorem info_debts:(Tryz.prog.info? 46).map (fun i=>(i.zero,i.size,i.bytes))=some (some (.agg #[.int .i64 0,.int .i64 0]),2,16):=by kernel_rfl

end
end Go.Proofs.YtdjgcenjonegjaaGreat
