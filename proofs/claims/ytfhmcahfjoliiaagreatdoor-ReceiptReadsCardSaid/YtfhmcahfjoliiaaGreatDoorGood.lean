/- check.Good, check.Digit and their references -/
import Derived.Test.YtfhmcahfjoliiaaGreatDoorFold
import Derived.Test.YtfhmcahfjoliiaaGreatDoorPk01
set_option maxRecDepth 20000
set_option maxHeartbeats 8000000
set_option linter.unusedSimpArgs false
set_option linter.unusedVariables false
namespace Go.Proofs.YtfhmcahfjoliiaaGreatDoor
open Go.RowKit

def goodB (s:ByteArray):Bool:=digsE s==0&&(decide (1 < s.size)&&foldI s 0 0 s.size==0)
def chkA (s:ByteArray):Int:=if digsE s=0 then backI (foldI s 0 1 s.size) else 0

theorem Digit_chk (s:ByteArray) (w:World):Calls Tryz.prog 57 #[.string s] w (Grew (T2 (I (chkA s)) (I (digsE s))) w):=by
  have D:=Lib.hid (fun W=>digits_any s W)
  by_cases hE:digsE s=0
  · have e1:chkA s=backI (foldI s 0 1 s.size):=by simp [chkA,hE]
    obtain ⟨z0,z1,hall⟩:=digsE_zero hE;obtain ⟨c0,c1⟩:=foldI_bd s (c:=0) (by omega) (by omega) 1 s.size;have A:=Lib.hid (fun W=>allF_any s 1 W (by omega) (by omega) hall);rw [e1,hE];rw [hE] at D;clear e1 hE hall;generalize foldI s 0 1 s.size=c at *;go_enter Tryz.func57,Tryz.ntmps57
    go_wp2_with fail
    refine (D.out _).mono ?_;rintro e w1 ⟨rfl,k1⟩
    go_wp2_with fail
    refine (A.out _).mono ?_;rintro e w2 ⟨rfl,k2⟩;have k:=k1.trans (k2.mono k1.size);clear k1 k2
    go_wp2_with (go_at_call 88;refine (back_any _ c0 c1 _).mono ?_;rintro e w' ⟨rfl,rfl⟩)
    go_ret2;exact Grew.intro rfl k
  · have e1:chkA s=0:=by simp [chkA,hE]
    rw [e1];have hb:(digsE s != 0)=true:=by simp [hE]
    clear e1 hE;go_enter Tryz.func57,Tryz.ntmps57
    go_wp2_with fail
    refine (D.out _).mono ?_;rintro e w1 ⟨rfl,k1⟩;go_wp2;go_ret2;exact Grew.intro rfl k1

theorem Good_any (s:ByteArray) (w:World):Calls Tryz.prog 21 #[.string s] w (Grew (.bool (goodB s)) w):=by
  have D:=Lib.hid (fun W=>digits_any s W)
  by_cases hE:digsE s=0
  · obtain ⟨z0,z1,hall⟩:=digsE_zero hE
    have A:=Lib.hid (fun W=>allF_any s 0 W (by omega) (by omega) hall);rw [hE] at D
    by_cases h1:1 < s.size
    · have e1:goodB s=(foldI s 0 0 s.size==0):=by simp [goodB,hE,h1]
      rw [e1];have h1':(1:Int) < (s.size:Int):=by omega
      clear e1 hE hall;generalize foldI s 0 0 s.size=c at *;go_enter Tryz.func21,Tryz.ntmps21
      go_wp2_with fail
      refine (D.out _).mono ?_;rintro e w1 ⟨rfl,k1⟩
      go_wp2_with fail
      refine (A.out _).mono ?_;rintro e w2 ⟨rfl,k2⟩;have k:=k1.trans (k2.mono k1.size);clear k1 k2;go_wp2;go_ret;exact Grew.intro rfl k
    · have e1:goodB s=false:=by simp [goodB,h1]
      rw [e1];have h1':¬ (1:Int) < (s.size:Int):=by omega
      clear e1 hE hall A;go_enter Tryz.func21,Tryz.ntmps21
      go_wp2_with fail
      refine (D.out _).mono ?_;rintro e w1 ⟨rfl,k1⟩;go_wp2;go_ret;exact Grew.intro rfl k1
  · have e1:goodB s=false:=by simp [goodB,hE]
    have hb:(digsE s==0)=false:=by simp [hE]
    rw [e1];clear e1 hE;go_enter Tryz.func21,Tryz.ntmps21
    go_wp2_with fail
    refine (D.out _).mono ?_;rintro e w1 ⟨rfl,k1⟩;go_wp2;go_ret;exact Grew.intro rfl k1

theorem IsGood_any (s:ByteArray) (w:World):Calls Tryz.prog 35 #[.string s] w (Pure (.bool (goodB s)) w):=by
  have D:=Lib.hid (fun W=>DigitsMay_any s W)
  by_cases hE:digsE s=0
  · obtain ⟨z0,z1,hall⟩:=digsE_zero hE
    have A:=Lib.hid (fun W=>folded_any s W (by omega) hall);rw [hE] at D
    by_cases h1:1 < s.size
    · have e1:goodB s=(foldI s 0 0 s.size==0):=by simp [goodB,hE,h1]
      rw [e1];have h1':(2:Int)≤(s.size:Int):=by omega
      clear e1 hE hall;generalize foldI s 0 0 s.size=c at *;go_enter Tryz.func35,Tryz.ntmps35
      go_wp2_with (first | (go_at_call 34;refine (D.out _).mono ?_;rintro e w' ⟨rfl,rfl⟩) | (go_at_call 62;refine (A.out _).mono ?_;rintro e w' ⟨rfl,rfl⟩))
      go_ret;exact Pure.intro rfl
    · have e1:goodB s=false:=by simp [goodB,h1]
      rw [e1];have h1':¬ (2:Int)≤(s.size:Int):=by omega
      clear e1 hE hall A;go_enter Tryz.func35,Tryz.ntmps35
      go_wp2_with (go_at_call 34;refine (D.out _).mono ?_;rintro e w' ⟨rfl,rfl⟩)
      go_ret;exact Pure.intro rfl
  · have e1:goodB s=false:=by simp [goodB,hE]
    have hb:(digsE s==0)=false:=by simp [hE]
    rw [e1];clear e1 hE;go_enter Tryz.func35,Tryz.ntmps35
    go_wp2_with (go_at_call 34;refine (D.out _).mono ?_;rintro e w' ⟨rfl,rfl⟩)
    go_ret;exact Pure.intro rfl

/-- a digit as a text -/
def dg1 (d:Nat):ByteArray:=⟨#[UInt8.ofNat (48+d)]⟩
theorem u8of {d:Nat} (h:d≤9):(UInt8.ofNat (48+d)).toNat=48+d:=by
  rw [UInt8.toNat_ofNat'];omega

theorem Dec1_any (d:Nat) (w:World) (h:d≤9):Calls Tryz.prog 40 #[I d] w (Grew (.string (dg1 d)) w):=by
  have hcv:=run_convert_bytes_back (P:=Tryz.prog) (w.alloc (.cells #[.int .u8 (48+(d:Int))] 5)) 58 9 5 ⟨w.heap.size,0,none⟩ 1 [UInt8.ofNat (48+d)] Tryz.underlying58 Tryz.underlying5 Tryz.underlying9 (by
    intro j hj;simp only [List.length_cons,List.length_nil] at hj;obtain rfl:j=0:=by omega
    have:((UInt8.ofNat (48+d)).toNat:Int)=48+(d:Int):=by rw [u8of h];omega
    simp only [List.getElem_cons_zero,this];exact cell_one w _ _)
  simp only [List.length_cons,List.length_nil,Nat.zero_add] at hcv;go_enter Tryz.func40,Tryz.ntmps40;go_wp2;go_ret;exact Grew.intro (by simp [dg1]) below_auto

theorem dg1_size (d:Nat):(dg1 d).size=1:=rfl
theorem bat_listG (s:ByteArray) (k:Nat):bat s k=((s.data.toList[k]?).map UInt8.toNat).getD 0:=by
  unfold bat;have e:s.size=s.data.toList.length:=Array.length_toList.symm
  split
  · have h:k < s.data.toList.length:=by omega
    rw [List.getElem?_eq_getElem h];rfl
  · have h:¬ k < s.data.toList.length:=by omega
    rw [List.getElem?_eq_none (by omega)];rfl
theorem bat_left (s t:ByteArray) {k:Nat} (h:k < s.size):bat (s++t) k=bat s k:=by
  have e:s.size=s.data.toList.length:=Array.length_toList.symm;rw [bat_listG,bat_listG,ByteArray.data_append,Array.toList_append,List.getElem?_append_left (by omega)]
theorem bat_right (s t:ByteArray) (k:Nat):bat (s++t) (s.size+k)=bat t k:=by
  have e:s.size=s.data.toList.length:=Array.length_toList.symm;rw [bat_listG,bat_listG,ByteArray.data_append,Array.toList_append,List.getElem?_append_right (by omega)];rw [show s.size+k-s.data.toList.length=k by omega]
theorem bat_dg1 {d:Nat} (h:d≤9):bat (dg1 d) 0=48+d:=by
  rw [bat_listG];simp only [dg1,List.getElem?_cons_zero,Option.map_some,Option.getD_some];exact u8of h

/-- a digit behind a text -/
theorem foldI_push (s:ByteArray) {d:Nat} (h:d≤9):∀ m,m≤s.size→foldI (s++dg1 d) 0 0 (m+1)=foldI s d 1 m
  | 0,_=>by
    simp only [foldI]
    have e:dgt (s++dg1 d) ((s++dg1 d).size-1-0)=(d:Int):=by
      unfold dgt;rw [ByteArray.size_append,dg1_size,show s.size+1-1-0=s.size+0 by omega,bat_right,bat_dg1 h];omega
    rw [e];exact all1 (p:=fun d=>thenI 0 (movedI d 0)=d) (by decide +kernel) d (by omega) (by omega)
  | m + 1, hm => by
    have ih:=foldI_push s h m (by omega);rw [foldI,ih]
    conv=>rhs;rw [foldI]
    have e:dgt (s++dg1 d) ((s++dg1 d).size-1-(m+1))=dgt s (s.size-1-m):=by
      unfold dgt;rw [ByteArray.size_append,dg1_size,show s.size+1-1-(m+1)=s.size-1-m by omega,bat_left _ _ (by omega)]
    rw [e,show 0+(m+1)=1+m by omega]
theorem allDig_push (s:ByteArray) {d:Nat} (h:d≤9) (hs:allDig s s.size=true):allDig (s++dg1 d) (s++dg1 d).size=true:=by
  unfold allDig;rw [List.all_eq_true];intro k hk;rw [List.mem_range,ByteArray.size_append,dg1_size] at hk;rw [digAt_true]
  by_cases hlt:k < s.size
  · rw [bat_left _ _ hlt];exact digAt_true.1 (allDig_at hs hlt)
  · rw [show k=s.size+0 by omega,bat_right,bat_dg1 h];omega

theorem CheckDigit_any (s : ByteArray) (w : World) : Calls Tryz.prog 65 #[.string s] w (Grew (T2 (I (chkA s)) (I (digsE s))) w) := by
  have D:=Lib.hid (fun W=>DigitsMay_any s W)
  by_cases hE:digsE s=0
  · have e1:chkA s=backI (foldI s 0 1 s.size):=by simp [chkA,hE]
    obtain ⟨z0,z1,hall⟩:=digsE_zero hE;obtain ⟨c0,c1⟩:=foldI_bd s (c:=0) (by omega) (by omega) 1 s.size;obtain ⟨b0,b1⟩:=backI_bd _ c0 c1
    have A:∀ d:Nat,d≤9→Hid (∀ W,Calls Tryz.prog 62 #[.string (s++dg1 d),I 0] W (Pure (I (thenI d (foldI s 0 1 s.size))) W)):=by
      intro d hd;refine Lib.hid fun W=>?_
      have:=folded_any (s++dg1 d) W (by rw [ByteArray.size_append,dg1_size];omega) (allDig_push s hd hall);rw [show (s++dg1 d).size=s.size+1 by rw [ByteArray.size_append,dg1_size],foldI_push s hd s.size (Nat.le_refl _),foldI_then s (by omega) (by omega) hall 1 s.size (Nat.le_refl _)] at this;exact this
    have A:=Lib.hid A;rw [e1,hE];rw [hE] at D;clear e1 hE hall;generalize foldI s 0 1 s.size=c at *;go_enter Tryz.func65,Tryz.ntmps65
    go_wp2_with (go_at_call 34;refine (D.out _).mono ?_;rintro e w' ⟨rfl,rfl⟩)
    go_loopw [5] (fun i wr=>∃ d:Nat,(d:Int)≤backI c∧i=I d∧Below w.heap.size w wr) (fun i _=>(10-intOf i).toNat)
    case atStart=>exact ⟨0,by omega,rfl,Below.refl _ _⟩
    case round=>
      obtain ⟨d,hd,rfl,hb⟩:=hrel;have hd9:d≤9:=by omega
      have hh:=then_back d c (by omega) (by omega) c0 c1;have C:=A.out d hd9;have hsz1:s.size+(dg1 d).size≤9223372036854775807:=by rw [dg1_size];omega
      generalize thenI d c=t at *
      by_cases he:(d:Int)=backI c
      · rw [decide_eq_true he] at hh
        have He:=Lib.hid he;clear he
        go_wp2_with (first
          | (go_at_call 40;refine (Dec1_any _ _ hd9).mono ?_;rintro e w' ⟨rfl,hb2⟩;have hb:=hb.trans (hb2.mono hb.size))
          | (go_at_call 62;refine (C.out _).mono ?_;rintro e w' ⟨rfl,rfl⟩))
        go_ret2;exact Grew.intro (eI2 He.out rfl) hb
      · rw [decide_eq_false he] at hh
        have He:=Lib.hid he;clear he
        go_wp2_with (first
          | (go_at_call 40;refine (Dec1_any _ _ hd9).mono ?_;rintro e w' ⟨rfl,hb2⟩;have hb:=hb.trans (hb2.mono hb.size))
          | (go_at_call 62;refine (C.out _).mono ?_;rintro e w' ⟨rfl,rfl⟩))
        go_round
        case rel=>first | exact ⟨d+1,by have:=He.out;omega,by go_num,hb⟩ | (refine ⟨rfl,?_⟩;(repeat apply Exists.intro);refine ⟨?_,rfl⟩;exact ⟨d+1,by have:=He.out;omega,by go_num,hb⟩) | (refine ⟨trivial,?_⟩;(repeat apply Exists.intro);refine ⟨?_,rfl⟩;exact ⟨d+1,by have:=He.out;omega,by go_num,hb⟩) | ((repeat apply Exists.intro);refine ⟨?_,rfl⟩;exact ⟨d+1,by have:=He.out;omega,by go_num,hb⟩)
        case measure=>simp [intOf];omega
  · have e1:chkA s=0:=by simp [chkA,hE]
    rw [e1];have hb:(digsE s != 0)=true:=by simp [hE]
    clear e1 hE;go_enter Tryz.func65,Tryz.ntmps65
    go_wp2_with (go_at_call 34;refine (D.out _).mono ?_;rintro e w' ⟨rfl,rfl⟩)
    go_ret2;exact Grew.intro rfl (Below.refl _ _)
end Go.Proofs.YtfhmcahfjoliiaaGreatDoor
