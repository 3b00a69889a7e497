/- check.all, check.Digit, check.Good and their references -/
import Derived.Test.YtfhmcahfjoliiaaGreatDoorPk31
set_option maxRecDepth 20000
set_option maxHeartbeats 8000000
set_option linter.unusedSimpArgs false
set_option linter.unusedVariables false
namespace Go.Proofs.YtfhmcahfjoliiaaGreatDoor
open Go.RowKit

def tabI (d:Int):Int:=([1,5,7,6,2,8,3,0,9,4]:List Int).getD d.toNat 0
def movedN:Nat→Int→Int
  | 0,d=>d
  | n+1,d=>tabI (movedN n d)
theorem tabI_bd (d:Int):0≤tabI d∧tabI d≤9:=by
  unfold tabI
  by_cases h:d.toNat < 10
  · have:∀ i:Fin 10,0≤([1,5,7,6,2,8,3,0,9,4]:List Int).getD i.val 0∧([1,5,7,6,2,8,3,0,9,4]:List Int).getD i.val 0≤9:=by decide +kernel
    exact this ⟨_,h⟩
  · rw [List.getD_eq_getElem?_getD,List.getElem?_eq_none (by simp;omega)];decide
theorem movedN_bd {d:Int} (h0:0≤d) (h1:d≤9):∀ n,0≤movedN n d∧movedN n d≤9
  | 0=>⟨h0,h1⟩
  | _+1=>tabI_bd _
def movedI (d:Int) (p:Nat):Int:=movedN (p%8) d
theorem movedI_bd {d:Int} (h0:0≤d) (h1:d≤9) (p:Nat):0≤movedI d p∧movedI d p≤9:=movedN_bd h0 h1 _
theorem ten {x:Int} (h0:0≤x) (h1:x≤9):x=0∨x=1∨x=2∨x=3∨x=4∨x=5∨x=6∨x=7∨x=8∨x=9:=by omega

theorem moved_any (d : Int) (p : Nat) (w : World) (h0 : 0 ≤ d) (h1 : d ≤ 9) (hp : p ≤ 1000) : Calls Tryz.prog 74 #[I d, I p] w (Grew (I (movedI d p)) w) := by
  have hq:((p:Int))%8=((p%8:Nat):Int):=by omega
  unfold movedI;have hn:p%8 < 8:=Nat.mod_lt _ (by decide);generalize p%8=n at *;go_enter Tryz.func74,Tryz.ntmps74;go_wp2
  go_loop [0,9] (fun x i=>∃ k:Nat,k≤n∧i=I k∧x=I (movedN k d)) (fun _ i=>n-(intOf i).toNat)
  case atStart=>exact ⟨0,Nat.zero_le _,rfl,rfl⟩
  case round=>
    obtain ⟨k,hk,rfl,rfl⟩:=hrel;obtain ⟨g0,g1⟩:=movedN_bd h0 h1 k;have hs:=Lib.hid (show movedN (k+1) d=tabI (movedN k d) from rfl);generalize hx:movedN k d=x at *
    by_cases hlt:k < n
    · rcases ten g0 g1 with rfl | rfl | rfl | rfl | rfl | rfl | rfl | rfl | rfl | rfl
      all_goals
        go_wp2;exact ⟨⟨k+1,by omega,by go_num,eI (by rw [hs.out];rfl)⟩,by simp [intOf];omega⟩
    · have hkn:k=n:=by omega
      have H:=Lib.hid (show x=movedN n d by rw [← hkn];exact hx.symm);clear hx;go_wp2;go_ret;exact Grew.intro (eI H.out) below_auto

theorem turned_any (d : Int) (p : Nat) (w : World) (h0 : 0 ≤ d) (h1 : d ≤ 9) (hp : p ≤ 1000) : Calls Tryz.prog 90 #[I d, I p] w (Pure (I (movedI d p)) w) := by
  have hq:((p:Int))%8=((p%8:Nat):Int):=by omega
  unfold movedI;have hn:p%8 < 8:=Nat.mod_lt _ (by decide);generalize p%8=n at *;go_enter Tryz.func90,Tryz.ntmps90;go_wp2
  go_loop [0,6] (fun x i=>∃ k:Nat,k≤n∧i=I k∧x=I (movedN k d)) (fun _ i=>n-(intOf i).toNat)
  case atStart=>exact ⟨0,Nat.zero_le _,rfl,rfl⟩
  case round=>
    obtain ⟨k,hk,rfl,rfl⟩:=hrel;obtain ⟨g0,g1⟩:=movedN_bd h0 h1 k;have hs:=Lib.hid (show movedN (k+1) d=tabI (movedN k d) from rfl);generalize hx:movedN k d=x at *
    by_cases hlt:k < n
    · rcases ten g0 g1 with rfl | rfl | rfl | rfl | rfl | rfl | rfl | rfl | rfl | rfl
      all_goals
        go_wp2;exact ⟨⟨k+1,by omega,by go_num,eI (by rw [hs.out];rfl)⟩,by simp [intOf];omega⟩
    · have hkn:k=n:=by omega
      have H:=Lib.hid (show x=movedN n d by rw [← hkn];exact hx.symm);clear hx;go_wp2;go_ret;exact Pure.intro (eI H.out)

/-- the digits of a text from behind, the last one at a place, behind c -/
def foldI (s:ByteArray) (c:Int) (p:Nat):Nat→Int
  | 0=>c
  | m+1=>thenI (foldI s c p m) (movedI (dgt s (s.size-1-m)) (p+m))
theorem foldI_bd (s:ByteArray) {c:Int} (h0:0≤c) (h1:c≤9) (p:Nat):∀ m,0≤foldI s c p m∧foldI s c p m≤9
  | 0=>⟨h0,h1⟩
  | _+1=>thenI_bd _ _
theorem thenI_assoc (a b c:Int) (ha:0≤a) (ha':a≤9) (hb:0≤b) (hb':b≤9) (hc:0≤c) (hc':c≤9):thenI (thenI a b) c=thenI a (thenI b c):=
  all3 (p:=fun a b c=>thenI (thenI a b) c=thenI a (thenI b c)) (by decide +kernel) a b c ha ha' hb hb' hc hc'
theorem foldI_then (s:ByteArray) {c:Int} (h0:0≤c) (h1:c≤9) (hs:allDig s s.size=true) (p:Nat):∀ m,m≤s.size→foldI s c p m=thenI c (foldI s 0 p m)
  | 0,_=>by
    simp only [foldI]
    exact (all1 (p:=fun c=>c=thenI c 0) (by decide +kernel) c h0 h1)
  | m+1,h=>by
    simp only [foldI]
    rw [foldI_then s h0 h1 hs p m (by omega)]
    obtain ⟨a0,a1⟩:=foldI_bd s (c:=0) (by omega) (by omega) p m
    obtain ⟨d0,d1⟩:=dgt_bd (allDig_at hs (show s.size-1-m < s.size by omega))
    obtain ⟨b0,b1⟩:=movedI_bd d0 d1 (p+m)
    exact thenI_assoc _ _ _ h0 h1 a0 a1 b0 b1
theorem then_back (d a:Int) (hd:0≤d) (hd':d≤9) (ha:0≤a) (ha':a≤9):(thenI d a==0)=decide (d=backI a):=
  all2 (p:=fun d a=>(thenI d a==0)=decide (d=backI a)) (by decide +kernel) d a hd hd' ha ha'

theorem allF_any (s : ByteArray) (p : Nat) (w : World) (hn : s.size ≤ 300) (hp : p ≤ 1) (hs : allDig s s.size = true) : Calls Tryz.prog 46 #[.string s, I p] w (Grew (I (foldI s 0 p s.size)) w) := by
  have Hs:=Lib.hid hs;clear hs;go_enter Tryz.func46,Tryz.ntmps46;go_wp2
  go_loopw [5,9] (fun c i wr=>∃ k:Nat,k≤s.size∧i=I k∧c=I (foldI s 0 p k)∧Below w.heap.size w wr) (fun _ i _=>s.size-(intOf i).toNat)
  case atStart=>exact ⟨0,Nat.zero_le _,rfl,rfl,Below.refl _ _⟩
  case round=>
    obtain ⟨k,hk,rfl,rfl,hb⟩:=hrel;obtain ⟨g0,g1⟩:=foldI_bd s (c:=0) (by omega) (by omega) p k
    by_cases hlt:k < s.size
    · obtain ⟨j,hj⟩:∃ j:Nat,s.size=k+1+j:=⟨s.size-(k+1),by omega⟩
      have hjl:j < s.size:=by omega
      have hbq:=bat_eq hjl;obtain ⟨d0,d1⟩:=digAt_true.1 (allDig_at Hs.out hjl)
      have hH:foldI s 0 p (k+1)=thenI (foldI s 0 p k) (movedI ((bat s j:Int)-48) (p+k)):=by
        simp only [foldI];rw [show s.size-1-k=j by omega];rfl
      have H:=Lib.hid hH;have hji:(s.size:Int)-1-k=(j:Int):=by omega
      have hi1:(k:Int) < (s.size:Int):=by omega
      have hpk:=Lib.hid (show ((p:Int)+(k:Int))=((p+k:Nat):Int) by omega);clear hj hH;generalize foldI s 0 p k=c at *;generalize bat s j=b at *
      go_wp2_with (first
        | (go_at_call 74;rw [hpk.out];refine (moved_any _ _ _ (by omega) (by omega) (by omega)).mono ?_;rintro e w' ⟨rfl,hb2⟩;have hb:=hb.trans (hb2.mono hb.size))
        | (go_at_call 73;refine (then_any _ _ g0 g1 (movedI_bd (by omega) (by omega) _).1 (movedI_bd (by omega) (by omega) _).2 _).mono ?_;rintro e w' ⟨rfl,rfl⟩))
      exact ⟨⟨k+1,by omega,by go_num,eI H.out.symm,hb⟩,by simp [intOf];omega⟩
    · have hkn:k=s.size:=by omega
      have hge:¬ (k:Int) < (s.size:Int):=by omega
      have H:=Lib.hid (show foldI s 0 p k=foldI s 0 p s.size by rw [hkn]);clear hkn;go_wp2;go_ret;exact Grew.intro (eI H.out) hb

theorem folded_any (s : ByteArray) (w : World) (hn : s.size ≤ 300) (hs : allDig s s.size = true) : Calls Tryz.prog 62 #[.string s, I 0] w (Pure (I (foldI s 0 0 s.size)) w) := by
  have Hs:=Lib.hid hs;clear hs;go_enter Tryz.func62,Tryz.ntmps62;go_wp2
  go_loop [1,5,6] (fun p c i=>∃ k:Nat,k≤s.size∧i=I ((s.size:Int)-1-k)∧p=I k∧c=I (foldI s 0 0 k)) (fun _ _ i=>(intOf i+1).toNat)
  case atStart=>exact ⟨0,Nat.zero_le _,by simp,rfl,rfl⟩
  case round=>
    obtain ⟨k,hk,rfl,rfl,rfl⟩:=hrel;obtain ⟨g0,g1⟩:=foldI_bd s (c:=0) (by omega) (by omega) 0 k
    by_cases hlt:k < s.size
    · obtain ⟨j,hj⟩:∃ j:Nat,s.size=k+1+j:=⟨s.size-(k+1),by omega⟩
      have hjl:j < s.size:=by omega
      have hbq:=bat_eq hjl;obtain ⟨d0,d1⟩:=digAt_true.1 (allDig_at Hs.out hjl)
      have hH:foldI s 0 0 (k+1)=thenI (foldI s 0 0 k) (movedI ((bat s j:Int)-48) k):=by
        simp only [foldI];rw [show s.size-1-k=j by omega,Nat.zero_add];rfl
      have H:=Lib.hid hH;rw [show (s.size:Int)-1-k=(j:Int) by omega];have hi1:(j:Int) < (s.size:Int):=by omega
      have Hj:=Lib.hid hj;clear hH hj;generalize foldI s 0 0 k=c at *;generalize bat s j=b at *;obtain ⟨m0,m1⟩:=movedI_bd (d:=(b:Int)-48) (by omega) (by omega) k
      have hM:mulA c (movedI ((b:Int)-48) k)=thenI c (movedI ((b:Int)-48) k):=by
        simp [mulA,mulOk,inB_true.2 ⟨g0,g1⟩,inB_true.2 ⟨m0,m1⟩]
      have HM:=Lib.hid hM;clear hM
      go_wp2_with (first
        | (go_at_call 90;refine (turned_any _ _ _ (by omega) (by omega) (by omega)).mono ?_;rintro e w' ⟨rfl,rfl⟩)
        | (go_at_call 91;refine (Moved_any _ _ _).mono ?_;rintro e w' ⟨rfl,rfl⟩))
      go_round
      case rel=>first | exact ⟨k+1,by omega,eI (by have:=Hj.out;omega),by go_num,eI (by rw [HM.out,H.out])⟩ | (refine ⟨rfl,?_⟩;(repeat apply Exists.intro);refine ⟨?_,rfl⟩;exact ⟨k+1,by omega,eI (by have:=Hj.out;omega),by go_num,eI (by rw [HM.out,H.out])⟩) | (refine ⟨trivial,?_⟩;(repeat apply Exists.intro);refine ⟨?_,rfl⟩;exact ⟨k+1,by omega,eI (by have:=Hj.out;omega),by go_num,eI (by rw [HM.out,H.out])⟩) | ((repeat apply Exists.intro);refine ⟨?_,rfl⟩;exact ⟨k+1,by omega,eI (by have:=Hj.out;omega),by go_num,eI (by rw [HM.out,H.out])⟩)
      case measure=>(simp [intOf];try omega)
    · have hkn:k=s.size:=by omega
      have H:=Lib.hid (show foldI s 0 0 k=foldI s 0 0 s.size by rw [hkn]);rw [show (s.size:Int)-1-k=-1 by omega];clear hkn;go_wp2;go_ret;exact Pure.intro (eI H.out)
end Go.Proofs.YtfhmcahfjoliiaaGreatDoor
