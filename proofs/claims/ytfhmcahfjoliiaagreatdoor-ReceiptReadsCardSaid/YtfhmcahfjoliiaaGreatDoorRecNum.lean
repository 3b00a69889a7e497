/- receipt.Number and its reference -/
import Derived.Test.YtfhmcahfjoliiaaGreatDoorCentsShow
import Derived.Test.YtfhmcahfjoliiaaGreatDoorGood
set_option maxRecDepth 20000
set_option maxHeartbeats 8000000
set_option linter.unusedSimpArgs false
set_option linter.unusedVariables false
namespace Go.Proofs.YtfhmcahfjoliiaaGreatDoor
open Go.RowKit

/-- eight noughts, two digits -/
def numS (m:Nat):ByteArray:=⟨#[48,48,48,48,48,48,48,48]⟩++(decS (m / 10)++decS (m%10))
theorem numS_size (m:Nat) (hm:m < 50):(numS m).size=10:=by
  unfold numS;rw [ByteArray.size_append,ByteArray.size_append,decS_small (show m / 10 < 10 by omega),decS_small (Nat.mod_lt m (by decide))]
  rfl
theorem num_cut:∀ m,m < 50→(decS (10000000000+m)).size=11∧(decS (10000000000+m)).extract 1 11=numS m:=by
  have h:∀ m:Fin 50,(decS (10000000000+m.val)).size=11∧(decS (10000000000+m.val)).extract 1 11=numS m.val:=by decide +kernel
  exact fun m hm=>h ⟨m,hm⟩
def zerosS (k:Nat):ByteArray:=⟨(List.replicate k (48:UInt8)).toArray⟩
theorem zerosS_succ (k:Nat) (B:ByteArray):(⟨#[48]⟩:ByteArray)++(zerosS k++B)=zerosS (k+1)++B:=by
  apply ByteArray.ext;apply Array.toList_inj.1;simp [zerosS,ByteArray.data_append,List.replicate_succ]
theorem zerosS_size (k:Nat) (B:ByteArray):(zerosS k++B).size=k+B.size:=by
  rw [ByteArray.size_append];show (List.replicate k (48:UInt8)).toArray.size+_=_;simp
theorem pad_num:∀ m,m < 50→zerosS (10-(decS m).size)++decS m=numS m:=by
  have h:∀ m:Fin 50,zerosS (10-(decS m.val).size)++decS m.val=numS m.val:=by decide +kernel
  exact fun m hm=>h ⟨m,hm⟩
theorem chkA_bd (s:ByteArray):0≤chkA s∧chkA s≤9:=by
  unfold chkA
  split
  · rename_i h
    obtain ⟨c0,c1⟩:=foldI_bd s (c:=0) (by omega) (by omega) 1 s.size;exact backI_bd _ c0 c1
  · omega
def numD (m:Nat):Nat:=(chkA (numS m)).toNat
def nmbE (n:Int):Int:=if inB n 0 49 then 0 else 18
def numV (n:Int):ByteArray:=if inB n 0 49 then numS n.toNat++decS (numD n.toNat) else ⟨#[]⟩
def NumP (n:Int) (w:World) (e:Ending) (w':World):Prop:=Grew (T2 (.string (numV n)) (I (nmbE n))) w e w'
theorem num_yes {m:Nat} (hm:m < 50):numV m=numS m++decS (numD m)∧nmbE m=0∧numD m < 10∧chkA (numS m)=(numD m:Int):=by
  have hin:inB (m:Int) 0 49=true:=by rw [inB_true];omega
  have hb:=chkA_bd (numS m);refine ⟨by unfold numV;rw [hin,Int.toNat_natCast];rfl,by unfold nmbE;rw [hin];rfl,?_,?_⟩
  · unfold numD;omega
  · unfold numD;omega
def strSz:Value→Nat | .string s=>s.size | _=>0
theorem padded_any (m:Nat) (w:World) (hm:m < 50):Calls Tryz.prog 64 #[I m,I 10] w (Grew (.string (numS m)) w):=by
  have D:=Lib.hid (fun W=>Dec_nat m W (by omega));have hz:=decS_size (n:=m) (k:=2) (by omega) (by decide);have hp:=Lib.hid (pad_num m hm);generalize decS m=b at *;generalize numS m=q at *;go_enter Tryz.func64,Tryz.ntmps64
  go_wp2_with fail
  refine (D.out _).mono ?_;rintro e w1 ⟨rfl,k1⟩;go_wp2
  go_loop [5] (fun v=>∃ k:Nat,k+b.size≤10∧v=.string (zerosS k++b)) (fun v=>10-strSz v)
  case atStart=>
    refine ⟨0,by omega,?_⟩
    have:zerosS 0++b=b:=by
      apply ByteArray.ext;apply Array.toList_inj.1;simp [zerosS,ByteArray.data_append]
    rw [this]
  case round=>
    obtain ⟨k,hk,rfl⟩:=hrel;have hzs:=zerosS_size k b;have hsu:=Lib.hid (zerosS_succ k b);have hzs2:=zerosS_size (k+1) b;generalize hz1:zerosS k++b=s1 at *;generalize hz2:zerosS (k+1)++b=s2 at *;have hov:¬ 9223372036854775807 < 1+s1.size:=by omega
    have hov2:¬ 9223372036854775807 < (⟨#[48]⟩:ByteArray).size+s1.size:=by show ¬ 9223372036854775807 < 1+s1.size;omega
    by_cases hlt2:k+b.size < 10
    · have hI:(s1.size:Int) < 10:=by omega
      clear hz1;go_wp2;have e1:strSz (.string ((⟨#[48]⟩:ByteArray)++s1))=k+1+b.size:=by rw [hsu.out];exact hzs2
      have e2:strSz (.string s1)=k+b.size:=hzs;exact ⟨⟨k+1,by omega,congrArg Value.string (hsu.out.trans hz2.symm)⟩,by rw [e1,e2];omega⟩
    · have hI:¬ (s1.size:Int) < 10:=by omega
      have hF:Hid (q=s1):=by unfold Hid;rw [← hz1,← hp.out,show 10-b.size=k by omega]
      clear hsu hz2 hzs2 hz1 hzs hlt2 hk hov hov2;go_wp2;go_ret;exact ⟨by rw [hF.out];rfl,k1⟩
theorem Number_bad (n:Int) (w:World) (h:inB n 0 49=false):Calls Tryz.prog 27 #[I n] w (NumP n w):=by
  have hE:=Lib.hid (show nmbE n=18 by unfold nmbE;rw [h];rfl);have hV:=Lib.hid (show numV n=⟨#[]⟩ by unfold numV;rw [h];rfl);rw [inB_false] at h;have h':n < 0∨¬ n < 0∧50≤n:=by omega
  clear h;rcases h' with h1 | ⟨h1,h2⟩
  all_goals
    go_enter Tryz.func27,Tryz.ntmps27;go_wp2;go_ret2;exact ⟨by rw [hE.out,hV.out];rfl,below_auto⟩
theorem NumberOf_bad (n:Int) (w:World) (h:inB n 0 49=false):Calls Tryz.prog 36 #[I n] w (NumP n w):=by
  have hE:=Lib.hid (show nmbE n=18 by unfold nmbE;rw [h];rfl);have hV:=Lib.hid (show numV n=⟨#[]⟩ by unfold numV;rw [h];rfl);go_enter Tryz.func36,Tryz.ntmps36
  go_wp2_with (go_at_call 63;refine (In_any _ _ _ _).mono ?_;rintro e w' ⟨rfl,rfl⟩)
  go_ret2;exact ⟨by rw [hE.out,hV.out];rfl,below_auto⟩
theorem Number_good (m:Nat) (w:World) (hm:m < 50) (ht:PowTab w):Calls Tryz.prog 27 #[I m] w (NumP m w):=by
  obtain ⟨v1,v2,v3,v4⟩:=num_yes hm;obtain ⟨z11,hcut⟩:=num_cut m hm;have hz10:=numS_size m hm;have A:=Lib.hid (Itoa_nat (10000000000+m) w (by omega) ht);have D:=Lib.hid (fun W=>Digit_chk (numS m) W);have B:=Lib.hid (fun W hW=>Itoa_nat (numD m) W (by omega) hW);have hds:=decS_size (n:=numD m) (k:=1) (by omega) (by decide);rw [v4] at D;have e1:(10000000000:Int)+(m:Int)=((10000000000+m:Nat):Int):=by omega
  rw [← e1] at A;have hs1:(decS (10000000000+m)).extract 1 11=numS m:=hcut;have HV:=Lib.hid v1;have HE:=Lib.hid v2;have HT:=Lib.hid ht;have HS1:=Lib.hid hs1;clear v1 v2 v4 hcut e1 ht hs1;generalize numS m=q at *;generalize decS (numD m)=db at *;generalize numD m=d at *;generalize decS (10000000000+m)=s11 at *;have hov:¬ 9223372036854775807 < q.size+db.size:=by omega
  have h1:¬ (m:Int) < 0:=by omega
  have h2:¬ (50:Int)≤(m:Int):=by omega
  have h0:(0:Int)≤(m:Int):=by omega
  have h3:(m:Int) < 50:=by omega
  have hl1:(1:Int)≤(s11.size:Int):=by omega
  rw [← HS1.out] at D;have hov2:¬ 9223372036854775807 < (s11.extract 1 11).size+db.size:=by rw [HS1.out];exact hov
  have hov3:¬ 9223372036854775807 < 10+db.size:=by omega
  clear hm v3;go_enter Tryz.func27,Tryz.ntmps27
  go_wp2_with fail
  (with_reducible refine A.out.mono ?_);rintro e w1 ⟨rfl,k1⟩;have HT1:=HT.out.below k1
  go_wp2_with fail
  (with_reducible refine (D.out _).mono ?_);rintro e w2 ⟨rfl,k2⟩;have HT2:=Lib.hid (HT1.below k2);have kk:=k1.trans (k2.mono k1.size);clear HT1 k1 k2
  go_wp2_with fail
  (with_reducible refine (B.out _ HT2.out).mono ?_);rintro e w3 ⟨rfl,k3⟩;have kk3:=kk.trans (k3.mono kk.size);go_wp2;go_ret2;refine ⟨?_,kk3⟩;rw [HV.out,HE.out,← HS1.out]
  rfl
theorem NumberOf_good (m:Nat) (w:World) (hm:m < 50):Calls Tryz.prog 36 #[I m] w (NumP m w):=by
  obtain ⟨v1,v2,v3,v4⟩:=num_yes hm;have hz10:=numS_size m hm;have hin:inB (m:Int) 0 49=true:=by rw [inB_true];omega
  have A:=Lib.hid (fun W=>padded_any m W hm);have D:=Lib.hid (fun W=>CheckDigit_any (numS m) W);have B:=Lib.hid (fun W=>Dec_nat (numD m) W (by omega));have hds:=decS_size (n:=numD m) (k:=1) (by omega) (by decide);rw [v4] at D;have HV:=Lib.hid v1;have HE:=Lib.hid v2;clear v1 v2 v4;generalize numS m=q at *;generalize decS (numD m)=db at *;generalize numD m=d at *;have hov:¬ 9223372036854775807 < q.size+db.size:=by omega
  clear hm v3;go_enter Tryz.func36,Tryz.ntmps36
  go_wp2_with (go_at_call 63;refine (In_any _ _ _ _).mono ?_;rintro e w' ⟨rfl,rfl⟩)
  refine (A.out _).mono ?_;rintro e w1 ⟨rfl,k1⟩
  go_wp2_with fail
  refine (D.out _).mono ?_;rintro e w2 ⟨rfl,k2⟩;have kk:=k1.trans (k2.mono k1.size)
  go_wp2_with fail
  refine (B.out _).mono ?_;rintro e w3 ⟨rfl,k3⟩;have kk3:=kk.trans (k3.mono kk.size);go_wp2;go_ret2;refine ⟨?_,kk3⟩;rw [HV.out,HE.out]
  rfl
theorem Number_any (n:Int) (w:World) (ht:PowTab w):Calls Tryz.prog 27 #[I n] w (NumP n w):=by
  cases h:inB n 0 49
  · exact Number_bad n w h
  · rw [inB_true] at h
    obtain ⟨m,rfl⟩:=Int.eq_ofNat_of_zero_le h.1;exact Number_good m w (by omega) ht
theorem NumberOf_any (n:Int) (w:World):Calls Tryz.prog 36 #[I n] w (NumP n w):=by
  cases h:inB n 0 49
  · exact NumberOf_bad n w h
  · rw [inB_true] at h
    obtain ⟨m,rfl⟩:=Int.eq_ofNat_of_zero_le h.1;exact NumberOf_good m w (by omega)
end Go.Proofs.YtfhmcahfjoliiaaGreatDoor
