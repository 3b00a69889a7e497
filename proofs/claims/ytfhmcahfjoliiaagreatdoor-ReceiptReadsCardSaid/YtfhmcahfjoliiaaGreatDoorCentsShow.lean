/- cents.Show and its reference -/
import Derived.Test.YtfhmcahfjoliiaaGreatDoorPk29
import Derived.Test.YtfhmcahfjoliiaaGreatDoorShelf
import Derived.Deep.RegionHeld3
import Derived.Shelf.Unicode.PredsPay
set_option maxRecDepth 20000
set_option maxHeartbeats 8000000
set_option linter.unusedSimpArgs false
set_option linter.unusedVariables false
namespace Go.Proofs.YtfhmcahfjoliiaaGreatDoor
open Go.RowKit

abbrev PowTab (w : World) : Prop := Go.Lib.TabIs Tryz.prog w "internal/strconv.uint64pow10" .u64 Go.Lib.pow10Tab
theorem PowTab.below {w w':World} (h:PowTab w) (hb:Below w.heap.size w w'):PowTab w':=TabIs_below (g:=6) (by kernel_rfl) h hb
theorem grow_grew (w:World) (k:Nat) (os:Array Obj):Below w.heap.size w (Go.Sort.grow (w.drewN k) os):=
  ⟨rfl,rfl,rfl,by simp [Go.Sort.grow],fun i hi=>by simp [Go.Sort.grow,Array.getElem?_append,show i < w.heap.size from hi]⟩
theorem Itoa_nat (n:Nat) (w:World) (hn:n < 9223372036854775808) (ht:PowTab w):Calls Tryz.prog 29 #[I n] w (Grew (.string (decS n)) w):=by
  refine (Tryz.strconv_Itoa (n:Int) (by omega) (by omega) w ht).mono ?_;rintro e w' ⟨rfl,k,os,rfl⟩;refine ⟨?_,grow_grew _ _ _⟩;have:Go.Lib.itoa (n:Int)=Go.Lib.decDigits n:=by unfold Go.Lib.itoa;rw [if_neg (by omega),Int.toNat_natCast]
  rw [this];rfl
/-- whole and last, with a point -/
def bodyS (m:Nat):ByteArray:=decS (m / 100)++(⟨#[46]⟩++(decS (m / 10%10)++decS (m%10)))
def centsS (n:Int):ByteArray:=if n < 0 then ⟨#[45]⟩++bodyS n.natAbs else bodyS n.natAbs
def showE (n:Int):Int:=if inB n (-1000000000000) 1000000000000 then 0 else 2
def showV (n:Int):ByteArray:=if inB n (-1000000000000) 1000000000000 then centsS n else ⟨#[]⟩
def ShowP (n:Int) (w:World) (e:Ending) (w':World):Prop:=Grew (T2 (.string (showV n)) (I (showE n))) w e w'
theorem last_cut (m:Nat):(decS (100+m%100)).size=3∧(decS (100+m%100)).extract 1 3=decS (m / 10%10)++decS (m%10):=by
  have h1:decS (100+m%100)=decS 1++(decS (m / 10%10)++decS (m%10)):=by
    rw [decS_big (by omega),show (100+m%100) / 10=10+m / 10%10 by omega,show (100+m%100)%10=m%10 by omega];rw [decS_big (n:=10+m / 10%10) (by omega),show (10+m / 10%10) / 10=1 by omega,show (10+m / 10%10)%10=m / 10%10 by omega,ByteArray.append_assoc]
  have s1:∀ k,k < 10→(decS k).size=1:=fun k hk=>by rw [decS_small hk];rfl
  have z1:=s1 1 (by decide);have z2:=s1 (m / 10%10) (by omega);have z3:=s1 (m%10) (by omega);rw [h1];generalize decS 1=a at *;generalize decS (m / 10%10)=b at *;generalize decS (m%10)=c at *;refine ⟨by rw [ByteArray.size_append,ByteArray.size_append];omega,?_⟩;apply ByteArray.ext;apply Array.toList_inj.1;have la:a.data.toList.length=1:=by rw [Array.length_toList];exact z1
  have lb:b.data.toList.length=1:=by rw [Array.length_toList];exact z2
  have lc:c.data.toList.length=1:=by rw [Array.length_toList];exact z3
  rw [Go.Lib.extract_data];simp only [ByteArray.data_append,Array.toList_append];rw [List.drop_append_of_le_length (by omega),List.drop_of_length_le (by omega),List.nil_append,List.take_of_length_le (by simp;omega)]
theorem Show_bad (n:Int) (w:World) (h:inB n (-1000000000000) 1000000000000=false):Calls Tryz.prog 31 #[I n] w (ShowP n w):=by
  have hE:=Lib.hid (show showE n=2 by unfold showE;rw [h];rfl);have hV:=Lib.hid (show showV n=⟨#[]⟩ by unfold showV;rw [h];rfl);go_enter Tryz.func31,Tryz.ntmps31
  go_wp2_with (go_at_call 60;refine (within_any _ _ _ _).mono ?_;rintro e w' ⟨rfl,rfl⟩)
  go_ret2;exact ⟨by rw [hE.out,hV.out];rfl,below_auto⟩
theorem Shown_bad (n:Int) (w:World) (h:inB n (-1000000000000) 1000000000000=false):Calls Tryz.prog 39 #[I n] w (ShowP n w):=by
  have hE:=Lib.hid (show showE n=2 by unfold showE;rw [h];rfl);have hV:=Lib.hid (show showV n=⟨#[]⟩ by unfold showV;rw [h];rfl);go_enter Tryz.func39,Tryz.ntmps39
  go_wp2_with (go_at_call 63;refine (In_any _ _ _ _).mono ?_;rintro e w' ⟨rfl,rfl⟩)
  go_ret2;exact ⟨by rw [hE.out,hV.out];rfl,below_auto⟩
theorem cat_pos (a b c:ByteArray):(⟨#[]⟩:ByteArray)++a++b++c=a++(b++c):=by
  apply ByteArray.ext;apply Array.toList_inj.1;simp [ByteArray.data_append]
theorem cat_neg (s a b c:ByteArray):s++a++b++c=s++(a++(b++c)):=by
  apply ByteArray.ext;apply Array.toList_inj.1;simp [ByteArray.data_append]
theorem show_pos (m:Nat) (hm:m≤1000000000000):showV m=bodyS m∧showE m=0:=by
  have hin:inB (m:Int) (-1000000000000) 1000000000000=true:=by rw [inB_true];omega
  refine ⟨?_,by unfold showE;rw [hin];rfl⟩;unfold showV;rw [hin];unfold centsS;rw [if_pos rfl,if_neg (by omega),Int.natAbs_natCast]
theorem show_neg (m:Nat) (hm:m≤1000000000000) (h0:0 < m):showV (-(m:Int))=⟨#[45]⟩++bodyS m∧showE (-(m:Int))=0:=by
  have hin:inB (-(m:Int)) (-1000000000000) 1000000000000=true:=by rw [inB_true];omega
  refine ⟨?_,by unfold showE;rw [hin];rfl⟩;unfold showV;rw [hin];unfold centsS;rw [if_pos rfl,if_pos (by omega),Int.natAbs_neg,Int.natAbs_natCast]
theorem Show_pos (m:Nat) (w:World) (hm:m≤1000000000000) (ht:PowTab w):Calls Tryz.prog 31 #[I m] w (ShowP m w):=by
  have hin:inB (m:Int) (-1000000000000) 1000000000000=true:=by rw [inB_true];omega
  obtain ⟨hV,hE⟩:=show_pos m hm;have h1:¬ (m:Int) < 0:=by omega
  obtain ⟨z3,hcut⟩:=last_cut m;have hbody:bodyS m=decS (m / 100)++(⟨#[46]⟩++(decS (100+m%100)).extract 1 3):=by unfold bodyS;rw [hcut]
  have A:=Lib.hid (Itoa_nat (100+m%100) w (by omega) ht);have B:=Lib.hid (fun W hW=>Itoa_nat (m / 100) W (by omega) hW);have hs:=decS_20 (n:=m / 100) (by omega);have e1:(100:Int)+(m:Int)%100=((100+m%100:Nat):Int):=by omega
  have e2:(m:Int) / 100=((m / 100:Nat):Int):=by omega
  rw [← e1] at A;rw [← e2] at B;rw [hbody] at hV;have HV:=Lib.hid hV;have HE:=Lib.hid hE;clear hV hE hbody;generalize decS (100+m%100)=la at *;generalize decS (m / 100)=hi at *;have h0:(0:Int)≤(m:Int):=by omega
  have h2:(m:Int)≤1000000000000:=by omega
  have hov1:¬ 9223372036854775807 < hi.size:=by omega
  have hov2:¬ 9223372036854775807 < hi.size+1:=by omega
  have hov3:¬ 9223372036854775807 < hi.size+1+(la.size-1):=by omega
  have hov4:¬ 9223372036854775807 < hi.size+1+2:=by omega
  have hov5:¬ 9223372036854775807 < 1+hi.size:=by omega
  have hov6:¬ 9223372036854775807 < 1+hi.size+1:=by omega
  have hov7:¬ 9223372036854775807 < 1+hi.size+1+(la.size-1):=by omega
  have hov8:¬ 9223372036854775807 < 1+hi.size+1+2:=by omega
  have hl1:(1:Int)≤(la.size:Int):=by omega
  have HT:=Lib.hid ht;have t1:(m:Int).tdiv 100=(m:Int) / 100:=Int.tdiv_eq_ediv_of_nonneg h0;have t2:IntKind.i64.wrap ((m:Int) / 100)=(m:Int) / 100:=IntWalk.i64_in _ (by omega);clear e1 e2 hcut hs ht;go_enter Tryz.func31,Tryz.ntmps31
  go_wp2_with (go_at_call 60;refine (within_any _ _ _ _).mono ?_;rintro e w' ⟨rfl,rfl⟩)
  refine A.out.mono ?_;rintro e w1 ⟨rfl,k1⟩;have HT1:=Lib.hid (HT.out.below k1);go_wp2
  go_region_held3 (fun _=>True) (first | go_keep | trivial) ((first | ((with_reducible refine (B.out _ ?_).mono ?_);(exact HT1.out);rintro e w2 ⟨rfl,k2⟩) | fail))
  all_goals
    have kk:Below w.heap.size w w2:=k1.trans ((show Below w1.heap.size w1 w2 from ⟨k2.os,k2.tape,k2.output,k2.size,k2.block⟩).mono k1.size);go_wp2;go_ret2;refine ⟨?_,kk⟩;rw [HV.out,HE.out];exact congrArg (fun x=>Ending.returned (T2 (.string x) (I 0))) (cat_pos _ _ _)
theorem Show_neg (m:Nat) (w:World) (hm:m≤1000000000000) (hm0:0 < m) (ht:PowTab w):Calls Tryz.prog 31 #[I (-(m:Int))] w (ShowP (-(m:Int)) w):=by
  have hin:inB (-(m:Int)) (-1000000000000) 1000000000000=true:=by rw [inB_true];omega
  obtain ⟨hV,hE⟩:=show_neg m hm hm0;have h1:-(m:Int) < 0:=by omega
  have h1':(0:Int) < (m:Int):=by omega
  obtain ⟨z3,hcut⟩:=last_cut m;have hbody:bodyS m=decS (m / 100)++(⟨#[46]⟩++(decS (100+m%100)).extract 1 3):=by unfold bodyS;rw [hcut]
  have A:=Lib.hid (Itoa_nat (100+m%100) w (by omega) ht);have B:=Lib.hid (fun W hW=>Itoa_nat (m / 100) W (by omega) hW);have hs:=decS_20 (n:=m / 100) (by omega);have e1:(100:Int)+(m:Int)%100=((100+m%100:Nat):Int):=by omega
  have e2:(m:Int) / 100=((m / 100:Nat):Int):=by omega
  rw [← e1] at A;rw [← e2] at B;rw [hbody] at hV;have HV:=Lib.hid hV;have HE:=Lib.hid hE;clear hV hE hbody;generalize decS (100+m%100)=la at *;generalize decS (m / 100)=hi at *;have h0:(0:Int)≤(m:Int):=by omega
  have h2:(m:Int)≤1000000000000:=by omega
  have hov1:¬ 9223372036854775807 < hi.size:=by omega
  have hov2:¬ 9223372036854775807 < hi.size+1:=by omega
  have hov3:¬ 9223372036854775807 < hi.size+1+(la.size-1):=by omega
  have hov4:¬ 9223372036854775807 < hi.size+1+2:=by omega
  have hov5:¬ 9223372036854775807 < 1+hi.size:=by omega
  have hov6:¬ 9223372036854775807 < 1+hi.size+1:=by omega
  have hov7:¬ 9223372036854775807 < 1+hi.size+1+(la.size-1):=by omega
  have hov8:¬ 9223372036854775807 < 1+hi.size+1+2:=by omega
  have hl1:(1:Int)≤(la.size:Int):=by omega
  have HT:=Lib.hid ht;have t1:(m:Int).tdiv 100=(m:Int) / 100:=Int.tdiv_eq_ediv_of_nonneg h0;have t2:IntKind.i64.wrap ((m:Int) / 100)=(m:Int) / 100:=IntWalk.i64_in _ (by omega);clear e1 e2 hcut hs ht;go_enter Tryz.func31,Tryz.ntmps31
  go_wp2_with (go_at_call 60;refine (within_any _ _ _ _).mono ?_;rintro e w' ⟨rfl,rfl⟩)
  refine A.out.mono ?_;rintro e w1 ⟨rfl,k1⟩;have HT1:=Lib.hid (HT.out.below k1);go_wp2
  go_region_held3 (fun _=>True) (first | go_keep | trivial) ((first | ((with_reducible refine (B.out _ ?_).mono ?_);(exact HT1.out);rintro e w2 ⟨rfl,k2⟩) | fail))
  all_goals
    have kk:Below w.heap.size w w2:=k1.trans ((show Below w1.heap.size w1 w2 from ⟨k2.os,k2.tape,k2.output,k2.size,k2.block⟩).mono k1.size);go_wp2;go_ret2;refine ⟨?_,kk⟩;rw [HV.out,HE.out];exact congrArg (fun x=>Ending.returned (T2 (.string x) (I 0))) (cat_neg _ _ _ _)
theorem Shown_pos (m:Nat) (w:World) (hm:m≤1000000000000):Calls Tryz.prog 39 #[I m] w (ShowP m w):=by
  have hin:inB (m:Int) (-1000000000000) 1000000000000=true:=by rw [inB_true];omega
  obtain ⟨hV,hE⟩:=show_pos m hm;have h1:¬ (m:Int) < 0:=by omega
  have A:=Lib.hid (fun W=>Dec_nat (m / 100) W (by omega));have B:=Lib.hid (fun W=>Dec_nat (m / 10%10) W (by omega));have C:=Lib.hid (fun W=>Dec_nat (m%10) W (by omega));have hs:=decS_20 (n:=m / 100) (by omega);have hs1:=decS_size (n:=m / 10%10) (k:=1) (by omega) (by decide);have hs2:=decS_size (n:=m%10) (k:=1) (by omega) (by decide);have e1:(m:Int) / 100=((m / 100:Nat):Int):=by omega
  have e2:(m:Int) / 10%10=((m / 10%10:Nat):Int):=by omega
  have e3:(m:Int)%10=((m%10:Nat):Int):=by omega
  rw [← e1] at A;rw [← e2] at B;rw [← e3] at C;unfold bodyS at hV;have HV:=Lib.hid hV;have HE:=Lib.hid hE;clear hV hE e1 e2 e3;generalize decS (m / 100)=hi at *;generalize decS (m / 10%10)=d1 at *;generalize decS (m%10)=d2 at *;have h0:(0:Int)≤(m:Int):=by omega
  have h2:(m:Int)≤1000000000000:=by omega
  have hov1:¬ 9223372036854775807 < hi.size:=by omega
  have hov2:¬ 9223372036854775807 < hi.size+1:=by omega
  have hov3:¬ 9223372036854775807 < hi.size+1+d1.size:=by omega
  have hov4:¬ 9223372036854775807 < hi.size+1+d1.size+d2.size:=by omega
  clear hs hs1 hs2;go_enter Tryz.func39,Tryz.ntmps39
  go_wp2_with (go_at_call 63;refine (In_any _ _ _ _).mono ?_;rintro e w' ⟨rfl,rfl⟩)
  refine (A.out _).mono ?_;rintro e w1 ⟨rfl,k1⟩
  go_wp2_with fail
  refine (B.out _).mono ?_;rintro e w2 ⟨rfl,k2⟩
  go_wp2_with fail
  refine (C.out _).mono ?_;rintro e w3 ⟨rfl,k3⟩;have kk:=k1.trans (k2.mono k1.size);have kk3:=kk.trans (k3.mono kk.size);clear k1 k2 k3 kk;go_wp2;go_ret2;refine ⟨?_,kk3⟩;rw [HV.out,HE.out];exact congrArg (fun x=>Ending.returned (T2 (.string x) (I 0))) (cat_neg _ _ _ _)
theorem Shown_neg (m:Nat) (w:World) (hm:m≤1000000000000) (hm0:0 < m):Calls Tryz.prog 39 #[I (-(m:Int))] w (ShowP (-(m:Int)) w):=by
  have hin:inB (-(m:Int)) (-1000000000000) 1000000000000=true:=by rw [inB_true];omega
  obtain ⟨hV,hE⟩:=show_neg m hm hm0;have h1:-(m:Int) < 0:=by omega
  have h1':(0:Int) < (m:Int):=by omega
  have P:=Lib.hid (fun W=>Shown_pos m W hm);unfold ShowP at P;obtain ⟨p1,p2⟩:=show_pos m hm;rw [p1,p2] at P
  have hsz:(bodyS m).size≤30:=by
    unfold bodyS;have hs:=decS_20 (n:=m / 100) (by omega);have hs1:=decS_size (n:=m / 10%10) (k:=1) (by omega) (by decide);have hs2:=decS_size (n:=m%10) (k:=1) (by omega) (by decide);rw [ByteArray.size_append,ByteArray.size_append,ByteArray.size_append];have:(⟨#[46]⟩:ByteArray).size=1:=rfl;omega
  have HV:=Lib.hid hV;have HE:=Lib.hid hE;clear hV hE p1 p2;generalize bodyS m=b at *;have h2:(m:Int)≤1000000000000:=by omega
  have hov1:¬ 9223372036854775807 < 1+b.size:=by omega
  clear hsz;go_enter Tryz.func39,Tryz.ntmps39
  go_wp2_with (go_at_call 63;refine (In_any _ _ _ _).mono ?_;rintro e w' ⟨rfl,rfl⟩)
  refine (P.out _).mono ?_;rintro e w1 ⟨rfl,k1⟩;go_wp2;go_ret2;refine ⟨?_,k1⟩;rw [HV.out,HE.out]
  rfl
theorem Show_any (n:Int) (w:World) (ht:PowTab w):Calls Tryz.prog 31 #[I n] w (ShowP n w):=by
  cases h:inB n (-1000000000000) 1000000000000
  · exact Show_bad n w h
  · rw [inB_true] at h
    by_cases h0:n < 0
    · obtain ⟨m,rfl⟩:∃ m:Nat,n=-(m:Int):=⟨n.natAbs,by omega⟩
      exact Show_neg m w (by omega) (by omega) ht
    · obtain ⟨m,rfl⟩:=Int.eq_ofNat_of_zero_le (show 0≤n by omega)
      exact Show_pos m w (by omega) ht
theorem Shown_any (n:Int) (w:World):Calls Tryz.prog 39 #[I n] w (ShowP n w):=by
  cases h:inB n (-1000000000000) 1000000000000
  · exact Shown_bad n w h
  · rw [inB_true] at h
    by_cases h0:n < 0
    · obtain ⟨m,rfl⟩:∃ m:Nat,n=-(m:Int):=⟨n.natAbs,by omega⟩
      exact Shown_neg m w (by omega) (by omega)
    · obtain ⟨m,rfl⟩:=Int.eq_ofNat_of_zero_le (show 0≤n by omega)
      exact Shown_pos m w (by omega)
end Go.Proofs.YtfhmcahfjoliiaaGreatDoor
