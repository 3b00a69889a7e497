/- ref.Dec: decimal digits · cents.Part and its reference: the contracts -/
import Derived.Test.YtfhmcahfjoliiaaGreatDoorPk02
import Derived.Test.YtfhmcahfjoliiaaGreatDoorPk24
import Derived.Test.YtfhmcahfjoliiaaGreatDoorPk01
import Derived.Lib.ItoaNum
import Derived.Lib.SlBytesRow
import Derived.IntWalk
set_option maxRecDepth 20000
set_option maxHeartbeats 8000000
set_option linter.unusedSimpArgs false
set_option linter.unusedVariables false
namespace Go.Proofs.YtfhmcahfjoliiaaGreatDoor
section
open Go.RowKit

/-- the decimal digits of n -/
def decS (n:Nat):ByteArray:=⟨(Go.Lib.decDigits n).toArray⟩
theorem decS_small {n:Nat} (h:n < 10):decS n=⟨#[UInt8.ofNat (48+n)]⟩:=by unfold decS;rw [Go.Lib.decDigits_one h]
theorem decS_big {n:Nat} (h:¬ n < 10):decS n=decS (n / 10)++decS (n%10):=by
  rw [decS_small (Nat.mod_lt n (by decide))];apply ByteArray.ext;apply Array.toList_inj.1;rw [ByteArray.data_append,Array.toList_append];show Go.Lib.decDigits n=Go.Lib.decDigits (n / 10)++[UInt8.ofNat (48+n%10)];rw [Go.Lib.decDigits,dif_neg h]
theorem decS_size {n k : Nat} (h : n < 10 ^ k) (hk : 0 < k) : (decS n).size ≤ k := by
  show (Go.Lib.decDigits n).toArray.size≤k;rw [List.size_toArray,Go.Lib.decDigits_length]
  induction k generalizing n with
  | zero=>omega
  | succ k ih=>
    by_cases h10:n < 10
    · rw [Go.Lib.nDigits_small h10];omega
    · rw [Go.Lib.nDigits_big h10]
      have:n / 10 < 10^k:=by rw [Nat.pow_succ] at h;omega
      have hk0:0 < k:=by
        cases k with
        | zero=>simp at this;omega
        | succ=>omega
      have:=ih this hk0;omega
theorem decS_20 {n:Nat} (h:n < 9223372036854775808):(decS n).size≤19:=decS_size (k:=19) (by omega) (by decide)
theorem dec_conv (n : Nat) (hn : n < 10) (w : World) : (convert 58 9 (.slice (some ⟨w.heap.size, 0, none⟩) 1 1)).run Tryz.prog (w.alloc (.cells #[.int .u8 (48 + (n : Int))] 5)) = .ok (.string (decS n)) (w.alloc (.cells #[.int .u8 (48 + (n : Int))] 5)) := by
  have h:=Go.Lib.run_convert_whole (P:=Tryz.prog) (w.alloc (.cells #[.int .u8 (48+(n:Int))] 5)) 58 5 9 (by kernel_rfl) (by kernel_rfl) (by kernel_rfl) w.heap.size 0 (decS n) (fun i hi=>by
    rw [decS_small hn] at hi;have hi0:i=0:=by have:i < 1:=hi;omega
    subst hi0;have hc:(w.alloc (.cells #[.int .u8 (48+(n:Int))] 5)).cell? ⟨w.heap.size,0+0,none⟩=some (.int .u8 (48+(n:Int))):=cell_one w _ _;rw [hc]
    have hb:(decS n)[0].toNat=48+n:=by
      have:∀ (b:ByteArray) (h:0 < b.size),b=⟨#[UInt8.ofNat (48+n)]⟩→(b[0]'h).toNat=48+n:=by
        rintro b h rfl;show (UInt8.ofNat (48+n)).toNat=48+n;simp;omega
      exact this _ _ (decS_small hn)
    rw [hb]
    congr 2) 1
  have hz:(decS n).size=1:=by rw [decS_small hn];rfl
  rw [hz] at h;exact h
theorem Dec_small (n:Nat) (w:World) (hn:n < 10):Calls Tryz.prog 40 #[I n] w (Grew (.string (decS n)) w):=by
  have hc:=dec_conv n hn w;generalize decS n=b at *;have h0:(0:Int)≤(n:Int):=by omega
  have h1:(n:Int) < 10:=by omega
  have q1:IntKind.u8.wrap (48+(n:Int))=48+(n:Int):=by show (48+(n:Int))%256=_;omega
  go_enter Tryz.func40,Tryz.ntmps40;go_wp2;go_ret;exact ⟨rfl,below_auto⟩
theorem Dec_step (n:Nat) (w:World) (hn:¬ n < 10) (h63:n < 9223372036854775808) (ih:∀ m W,m < n→m < 9223372036854775808→Calls Tryz.prog 40 #[I m] W (Grew (.string (decS m)) W)):Calls Tryz.prog 40 #[I n] w (Grew (.string (decS n)) w):=by
  have A:=Lib.hid (fun W=>ih (n / 10) W (by omega) (by omega));have B:=Lib.hid (fun W=>ih (n%10) W (by omega) (by omega));have hd:=Lib.hid (decS_big hn);have s1:=decS_20 (n:=n / 10) (by omega);have s2:=decS_20 (n:=n%10) (by omega);generalize decS (n / 10)=a at *;generalize decS (n%10)=b at *;have hov:¬ 9223372036854775807 < a.size+b.size:=by omega
  have e1:(n:Int) / 10=((n / 10:Nat):Int):=by omega
  have e2:(n:Int)%10=((n%10:Nat):Int):=by omega
  rw [← e1] at A;rw [← e2] at B;have h0:(0:Int)≤(n:Int):=by omega
  have h1:¬ (n:Int) < 10:=by omega
  have h2:¬ (n:Int) < 0:=by omega
  have h3:(n:Int)≤9223372036854775807:=by omega
  clear e1 e2 s1 s2 hn h63;go_enter Tryz.func40,Tryz.ntmps40
  go_wp2_with fail
  refine (A.out _).mono ?_;rintro e w1 ⟨rfl,k1⟩
  go_wp2_with fail
  refine (B.out _).mono ?_;rintro e w2 ⟨rfl,k2⟩;have kk:=k1.trans (k2.mono k1.size);go_wp2;go_ret;exact ⟨by rw [hd.out];rfl,kk⟩
theorem Dec_nat (n:Nat):∀ (w:World),n < 9223372036854775808→Calls Tryz.prog 40 #[I n] w (Grew (.string (decS n)) w):=by
  induction n using Nat.strongRecOn with
  | _ n ih=>
    intro w h
    by_cases h10:n < 10
    · exact Dec_small n w h10
    · exact Dec_step n w h10 h fun m W hm hm2=>ih m hm W hm2
end
section
open Go.RowKit

theorem within_any (n low high:Int) (w:World):Calls Tryz.prog 60 #[I n,I low,I high] w (Pure (.bool (inB n low high)) w):=by
  go_enter Tryz.func60,Tryz.ntmps60;go_wp2
  all_goals
    go_ret;refine Pure.intro ?_;simp only [inB];simp [*]
    try omega

def partOk (a b:Int):Bool:=inB a 0 1000000000000&&inB b 0 10000
def partA (a b:Int):Int:=if partOk a b then a*b / 10000 else 0
def partE (a b:Int):Int:=if partOk a b then 0 else 2

end
end Go.Proofs.YtfhmcahfjoliiaaGreatDoor
