/- words.Plus, words.Times: their references, and the plain law · bits and fields of wide numbers: the plain laws · bits.Div32 -/
import Derived.Test.YtfhmcahfjoliiaaGreatDoorWordsUp
set_option maxRecDepth 20000
set_option maxHeartbeats 8000000
set_option linter.unusedSimpArgs false
set_option linter.unusedVariables false
namespace Go.Proofs.YtfhmcahfjoliiaaGreatDoor
section
open Go.RowKit

theorem digits4 {N w0 w1 w2 c:Nat} (h0:w0 < 4294967296) (h1:w1 < 4294967296) (h2:w2 < 4294967296) (hN:N=w0+4294967296*(w1+4294967296*(w2+4294967296*c))):
    N%4294967296=w0∧N / 4294967296%4294967296=w1∧N / 18446744073709551616%4294967296=w2∧N / 79228162514264337593543950336=c:=by
  have hB:(0:Nat) < 4294967296:=by decide
  have a1:N / 4294967296=w1+4294967296*(w2+4294967296*c):=by rw [hN,Nat.add_mul_div_left _ _ hB,Nat.div_eq_of_lt h0,Nat.zero_add]
  have a2:N / 18446744073709551616=w2+4294967296*c:=by
    rw [show (18446744073709551616:Nat)=4294967296*4294967296 from rfl,← Nat.div_div_eq_div_mul,a1,Nat.add_mul_div_left _ _ hB,Nat.div_eq_of_lt h1,Nat.zero_add]
  have a3:N / 79228162514264337593543950336=c:=by
    rw [show (79228162514264337593543950336:Nat)=18446744073709551616*4294967296 from rfl,← Nat.div_div_eq_div_mul,a2,Nat.add_mul_div_left _ _ hB,Nat.div_eq_of_lt h2,Nat.zero_add]
  refine ⟨?_,?_,?_,a3⟩
  · rw [hN,Nat.add_mul_mod_self_left,Nat.mod_eq_of_lt h0]
  · rw [a1,Nat.add_mul_mod_self_left,Nat.mod_eq_of_lt h1]
  · rw [a2,Nat.add_mul_mod_self_left,Nat.mod_eq_of_lt h2]
theorem plus_digits (a b c x:Nat):val [a,b,c]+x=wordC plusF [a,b,c] x 0+4294967296*(wordC plusF [a,b,c] x 1+4294967296*(wordC plusF [a,b,c] x 2+4294967296*carryC plusF [a,b,c] x 3)):=by
  have e:∀ s:Nat,s%4294967296+4294967296*(s / 4294967296)=s:=fun s=>Nat.mod_add_div s _;have h0:=e (a+x);have h1:=e (b+(a+x) / 4294967296);have h2:=e (c+(b+(a+x) / 4294967296) / 4294967296);simp only [wordC,carryC,plusF,List.getD_cons_zero,List.getD_cons_succ,val3];generalize (a+x) / 4294967296=c1 at *;generalize (b+c1) / 4294967296=c2 at *;generalize (c+c2) / 4294967296=c3 at *;generalize (a+x)%4294967296=s0 at *;generalize (b+c1)%4294967296=s1 at *;generalize (c+c2)%4294967296=s2 at *;omega
theorem times_digits (a b c m:Nat):val [a,b,c]*m=wordC (timesF m) [a,b,c] 0 0+4294967296*(wordC (timesF m) [a,b,c] 0 1+4294967296*(wordC (timesF m) [a,b,c] 0 2+4294967296*carryC (timesF m) [a,b,c] 0 3)):=by
  have e:∀ s:Nat,s%4294967296+4294967296*(s / 4294967296)=s:=fun s=>Nat.mod_add_div s _;simp only [wordC,carryC,timesF,List.getD_cons_zero,List.getD_cons_succ,val3,Nat.add_zero];rw [Nat.add_mul,Nat.mul_assoc,Nat.add_mul,Nat.mul_assoc];generalize a*m=am;generalize b*m=bm;generalize c*m=cm;have h0:=e am;have h1:=e (bm+am / 4294967296);have h2:=e (cm+(bm+am / 4294967296) / 4294967296);generalize am / 4294967296=c1 at *;generalize (bm+c1) / 4294967296=c2 at *;generalize (cm+c2) / 4294967296=c3 at *;generalize am%4294967296=s0 at *;generalize (bm+c1)%4294967296=s1 at *;generalize (cm+c2)%4294967296=s2 at *;omega

end
section
open Go.RowKit

theorem wide_bit (a b c p:Nat) (ha:a < 4294967296) (hb:b < 4294967296):([a,b,c].getD (p / 32) 0).testBit (p%32)=((val [a,b,c]).testBit p&&decide (p < 96))∨96≤p:=by
  by_cases h3:96≤p
  · exact .inr h3
  refine .inl ?_;rw [decide_eq_true (by omega),Bool.and_true,val3,show (4294967296:Nat)=2^32 from rfl,Nat.add_comm a,Nat.testBit_two_pow_mul_add _ ha]
  by_cases h1:p < 32
  · rw [if_pos h1,Nat.div_eq_of_lt h1,Nat.mod_eq_of_lt h1];rfl
  · rw [if_neg h1,Nat.add_comm b,Nat.testBit_two_pow_mul_add _ hb]
    by_cases h2:p < 64
    · rw [if_pos (by omega),show p / 32=1 by omega,show p%32=p-32 by omega];rfl
    · rw [if_neg (by omega),show p / 32=2 by omega,show p%32=p-32-32 by omega];rfl
theorem bit_div {x p:Nat} {y q:Nat} (h:x.testBit p=y.testBit q):x / 2^p%2=y / 2^q%2:=by
  rw [Nat.testBit_eq_decide_div_mod_eq,Nat.testBit_eq_decide_div_mod_eq,decide_eq_decide] at h;omega
theorem wide_bit2 (a b c p:Nat) (ha:a < 4294967296) (hb:b < 4294967296) (hp:p < 96):[a,b,c].getD (p / 32) 0 / 2^(p%32)%2=val [a,b,c] / 2^p%2:=by
  rcases wide_bit a b c p ha hb with h | h
  · rw [decide_eq_true hp,Bool.and_true] at h
    exact bit_div h
  · omega
/-- n bits from bit lo on -/
def fld (N lo n:Nat):Nat:=N / 2^lo%2^n
theorem fld_lt (N lo n:Nat):fld N lo n < 2^n:=Nat.mod_lt _ (Nat.two_pow_pos n)
theorem fld_zero (N lo:Nat):fld N lo 0=0:=by simp [fld,Nat.mod_one]
/-- one bit lower -/
theorem fld_down (N p k:Nat):fld N p (k+1)=2*fld N (p+1) k+N / 2^p%2:=by
  unfold fld;rw [Nat.pow_succ,Nat.mul_comm (2^k) 2,Nat.mod_mul,Nat.div_div_eq_div_mul,← Nat.pow_succ,Nat.add_comm]
/-- the lowest i bits of v laid into the field -/
def putV (N lo v i:Nat):Nat:=N-fld N lo i*2^lo+fld v 0 i*2^lo
/-- a word with bit s made y -/
def setB (x s y:Nat):Nat:=x-(x / 2^s%2)*2^s+y*2^s
end
section
open Go.RowKit

theorem Div32_any (r x d:Nat) (w:World) (hr:r < d) (hx:x < 4294967296) (hd:d < 4294967296):
    Calls Tryz.prog 112 #[U32 r,U32 x,U32 d] w (Grew (T2 (U32 ((4294967296*r+x) / d:Nat)) (U32 ((4294967296*r+x)%d:Nat))) w):=by
  have hor:=Lib.hid (or64s r x (by omega) hx);have hz:(4294967296*r+x) < 18446744073709551616:=by omega
  have hq:(4294967296*r+x) / d < 4294967296:=by
    refine Nat.div_lt_of_lt_mul ?_;omega
  have hm:(4294967296*r+x)%d < 4294967296:=Nat.lt_trans (Nat.mod_lt _ (by omega)) hd;generalize 4294967296*r+x=z at *;have d0:¬ (d:Int)=0:=by omega
  have d1:¬ (d:Int)≤(r:Int):=by omega
  have hq2:=Lib.hid hq;have hm2:=Lib.hid hm;have hz2:=Lib.hid hz;have hr2:=Lib.hid hr;clear hz hq hm hr;go_enter Tryz.func112,Tryz.ntmps112;go_wp2;have e1:((z:Nat):Int).tmod (d:Int)=((z%d:Nat):Int):=rfl;have e2:((z:Nat):Int).tdiv (d:Int)=((z / d:Nat):Int):=rfl
  have e3:IntKind.u64.wrap (((z / d:Nat):Int))%4294967296=((z / d:Nat):Int):=by
    have:=hq2.out;generalize z / d=q at *;show (q:Int)%18446744073709551616%4294967296=_;omega
  have e4:(((z%d:Nat):Int))%4294967296=((z%d:Nat):Int):=by have:=hm2.out;omega
  have E:=Lib.hid (And.intro e1 (And.intro e2 (And.intro e3 e4)));clear e1 e2 e3 e4
  go_quiet (fail)
  go_wp2;rw [hor.out,E.out.1,E.out.2.1,E.out.2.2.1,E.out.2.2.2];go_ret2;exact ⟨rfl,below_auto⟩
end
end Go.Proofs.YtfhmcahfjoliiaaGreatDoor
