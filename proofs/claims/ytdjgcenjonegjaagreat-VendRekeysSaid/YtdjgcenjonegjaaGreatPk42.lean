/- words.Plus, words.Times: their references, and the plain law · bits and fields of wide numbers: the plain laws · bits.Div32 · words.Over · ref.Divided, and the plain law · words.Bits, ref.Field · The library functions of this program by the kit's contracts, in plain words (written by the kit's lay-shelf and lay-plain). No conditions. · windows: the plain laws · words.Put -/
import Derived.Test.YtdjgcenjonegjaaGreatPk41
import Derived.Test.YtdjgcenjonegjaaGreatPk01
import Derived.Shelf.Strings.Builder1
import Derived.Shelf.Strings.Builder2
import Derived.Shelf.Strings.OnBuilder
import Derived.Shelf.Strings.BuilderF
import Derived.Shelf.Strings.BuilderK
import Derived.Shelf.Strings.Builder2Cap
import Derived.Shelf.Strconv.Itoa0
import Derived.Shelf.Strings.Prefix
import Derived.Shelf.Bits.Mul64
import Derived.Shelf.Strings.Repeat
import Derived.Shelf.Strings.BuilderCap
import Derived.Ground.Names2Prog
import Derived.Shelf.Slices.ReverseS
import Derived.Shelf.Slices.Cells
import Derived.Test.YtdjgcenjonegjaaGreatProg
import Derived.Lib.ItoaNum
namespace Go.Proofs.YtdjgcenjonegjaaGreat
set_option linter.unusedSimpArgs false
set_option linter.unusedVariables false
open Go.RowKit
set_option maxRecDepth 20000

theorem digits4 {N w0 w1 w2 c:Nat} (h0:w0 < 4294967296) (h1:w1 < 4294967296) (h2:w2 < 4294967296) (hN:N=w0+4294967296*(w1+4294967296*(w2+4294967296*c))):
    N%4294967296=w0∧N / 4294967296%4294967296=w1∧N / 18446744073709551616%4294967296=w2∧N / 79228162514264337593543950336=c:=by
  have hB:(0:Nat) < 4294967296:=by decide
  have a1:N / 4294967296=w1+4294967296*(w2+4294967296*c):=by rw [hN,Nat.add_mul_div_left _ _ hB,Nat.div_eq_of_lt h0,Nat.zero_add]
  have a2:N / 18446744073709551616=w2+4294967296*c:=by
    rw [show (18446744073709551616:Nat)=4294967296*4294967296 from rfl,← Nat.div_div_eq_div_mul,a1,Nat.add_mul_div_left _ _ hB,Nat.div_eq_of_lt h1,Nat.zero_add]
  have a3:N / 79228162514264337593543950336=c:=by
    rw [show (79228162514264337593543950336:Nat)=18446744073709551616*4294967296 from rfl,← Nat.div_div_eq_div_mul,a2,Nat.add_mul_div_left _ _ hB,Nat.div_eq_of_lt h2,Nat.zero_add]
  refine ⟨?_,?_,?_,a3⟩
  · rw [hN,Nat.add_mul_mod_self_left,Nat.mod_eq_of_lt h0]
  · rw [a1,Nat.add_mul_mod_self_left,Nat.mod_eq_of_lt h1]
  · rw [a2,Nat.add_mul_mod_self_left,Nat.mod_eq_of_lt h2]
theorem times_digits (a b c m:Nat):val [a,b,c]*m=wordC (timesF m) [a,b,c] 0 0+4294967296*(wordC (timesF m) [a,b,c] 0 1+4294967296*(wordC (timesF m) [a,b,c] 0 2+4294967296*carryC (timesF m) [a,b,c] 0 3)):=by
  have e:∀ s:Nat,s%4294967296+4294967296*(s / 4294967296)=s:=fun s=>Nat.mod_add_div s _;simp only [wordC,carryC,timesF,List.getD_cons_zero,List.getD_cons_succ,val3,Nat.add_zero];rw [Nat.add_mul,Nat.mul_assoc,Nat.add_mul,Nat.mul_assoc];generalize a*m=am;generalize b*m=bm;generalize c*m=cm;have h0:=e am;have h1:=e (bm+am / 4294967296);have h2:=e (cm+(bm+am / 4294967296) / 4294967296);generalize am / 4294967296=c1 at *;generalize (bm+c1) / 4294967296=c2 at *;generalize (cm+c2) / 4294967296=c3 at *;generalize am%4294967296=s0 at *;generalize (bm+c1)%4294967296=s1 at *;generalize (cm+c2)%4294967296=s2 at *;omega

end Go.Proofs.YtdjgcenjonegjaaGreat
namespace Go.Proofs.YtdjgcenjonegjaaGreat
set_option linter.unusedSimpArgs false
set_option linter.unusedVariables false
open Go.RowKit
set_option maxRecDepth 20000

theorem wide_bit (a b c p:Nat) (ha:a < 4294967296) (hb:b < 4294967296):([a,b,c].getD (p / 32) 0).testBit (p%32)=((val [a,b,c]).testBit p&&decide (p < 96))∨96≤p:=by
  by_cases h3:96≤p
  · exact .inr h3
  refine .inl ?_;rw [decide_eq_true (by omega),Bool.and_true,val3,show (4294967296:Nat)=2^32 from rfl,Nat.add_comm a,Nat.testBit_two_pow_mul_add _ ha]
  by_cases h1:p < 32
  · rw [if_pos h1,Nat.div_eq_of_lt h1,Nat.mod_eq_of_lt h1];rfl
  · rw [if_neg h1,Nat.add_comm b,Nat.testBit_two_pow_mul_add _ hb]
    by_cases h2:p < 64
    · rw [if_pos (by omega),show p / 32=1 by omega,show p%32=p-32 by omega];rfl
    · rw [if_neg (by omega),show p / 32=2 by omega,show p%32=p-32-32 by omega];rfl
theorem bit_div {x p:Nat} {y q:Nat} (h:x.testBit p=y.testBit q):x / 2^p%2=y / 2^q%2:=by
  rw [Nat.testBit_eq_decide_div_mod_eq,Nat.testBit_eq_decide_div_mod_eq,decide_eq_decide] at h;omega
theorem wide_bit2 (a b c p:Nat) (ha:a < 4294967296) (hb:b < 4294967296) (hp:p < 96):[a,b,c].getD (p / 32) 0 / 2^(p%32)%2=val [a,b,c] / 2^p%2:=by
  rcases wide_bit a b c p ha hb with h | h
  · rw [decide_eq_true hp,Bool.and_true] at h
    exact bit_div h
  · omega
/-- n bits from bit lo on -/
def fld (N lo n:Nat):Nat:=N / 2^lo%2^n
theorem fld_zero (N lo:Nat):fld N lo 0=0:=by simp [fld,Nat.mod_one]
/-- one bit higher -/
theorem fld_up (N lo k:Nat):fld N lo (k+1)=fld N lo k+2^k*(N / 2^(lo+k)%2):=by
  unfold fld;rw [Nat.pow_succ,Nat.mod_mul,Nat.div_div_eq_div_mul,← Nat.pow_add]
/-- the lowest i bits of v laid into the field -/
def putV (N lo v i:Nat):Nat:=N-fld N lo i*2^lo+fld v 0 i*2^lo
theorem fld_le (N lo n:Nat):fld N lo n*2^lo≤N:=by
  unfold fld;exact Nat.le_trans (Nat.mul_le_mul_right _ (Nat.mod_le _ _)) (Nat.div_mul_le_self _ _)
/-- as high part, new field, low part -/
theorem putV_parts (N lo v i:Nat):putV N lo v i=2^(lo+i)*(N / 2^(lo+i))+(2^lo*(v%2^i)+N%2^lo):=by
  unfold putV fld;have h1:=Nat.div_add_mod N (2^lo);have h2:=Nat.div_add_mod (N / 2^lo) (2^i);rw [Nat.div_div_eq_div_mul,← Nat.pow_add] at h2;rw [Nat.pow_add,Nat.pow_zero,Nat.div_one];rw [Nat.pow_add] at h2;generalize N / (2^lo*2^i)=H at *;generalize N%2^lo=L at *
  have h3:N=2^lo*2^i*H+2^lo*(N / 2^lo%2^i)+L:=by
    conv=>lhs;rw [← h1,← h2,Nat.mul_add,← Nat.mul_assoc]
  generalize N / 2^lo%2^i=F at *;rw [Nat.mul_comm F,Nat.mul_comm (v%2^i)];generalize 2^lo*F=y at *;generalize 2^lo*2^i*H=x at *;generalize 2^lo*(v%2^i)=z at *;omega
theorem low_lt (N lo v i:Nat):2^lo*(v%2^i)+N%2^lo < 2^(lo+i):=by
  have h1:=Nat.mod_lt N (Nat.two_pow_pos lo);have h2:=Nat.mod_lt v (Nat.two_pow_pos i);rw [Nat.pow_add];have h3:2^lo*(v%2^i+1)≤2^lo*2^i:=Nat.mul_le_mul_left _ h2;rw [Nat.mul_add,Nat.mul_one] at h3;omega
theorem putV_bit (N lo v i:Nat):putV N lo v i / 2^(lo+i)%2=N / 2^(lo+i)%2:=by
  rw [putV_parts,Nat.mul_add_div (Nat.two_pow_pos _),Nat.div_eq_of_lt (low_lt N lo v i),Nat.add_zero]
/-- the next bit of the field -/
theorem putV_succ (N lo v i:Nat):putV N lo v (i+1)+(N / 2^(lo+i)%2)*2^(lo+i)=putV N lo v i+(v / 2^i%2)*2^(lo+i):=by
  have h1:=fld_le N lo i;have h2:=fld_le N lo (i+1);unfold putV;rw [fld_up N lo i] at h2 ⊢;rw [fld_up v 0 i,Nat.zero_add,Nat.pow_add];generalize fld N lo i=F at *;generalize fld v 0 i=G at *;rw [← Nat.pow_add 2 lo i];generalize N / 2^(lo+i)%2=x at *;rw [Nat.pow_add];generalize v / 2^i%2=y;rw [Nat.add_mul] at h2 ⊢;rw [Nat.add_mul];have e1:∀ z,2^i*z*2^lo=z*(2^lo*2^i):=fun z=>by rw [Nat.mul_comm (2^i),Nat.mul_assoc,Nat.mul_comm (2^i)]
  rw [e1] at h2 ⊢;rw [e1];generalize F*2^lo=f at *;generalize x*(2^lo*2^i)=p at *;generalize y*(2^lo*2^i)=q at *;generalize G*2^lo=g at *;omega
theorem putV_zero (N lo v:Nat):putV N lo v 0=N:=by simp [putV,fld_zero]
theorem putV_full (N lo v n:Nat) (h:v < 2^n):putV N lo v n=N-fld N lo n*2^lo+v*2^lo:=by
  unfold putV fld;rw [Nat.pow_zero,Nat.div_one,Nat.mod_eq_of_lt h]
/-- a word with bit s made y -/
def setB (x s y:Nat):Nat:=x-(x / 2^s%2)*2^s+y*2^s
theorem bit_le (x s:Nat):(x / 2^s%2)*2^s≤x:=Nat.le_trans (Nat.mul_le_mul_right _ (Nat.mod_le _ _)) (Nat.div_mul_le_self _ _)
theorem setB_add (x s y:Nat):setB x s y+(x / 2^s%2)*2^s=x+y*2^s:=by
  have:=bit_le x s;unfold setB;omega
theorem val_put (a b c p y:Nat) (hp:p < 96):val ([a,b,c].set (p / 32) (setB ([a,b,c].getD (p / 32) 0) (p%32) y))+([a,b,c].getD (p / 32) 0 / 2^(p%32)%2)*2^p=val [a,b,c]+y*2^p:=by
  have h:=setB_add ([a,b,c].getD (p / 32) 0) (p%32) y;have e:2^p=2^(32*(p / 32))*2^(p%32):=by rw [← Nat.pow_add];congr 1;omega
  rw [e];generalize p%32=s at *;generalize [a,b,c].getD (p / 32) 0 / 2^s%2=z at *;rcases (show p / 32=0∨p / 32=1∨p / 32=2 by omega) with hj | hj | hj<;>rw [hj] at h ⊢<;>simp only [List.set_cons_zero,List.set_cons_succ,List.getD_cons_zero,List.getD_cons_succ,val3] at h ⊢
  · rw [Nat.mul_zero,Nat.pow_zero,Nat.one_mul];omega
  · rw [show (2:Nat)^(32*1)=4294967296 from rfl,Nat.mul_left_comm z,Nat.mul_left_comm y]
    generalize z*2^s=zz at *;generalize y*2^s=yy at *;omega
  · rw [show (2:Nat)^(32*2)=18446744073709551616 from rfl,Nat.mul_left_comm z,Nat.mul_left_comm y]
    generalize z*2^s=zz at *;generalize y*2^s=yy at *;omega
/-- the word in three parts -/
theorem word_parts (x s:Nat):x=2^s*(2*(x / 2^(s+1))+x / 2^s%2)+x%2^s:=by
  rw [Nat.pow_succ,← Nat.div_div_eq_div_mul];have h1:=Nat.div_add_mod x (2^s);have h2:=Nat.div_add_mod (x / 2^s) 2;rw [h2,h1]
theorem clear_or (x s:Nat):(x-(x / 2^s%2)*2^s) ||| 2^s=setB x s 1:=by
  have h:=word_parts x s;have hl:=Nat.mod_lt x (Nat.two_pow_pos s)
  have e:x-(x / 2^s%2)*2^s=2^s*(2*(x / 2^(s+1)))+x%2^s:=by
    rw [Nat.mul_add,Nat.mul_comm (2^s) (x / 2^s%2)] at h;omega
  unfold setB;rw [e,Nat.two_pow_add_eq_or_of_lt hl,Nat.or_assoc,Nat.or_comm (x%2^s),← Nat.or_assoc,← Nat.two_pow_add_eq_or_of_lt hl]
  have e2:2^s*(2*(x / 2^(s+1))) ||| 2^s=2^s*(2*(x / 2^(s+1))+1):=by
    have h3:2*(x / 2^(s+1))+1=2*(x / 2^(s+1)) ||| 1:=by
      have:=Nat.two_pow_add_eq_or_of_lt (i:=1) (b:=1) (by decide) (x / 2^(s+1));simpa using this
    rw [h3,Nat.mul_comm (2^s),Nat.mul_comm (2^s),← Nat.shiftLeft_eq,← Nat.shiftLeft_eq,Nat.shiftLeft_or_distrib,Nat.shiftLeft_eq 1,Nat.one_mul]
  rw [e2,← Nat.two_pow_add_eq_or_of_lt hl,Nat.mul_add,Nat.mul_one,Nat.one_mul];omega
end Go.Proofs.YtdjgcenjonegjaaGreat
namespace Go.Proofs.YtdjgcenjonegjaaGreat
set_option linter.unusedSimpArgs false
set_option linter.unusedVariables false
open Go.RowKit
set_option maxRecDepth 20000

set_option maxHeartbeats 1000000 in
theorem Div32_any (r x d:Nat) (w:World) (hr:r < d) (hx:x < 4294967296) (hd:d < 4294967296):
    Calls Tryz.prog 133 #[U32 r,U32 x,U32 d] w (Grew (T2 (U32 ((4294967296*r+x) / d:Nat)) (U32 ((4294967296*r+x)%d:Nat))) w):=by
  have hor:=Lib.hid (or64s r x (by omega) hx);have hz:(4294967296*r+x) < 18446744073709551616:=by omega
  have hq:(4294967296*r+x) / d < 4294967296:=by
    refine Nat.div_lt_of_lt_mul ?_;omega
  have hm:(4294967296*r+x)%d < 4294967296:=Nat.lt_trans (Nat.mod_lt _ (by omega)) hd;generalize 4294967296*r+x=z at *;have d0:¬ (d:Int)=0:=by omega
  have d1:¬ (d:Int)≤(r:Int):=by omega
  have hq2:=Lib.hid hq;have hm2:=Lib.hid hm;have hz2:=Lib.hid hz;have hr2:=Lib.hid hr;clear hz hq hm hr;go_enter Tryz.func133,Tryz.ntmps133;go_wp2;have e1:((z:Nat):Int).tmod (d:Int)=((z%d:Nat):Int):=rfl;have e2:((z:Nat):Int).tdiv (d:Int)=((z / d:Nat):Int):=rfl
  have e3:IntKind.u64.wrap (((z / d:Nat):Int))%4294967296=((z / d:Nat):Int):=by
    have:=hq2.out;generalize z / d=q at *;show (q:Int)%18446744073709551616%4294967296=_;omega
  have e4:(((z%d:Nat):Int))%4294967296=((z%d:Nat):Int):=by have:=hm2.out;omega
  have E:=Lib.hid (And.intro e1 (And.intro e2 (And.intro e3 e4)));clear e1 e2 e3 e4
  go_quiet (fail)
  go_wp2;rw [hor.out,E.out.1,E.out.2.1,E.out.2.2.1,E.out.2.2.2];go_ret2;exact ⟨rfl,below_auto⟩
end Go.Proofs.YtdjgcenjonegjaaGreat
namespace Go.Proofs.YtdjgcenjonegjaaGreat
set_option linter.unusedSimpArgs false
set_option linter.unusedVariables false
open Go.RowKit
set_option maxRecDepth 20000

/-- from the top down: what is left behind k words, and the word of the quotient then -/
def remO (d:Nat) (l:List Nat):Nat→Nat
  | 0=>0
  | k+1=>(4294967296*remO d l k+l.getD (2-k) 0)%d
def quoO (d:Nat) (l:List Nat) (k:Nat):Nat:=(4294967296*remO d l k+l.getD (2-k) 0) / d
def mixO (d:Nat) (l:List Nat) (k i:Nat):Nat:=if 2 < i+k then quoO d l (2-i) else l.getD i 0
theorem remO_lt {d:Nat} {l:List Nat} (hd:0 < d):∀ k,remO d l k < d
  | 0=>hd
  | _+1=>Nat.mod_lt _ hd
theorem quoO_lt {d:Nat} {l:List Nat} (hl:allW l) (hd:0 < d) (k:Nat):quoO d l k < 4294967296:=by
  have h1:=remO_lt (l:=l) hd k;have h2:=allW_at hl (2-k);unfold quoO;refine Nat.div_lt_of_lt_mul ?_;omega
def OverRel (W:World) (d:Nat) (l:List Nat) (k:Nat) (wr:World):Prop:=
  Own wr W.heap.size [U32 (mixO d l k 0),U32 (mixO d l k 1),U32 (mixO d l k 2)]∧Own wr (W.heap.size+1) [U32 0,U32 0,U32 0]∧Below W.heap.size W wr
theorem OverRel.set {W:World} {d k j:Nat} {l:List Nat} {wr:World} (hj:j+k=2) (h:OverRel W d l k wr):Hid (OverRel W d l (k+1) (wr.setCell ⟨W.heap.size,j,none⟩ (U32 (quoO d l k:Nat)))):=by
  refine ⟨?_,h.2.1.other (a:=⟨W.heap.size,j,none⟩) (by show W.heap.size≠W.heap.size+1;omega) _,h.2.2.setCell (p:=⟨W.heap.size,j,none⟩) (Nat.le_refl _) _⟩;have h1:=h.1.set j (U32 (quoO d l k:Nat))
  have e:([U32 (mixO d l k 0),U32 (mixO d l k 1),U32 (mixO d l k 2)]:List Value).set j (U32 (quoO d l k:Nat))=[U32 (mixO d l (k+1) 0),U32 (mixO d l (k+1) 1),U32 (mixO d l (k+1) 2)]:=by
    rcases (show j=0∧k=2∨j=1∧k=1∨j=2∧k=0 by omega) with ⟨rfl,rfl⟩ | ⟨rfl,rfl⟩ | ⟨rfl,rfl⟩<;>simp [mixO]
  rw [e] at h1;exact h1
theorem OverRel.at {W:World} {d k j:Nat} {l:List Nat} {wr:World} (hj:j+k=2) (h:OverRel W d l k wr):wr.cell? ⟨W.heap.size,j,none⟩=some (U32 (l.getD j 0:Nat))∧wr.frozen? ⟨W.heap.size,j,none⟩=false:=by
  refine ⟨?_,h.1.frozen j⟩;have:=h.1.cell j (by simp;omega);rw [Nat.zero_add] at this;rw [this];rcases (show j=0∧k=2∨j=1∧k=1∨j=2∧k=0 by omega) with ⟨rfl,rfl⟩ | ⟨rfl,rfl⟩ | ⟨rfl,rfl⟩<;>simp [mixO]
theorem OverRel.below {W:World} {d k:Nat} {l:List Nat} {wr w':World} (h:OverRel W d l k wr) (k1:Below wr.heap.size wr w'):OverRel W d l k w':=
  ⟨h.1.below k1,h.2.1.below k1,h.2.2.trans (k1.mono h.2.2.size)⟩
theorem OverRel.start {W:World} {d a b c:Nat}:OverRel W d [a,b,c] 0 ((W.alloc (.cells #[U32 a,U32 b,U32 c] 113)).alloc (.cells #[U32 0,U32 0,U32 0] 113)):=
  ⟨(Own.new (w:=W) rfl [U32 a,U32 b,U32 c] 113).alloc _,Own.new (by simp) [U32 0,U32 0,U32 0] 113,(boxed_below W _).alloc (boxed_below W _).size _⟩
def GrewW3 (a b c d:Nat) (er:Int) (w:World) (e:Ending) (w':World):Prop:=e=.returned (.tuple #[wideV a b c,U32 d,.int .i64 er])∧Below w.heap.size w w'
set_option maxHeartbeats 2000000 in
theorem Over_any (a b c d:Nat) (w:World) (ha:a < 4294967296) (hb:b < 4294967296) (hc:c < 4294967296) (hd:d < 4294967296) (hd0:0 < d):
    Calls Tryz.prog 86 #[wideV a b c,U32 d] w (GrewW3 (quoO d [a,b,c] 2) (quoO d [a,b,c] 1) (quoO d [a,b,c] 0) (remO d [a,b,c] 3) 0 w):=by
  have hR:=Lib.hid (OverRel.start (W:=w) (d:=d) (a:=a) (b:=b) (c:=c));have hl:allW [a,b,c]:=by intro d hd;simp at hd;omega
  have HC:=Lib.hid (fun k=>remO_lt (l:=[a,b,c]) hd0 k);have HL:=Lib.hid (allW_at hl);have dz:¬ (d:Int)=0:=by omega
  clear hl;go_enter Tryz.func86,Tryz.ntmps86;go_wp2;have h0:((d:Int)==0)=false:=by simp;omega
  rw [h0];clear h0
  go_loopw [7,8,9,13] (fun cv _ _ i wr=>∃ k:Nat,k≤3∧i=I k∧cv=U32 (remO d [a,b,c] k:Nat)∧Hid (OverRel w d [a,b,c] k wr)) (fun _ _ _ i _=>(3-intOf i).toNat)
  case atStart=>exact ⟨0,by decide,rfl,rfl,hR⟩
  case round=>
    clear hR;obtain ⟨k,hk,rfl,rfl,hR⟩:=hrel
    by_cases hlt:k < 3
    · obtain ⟨j,hj⟩:∃ j,j+k=2:=⟨2-k,by omega⟩
      have ej:(2:Int)-(k:Int)=(j:Int):=by omega
      have hi0:(0:Int)≤(j:Int):=by omega
      have hi1:(j:Int) < 3:=by omega
      have hk3:(k:Int) < 3:=by omega
      obtain ⟨e0,-⟩:=OverRel.at hj hR.out;have HS:=Lib.hid (fun w' (h:Below wr.heap.size wr w')=>And.intro (OverRel.at hj (hR.out.below h)) (OverRel.set hj (hR.out.below h)));have hc1:=HC.out k;have hw1:=HL.out j;have hcs:=Lib.hid (show remO d [a,b,c] (k+1)=(4294967296*remO d [a,b,c] k+[a,b,c].getD j 0)%d by rw [show j=2-k by omega];rfl);have hws:=Lib.hid (show quoO d [a,b,c] k=(4294967296*remO d [a,b,c] k+[a,b,c].getD j 0) / d by rw [show j=2-k by omega];rfl);generalize remO d [a,b,c] k=cc at *;generalize [a,b,c].getD j 0=x at *;have C:=Lib.hid (fun W=>Div32_any cc x d W hc1 hw1 hd);generalize (4294967296*cc+x)%d=c2 at *;generalize (4294967296*cc+x) / d=d2 at *;rw [hws.out] at HS;clear hR hws
      go_wp2_with fail
      refine (C.out _).mono ?_;rintro e w' ⟨rfl,k1⟩;obtain ⟨⟨g0,f0⟩,hnew⟩:=HS.out _ k1;clear HS k1;go_wp2;exact ⟨⟨k+1,by omega,by go_num,by rw [hcs.out],hnew⟩,by simp [intOf];try omega⟩
    · have hk3:k=3:=by omega
      subst hk3;obtain ⟨o1,o2,hbw⟩:=hR.out;have e0:mixO d [a,b,c] 3 0=quoO d [a,b,c] 2:=rfl;have e1:mixO d [a,b,c] 3 1=quoO d [a,b,c] 1:=rfl;have e2:mixO d [a,b,c] 3 2=quoO d [a,b,c] 0:=rfl;rw [e0,e1,e2] at o1;have cO:=o1;have cA:=cO.s3;clear cO;have zO:=o2;have zA:=zO.s3;clear zO;clear o1 o2 hR e0 e1 e2;have r1:=set_same;have r2:=set_off;have r3:=set_blk;go_wp2;refine bodyPost_ret (v:=.tuple #[wideV (quoO d [a,b,c] 2) (quoO d [a,b,c] 1) (quoO d [a,b,c] 0),U32 (remO d [a,b,c] 3:Nat),.int .i64 0]) (by simp [results,Tryz.results86,go_sem, *]) rfl ⟨rfl,below_autor⟩
end Go.Proofs.YtdjgcenjonegjaaGreat
namespace Go.Proofs.YtdjgcenjonegjaaGreat
set_option linter.unusedSimpArgs false
set_option linter.unusedVariables false
open Go.RowKit
set_option maxRecDepth 20000

theorem over_digits (a b c d:Nat):val [a,b,c]=d*(quoO d [a,b,c] 2+4294967296*(quoO d [a,b,c] 1+4294967296*quoO d [a,b,c] 0))+remO d [a,b,c] 3:=by
  have e:∀ s:Nat,s=d*(s / d)+s%d:=fun s=>(Nat.div_add_mod s d).symm;have h0:=e c;have h1:=e (4294967296*(c%d)+b);have h2:=e (4294967296*((4294967296*(c%d)+b)%d)+a);simp only [quoO,remO,List.getD_cons_zero,List.getD_cons_succ,val3,Nat.mul_zero,Nat.zero_add,Nat.sub_self,Nat.sub_zero,show 2-1=1 from rfl];generalize (4294967296*((4294967296*(c%d)+b)%d)+a) / d=q0 at *;generalize (4294967296*((4294967296*(c%d)+b)%d)+a)%d=r0 at *;generalize (4294967296*(c%d)+b) / d=q1 at *;generalize (4294967296*(c%d)+b)%d=r1 at *;generalize c / d=q2 at *;generalize c%d=r2 at *;rw [Nat.mul_add d,Nat.mul_left_comm d,Nat.mul_add d,Nat.mul_left_comm d];generalize d*q0=x at *;generalize d*q1=y at *;generalize d*q2=z at *;omega
end Go.Proofs.YtdjgcenjonegjaaGreat
namespace Go.Proofs.YtdjgcenjonegjaaGreat
set_option linter.unusedSimpArgs false
set_option linter.unusedVariables false
open Go.RowKit
set_option maxRecDepth 20000

def fieldB (lo n:Int):Bool:=decide (0≤lo∧1≤n∧n≤64∧lo+n≤96)
theorem field_any (lo n:Int) (w:World) (hlo:I64 lo) (hn:I64 n):Calls Tryz.prog 127 #[I lo,I n] w (Pure (.bool (fieldB lo n)) w):=by
  obtain ⟨l0,l1⟩:=hlo;obtain ⟨n0,n1⟩:=hn;go_enter Tryz.func127,Tryz.ntmps127;go_wp2
  all_goals
    go_ret;refine Pure.intro (eB ?_);unfold fieldB;simp [*]
    try omega
end Go.Proofs.YtdjgcenjonegjaaGreat
namespace Go.Proofs
open Go.Shelf
def Tryz.lays170_ren:Go.Shelf.Ren:=⟨fun | 170=>93 | n=>n,fun | 70=>181 | 3=>3 | 0=>0 | 72=>184 | 37=>182 | 5=>5 | n=>n,fun | n=>n⟩
open Go.RowKit in
def Tryz.lays169_ren:Go.Shelf.Ren:=⟨fun | 169=>94 | n=>n,fun | 70=>181 | 9=>9 | 0=>0 | 72=>184 | 37=>182 | 127=>230 | 3=>3 | 5=>5 | n=>n,fun | n=>n⟩
open Go.RowKit in
open Go.RowKit in
open Go.RowKit in
def Tryz.lays241_ren:Go.Shelf.Ren:=⟨fun | 241=>137 | 277=>159 | n=>n,fun | 70=>181 | 3=>3 | 0=>0 | 72=>184 | 37=>182 | 5=>5 | n=>n,fun | n=>n⟩
open Go.RowKit in
def Tryz.lays165_ren:Go.Shelf.Ren:=⟨fun | 165=>91 | 240=>136 | 241=>137 | 276=>158 | 277=>159 | n=>n,fun | 70=>181 | 3=>3 | 0=>0 | 4=>4 | 9=>9 | 20=>20 | 72=>184 | 37=>182 | 164=>253 | 5=>5 | n=>n,fun | n=>n⟩
open Go.RowKit in
def Tryz.lays156_ren:Go.Shelf.Ren:=⟨fun | 156=>88 | 165=>91 | 166=>92 | 169=>94 | 240=>136 | 241=>137 | 276=>158 | 277=>159 | n=>n,fun | 31=>172 | 9=>9 | 3=>3 | 4=>4 | 0=>0 | 20=>20 | 72=>184 | 76=>188 | 70=>181 | 37=>182 | 75=>187 | 127=>230 | 164=>253 | 5=>5 | 80=>123 | n=>n,fun | n=>n⟩
theorem Tryz.lays156:Go.Proofs.Lays.n156 Tryz.prog Tryz.lays156_ren:={
  mixed:=by kernel_rfl
  f156:=Tryz.func88.trans (congrArg some (by kernel_rfl))
  f165:=Tryz.func91.trans (congrArg some (by kernel_rfl))
  f166:=Tryz.func92.trans (congrArg some (by kernel_rfl))
  f169:=Tryz.func94.trans (congrArg some (by kernel_rfl))
  f240:=Tryz.func136.trans (congrArg some (by kernel_rfl))
  f241:=Tryz.func137.trans (congrArg some (by kernel_rfl))
  f276:=Tryz.func158.trans (congrArg some (by kernel_rfl))
  f277:=Tryz.func159.trans (congrArg some (by kernel_rfl))
  t0:=Tryz.underlying0
  a0:=Tryz.isAgg0
  z0:=Tryz.sizeOf0
  v0:=Tryz.zeroValue0
  t3:=Tryz.underlying3
  a3:=Tryz.isAgg3
  z3:=Tryz.sizeOf3
  v3:=Tryz.zeroValue3
  t4:=Tryz.underlying4
  a4:=Tryz.isAgg4
  z4:=Tryz.sizeOf4
  v4:=Tryz.zeroValue4
  t9:=Tryz.underlying9
  a9:=Tryz.isAgg9
  z9:=Tryz.sizeOf9
  v9:=Tryz.zeroValue9
  t20:=Tryz.underlying20
  a20:=Tryz.isAgg20
  z20:=Tryz.sizeOf20
  v20:=Tryz.zeroValue20
  t31:=Tryz.underlying172
  a31:=Tryz.isAgg172
  z31:=Tryz.sizeOf172
  v31:=Tryz.zeroValue172
  t37:=Tryz.underlying182
  a37:=Tryz.isAgg182
  z37:=Tryz.sizeOf182
  v37:=Tryz.zeroValue182
  t70:=Tryz.underlying181
  a70:=Tryz.isAgg181
  z70:=Tryz.sizeOf181
  v70:=Tryz.zeroValue181
  t72:=Tryz.underlying184
  a72:=Tryz.isAgg184
  z72:=Tryz.sizeOf184
  v72:=Tryz.zeroValue184
  t75:=Tryz.underlying187
  a75:=Tryz.isAgg187
  z75:=Tryz.sizeOf187
  v75:=Tryz.zeroValue187
  t76:=Tryz.underlying188
  a76:=Tryz.isAgg188
  z76:=Tryz.sizeOf188
  v76:=Tryz.zeroValue188
  t127:=Tryz.underlying230
  a127:=Tryz.isAgg230
  z127:=Tryz.sizeOf230
  v127:=Tryz.zeroValue230
  t164:=Tryz.underlying253
  a164:=Tryz.isAgg253
  z164:=Tryz.sizeOf253
  v164:=Tryz.zeroValue253 }
theorem Tryz.Builder_Extra_156:Builder.Extra Tryz.prog Tryz.lays156_ren:={
  sizeBuilder:=by kernel_rfl
  liesBuilder:=by kernel_rfl
  t5:=Tryz.underlying5
  a5:=Tryz.isAgg5
  z5:=Tryz.sizeOf5
  v5:=Tryz.zeroValue5
  infoByte:=by kernel_rfl
  cellsByte:=by kernel_rfl
  sizeByte:=by kernel_rfl
  neB5:=by decide }
open Go.RowKit in
open Go.RowKit in
/-- strings.Join: "Join concatenates the elements of its first argument to create a single string. The separator string sep is placed between elements in the resulting string.": HOWEVER MANY ELEMENTS. Below the heap's end the world is as it was. (LAID: no walk: one application.) -/
theorem Tryz.strings_Join (bk o c:Nat) (xs:List ByteArray) (sep:ByteArray) (w:World) (hcells:∀ (j:Nat) x,xs[j]?=some x→w.cell? ⟨bk,o+j,none⟩=some (.string x)) (hbk:bk < w.heap.size) (hN:xs.length≤140737488355328) (hcap:xs.length≤c) (hlen:(Lib.join (xs.map (·.data.toList)) sep.data.toList).length≤140737488355328):
    Calls Tryz.prog 88 #[.slice (some ⟨bk,o,none⟩) xs.length c,.string sep] w fun e w'=>e=.returned (.string ⟨(Lib.join (xs.map (·.data.toList)) sep.data.toList).toArray⟩)∧Below w.heap.size w w':=Any.strings_Join Tryz.lays156 Tryz.Builder_Extra_156 bk o c xs sep w hcells hbk hN hcap hlen
open Go.RowKit in
open Go.RowKit in
open Go.RowKit in
open Go.RowKit in
open Go.RowKit in
open Go.RowKit in
open Go.RowKit in
open Go.RowKit in
open Go.RowKit in
def Tryz.lays129_ren:Go.Shelf.Ren:=⟨fun | 129=>128 | n=>n,fun | 53=>169 | 3=>3 | 4=>4 | 46=>177 | 5=>5 | 9=>9 | n=>n,fun | n=>n⟩
theorem Tryz.lays129:Go.Proofs.Lays.n129 Tryz.prog Tryz.lays129_ren:={
  mixed:=by kernel_rfl
  f129:=Tryz.func128.trans (congrArg some (by kernel_rfl))
  t3:=Tryz.underlying3
  a3:=Tryz.isAgg3
  z3:=Tryz.sizeOf3
  v3:=Tryz.zeroValue3
  t4:=Tryz.underlying4
  a4:=Tryz.isAgg4
  z4:=Tryz.sizeOf4
  v4:=Tryz.zeroValue4
  t5:=Tryz.underlying5
  a5:=Tryz.isAgg5
  z5:=Tryz.sizeOf5
  v5:=Tryz.zeroValue5
  t9:=Tryz.underlying9
  a9:=Tryz.isAgg9
  z9:=Tryz.sizeOf9
  v9:=Tryz.zeroValue9
  t46:=Tryz.underlying177
  a46:=Tryz.isAgg177
  z46:=Tryz.sizeOf177
  v46:=Tryz.zeroValue177
  t53:=Tryz.underlying169
  a53:=Tryz.isAgg169
  z53:=Tryz.sizeOf169
  v53:=Tryz.zeroValue169 }
/-- bits.Len64: "Len64 returns the minimum number of bits required to represent x; the result is 0 for x == 0.": IT RETURNS 'Lib.bitLen x'; the world is as it was. ('h0', 'h1': x is a uint64.) (LAID: no walk: one application.) -/
theorem Tryz.bits_Len64 (x:Int) (w:World) (h0:0≤x) (h1:x≤18446744073709551615):
    Calls Tryz.prog 128 #[.int .u64 x] w fun e w'=>e=.returned (.int .i64 (Lib.bitLen x.toNat))∧w'=w:=Any.bits_Len64 Tryz.lays129 x w h0 h1
def Tryz.lays206_ren:Go.Shelf.Ren:=⟨fun | 206=>135 | n=>n,fun | 9=>9 | 4=>4 | 3=>3 | n=>n,fun | n=>n⟩
open Go.RowKit Go.Lib in
def Tryz.lays99_ren:Go.Shelf.Ren:=⟨fun | 99=>90 | 206=>135 | n=>n,fun | 9=>9 | 4=>4 | 3=>3 | n=>n,fun | n=>n⟩
open Go.RowKit Go.Lib in
def Tryz.lays264_ren:Go.Shelf.Ren:=⟨fun | 264=>134 | n=>n,fun | 53=>169 | 46=>177 | n=>n,fun | n=>n⟩
open Go.RowKit Go.Lib in
def Tryz.lays212_ren:Go.Shelf.Ren:=⟨fun | 212=>89 | 263=>131 | 264=>134 | n=>n,fun | 46=>177 | 51=>80 | 146=>225 | 53=>169 | 148=>228 | n=>n,fun | n=>n⟩
open Go.RowKit Go.Lib in
def Tryz.lays105_ren:Go.Shelf.Ren:=⟨fun | 105=>44 | 212=>89 | 99=>90 | 165=>91 | 166=>92 | 170=>93 | 169=>94 | 263=>131 | 264=>134 | 206=>135 | 240=>136 | 241=>137 | 276=>158 | 277=>159 | n=>n,fun | 9=>9 | 3=>3 | 4=>4 | 20=>20 | 0=>0 | 46=>177 | 109=>178 | 5=>5 | 72=>184 | 76=>188 | 51=>80 | 146=>225 | 53=>169 | 148=>228 | 70=>181 | 37=>182 | 75=>187 | 127=>230 | 164=>253 | 80=>123 | n=>n,fun | n=>n⟩
theorem Tryz.lays105:Go.Proofs.Lays.n105 Tryz.prog Tryz.lays105_ren:={
  mixed:=by kernel_rfl
  f99:=Tryz.func90.trans (congrArg some (by kernel_rfl))
  f105:=Tryz.func44.trans (congrArg some (by kernel_rfl))
  f165:=Tryz.func91.trans (congrArg some (by kernel_rfl))
  f166:=Tryz.func92.trans (congrArg some (by kernel_rfl))
  f169:=Tryz.func94.trans (congrArg some (by kernel_rfl))
  f170:=Tryz.func93.trans (congrArg some (by kernel_rfl))
  f206:=Tryz.func135.trans (congrArg some (by kernel_rfl))
  f212:=Tryz.func89.trans (congrArg some (by kernel_rfl))
  f240:=Tryz.func136.trans (congrArg some (by kernel_rfl))
  f241:=Tryz.func137.trans (congrArg some (by kernel_rfl))
  f263:=Tryz.func131.trans (congrArg some (by kernel_rfl))
  f264:=Tryz.func134.trans (congrArg some (by kernel_rfl))
  f276:=Tryz.func158.trans (congrArg some (by kernel_rfl))
  f277:=Tryz.func159.trans (congrArg some (by kernel_rfl))
  t0:=Tryz.underlying0
  a0:=Tryz.isAgg0
  z0:=Tryz.sizeOf0
  v0:=Tryz.zeroValue0
  t3:=Tryz.underlying3
  a3:=Tryz.isAgg3
  z3:=Tryz.sizeOf3
  v3:=Tryz.zeroValue3
  t4:=Tryz.underlying4
  a4:=Tryz.isAgg4
  z4:=Tryz.sizeOf4
  v4:=Tryz.zeroValue4
  t5:=Tryz.underlying5
  a5:=Tryz.isAgg5
  z5:=Tryz.sizeOf5
  v5:=Tryz.zeroValue5
  t9:=Tryz.underlying9
  a9:=Tryz.isAgg9
  z9:=Tryz.sizeOf9
  v9:=Tryz.zeroValue9
  t20:=Tryz.underlying20
  a20:=Tryz.isAgg20
  z20:=Tryz.sizeOf20
  v20:=Tryz.zeroValue20
  t37:=Tryz.underlying182
  a37:=Tryz.isAgg182
  z37:=Tryz.sizeOf182
  v37:=Tryz.zeroValue182
  t46:=Tryz.underlying177
  a46:=Tryz.isAgg177
  z46:=Tryz.sizeOf177
  v46:=Tryz.zeroValue177
  t51:=Tryz.underlying80
  a51:=Tryz.isAgg80
  z51:=Tryz.sizeOf80
  v51:=Tryz.zeroValue80
  t53:=Tryz.underlying169
  a53:=Tryz.isAgg169
  z53:=Tryz.sizeOf169
  v53:=Tryz.zeroValue169
  t70:=Tryz.underlying181
  a70:=Tryz.isAgg181
  z70:=Tryz.sizeOf181
  v70:=Tryz.zeroValue181
  t72:=Tryz.underlying184
  a72:=Tryz.isAgg184
  z72:=Tryz.sizeOf184
  v72:=Tryz.zeroValue184
  t75:=Tryz.underlying187
  a75:=Tryz.isAgg187
  z75:=Tryz.sizeOf187
  v75:=Tryz.zeroValue187
  t76:=Tryz.underlying188
  a76:=Tryz.isAgg188
  z76:=Tryz.sizeOf188
  v76:=Tryz.zeroValue188
  t109:=Tryz.underlying178
  a109:=Tryz.isAgg178
  z109:=Tryz.sizeOf178
  v109:=Tryz.zeroValue178
  t127:=Tryz.underlying230
  a127:=Tryz.isAgg230
  z127:=Tryz.sizeOf230
  v127:=Tryz.zeroValue230
  t146:=Tryz.underlying225
  a146:=Tryz.isAgg225
  z146:=Tryz.sizeOf225
  v146:=Tryz.zeroValue225
  t148:=Tryz.underlying228
  a148:=Tryz.isAgg228
  z148:=Tryz.sizeOf228
  v148:=Tryz.zeroValue228
  t164:=Tryz.underlying253
  a164:=Tryz.isAgg253
  z164:=Tryz.sizeOf253
  v164:=Tryz.zeroValue253 }
theorem Tryz.Builder_Extra_105:Builder.Extra Tryz.prog Tryz.lays105_ren:={
  sizeBuilder:=by kernel_rfl
  liesBuilder:=by kernel_rfl
  t5:=Tryz.underlying5
  a5:=Tryz.isAgg5
  z5:=Tryz.sizeOf5
  v5:=Tryz.zeroValue5
  infoByte:=by kernel_rfl
  cellsByte:=by kernel_rfl
  sizeByte:=by kernel_rfl
  neB5:=by decide }
open Go.RowKit Go.Lib in
open Go.RowKit Go.Lib in
open Go.RowKit Go.Lib in
open Go.RowKit Go.Lib in
open Go.RowKit Go.Lib in
open Go.RowKit Go.Lib in
open Go.RowKit Go.Lib in
/-- **strings.Repeat: count ≥ 0, the result within one allocation: count copies of s.** (LAID: no walk: one application.) -/
theorem Tryz.strings_Repeat (s:ByteArray) (c:Nat) (w:World) (hc:c≤9223372036854775807) (hlen:s.size*c≤140737488355328):
    Calls Tryz.prog 44 #[.string s,.int .i64 c] w fun e w'=>e=.returned (.string ⟨(Lib.repeatL s.data.toList c).toArray⟩)∧Below w.heap.size w w':=Any.strings_Repeat Tryz.lays105 Tryz.Builder_Extra_105 s c w hc hlen
def Tryz.laysNm217_ren:Go.Shelf.Ren:=⟨fun | 17=>87 | n=>n,fun | 24=>172 | 9=>9 | 3=>3 | 4=>4 | 0=>0 | n=>n,fun | n=>n⟩
theorem Tryz.laysNm217:Go.Proofs.Lays2.n17 Tryz.prog Tryz.laysNm217_ren:={
  mixed:=by kernel_rfl
  f17:=Tryz.func87.trans (congrArg some (by kernel_rfl))
  t0:=Tryz.underlying0
  a0:=Tryz.isAgg0
  z0:=Tryz.sizeOf0
  v0:=Tryz.zeroValue0
  t3:=Tryz.underlying3
  a3:=Tryz.isAgg3
  z3:=Tryz.sizeOf3
  v3:=Tryz.zeroValue3
  t4:=Tryz.underlying4
  a4:=Tryz.isAgg4
  z4:=Tryz.sizeOf4
  v4:=Tryz.zeroValue4
  t9:=Tryz.underlying9
  a9:=Tryz.isAgg9
  z9:=Tryz.sizeOf9
  v9:=Tryz.zeroValue9
  t24:=Tryz.underlying172
  a24:=Tryz.isAgg172
  z24:=Tryz.sizeOf172
  v24:=Tryz.zeroValue172 }
open Go.RowKit Go.Lib Go.Sort in
open Go.RowKit Go.Lib Go.Sort in
open Go.RowKit Go.Lib Go.Sort in
open Go.RowKit Go.Lib Go.Sort in
/-- slices.Reverse at []string, of an argument. (LAID: no walk: one application.) -/
theorem Tryz.slices_Reverse_string_cells (b off n c:Nat) (Sx:Nat→ByteArray) (w:World) (hbig:n≤9223372036854775807) (hc:∀ i,i < n→w.cell? ⟨b,off+i,none⟩=some (.string (Sx i))) (hf:∀ j,j < n→w.frozen? ⟨b,off+j,none⟩=false):
    Calls Tryz.prog 87 #[.slice (some ⟨b,off,none⟩) n c] w fun e w'=>e=.returned (.tuple #[])∧∃ q,w'=(w.drewN q).setCells b off ((Lib.strsOf Sx n).reverse.map encStr):=Any.slices_Reverse_string_cells Tryz.laysNm217 b off n c Sx w hbig hc hf
end Go.Proofs
namespace Go.Proofs.YtdjgcenjonegjaaGreat
set_option linter.unusedSimpArgs false
set_option linter.unusedVariables false
open Go.RowKit
set_option maxRecDepth 20000

/-- the numbers that the lowest n bits tell, rising -/
def memb (high:Int) (b:Nat):Nat→List Int
  | 0=>[]
  | n+1=>if b.testBit n then (high-n)::memb high b n else memb high b n
/-- the length in bits -/
def bl (b:Nat):Nat:=Go.Lib.bitLen b
theorem bl_bd {b:Nat} (h:b < 2^64) (h0:b≠0):1≤bl b∧bl b≤64∧2^(bl b-1)≤b∧b < 2^bl b:=by
  unfold bl;obtain ⟨h1,h2,h3⟩:=Go.Lib.bitLenAux_bounds 64 b h h0;exact ⟨h1,Go.Lib.bitLen_le b 64 (by omega) h,h2,h3⟩
theorem bl_zero:bl 0=0:=by decide
/-- a bit struck -/
def strike (b n:Nat):Nat:=b &&& (18446744073709551615-2^n)
/-- may a window be? -/
def mayW (high:Int) (b:Nat):Bool:=if high < 1 then high==0&&b==0 else decide (high≤1048575)&&(b%2==1&&decide ((bl b:Int)≤min high 64))
end Go.Proofs.YtdjgcenjonegjaaGreat
namespace Go.Proofs.YtdjgcenjonegjaaGreat
set_option linter.unusedSimpArgs false
set_option linter.unusedVariables false
open Go.RowKit
set_option maxRecDepth 20000

theorem clear_nat {x s:Nat} (hx:x < 4294967296) (hs:s < 32):x &&& (4294967295-2^s)=setB x s 0:=by
  have hp:2^s < 2^32:=Nat.pow_lt_pow_right (by decide) hs;have hl:=Nat.mod_lt x (Nat.two_pow_pos s)
  have e:setB x s 0=2^s*(2*(x / 2^(s+1)))+x%2^s:=by
    have h:=word_parts x s;unfold setB;rw [Nat.mul_add,Nat.mul_comm (2^s) (x / 2^s%2)] at h;rw [Nat.zero_mul];omega
  apply Nat.eq_of_testBit_eq;intro i;rw [e,Nat.testBit_two_pow_mul_add _ hl,Nat.testBit_and,show 4294967295-2^s=2^32-(2^s+1) by omega,Nat.testBit_two_pow_sub_succ hp,Nat.testBit_two_pow]
  by_cases h32:i < 32
  · rcases Nat.lt_trichotomy i s with h | h | h
    · rw [if_pos h,Nat.testBit_mod_two_pow]
      simp [h,h32];omega
    · subst h;simp
    · obtain ⟨j,rfl⟩:∃ j,i=s+1+j:=⟨i-(s+1),by omega⟩
      rw [if_neg (by omega),show s+1+j-s=j+1 by omega,Nat.testBit_succ,Nat.mul_div_cancel_left _ (by decide),Nat.testBit_div_two_pow];have hne:¬ s=s+1+j:=by omega
      simp [h32,hne,Nat.add_comm j]
  · have hxi:x.testBit i=false:=Nat.testBit_lt_two_pow (Nat.lt_of_lt_of_le hx (Nat.pow_le_pow_right (by decide) (by omega):2^32≤2^i))
    obtain ⟨j,rfl⟩:∃ j,i=s+1+j:=⟨i-(s+1),by omega⟩;rw [if_neg (by omega),show s+1+j-s=j+1 by omega,Nat.testBit_succ,Nat.mul_div_cancel_left _ (by decide),Nat.testBit_div_two_pow,Nat.add_comm j,hxi]
    rfl
theorem setB_lt {x s y:Nat} (hx:x < 4294967296) (hs:s < 32) (hy:y≤1):setB x s y < 4294967296:=by
  have hp:2^s < 2^32:=Nat.pow_lt_pow_right (by decide) hs;have h0:setB x s 0 < 4294967296:=by rw [← clear_nat hx hs];exact Nat.lt_of_le_of_lt Nat.and_le_left hx
  by_cases h:y=0
  · rw [h];exact h0
  · have hy1:y=1:=by omega
    subst hy1;rw [← clear_or];have h1:x-x / 2^s%2*2^s < 2^32:=by have:=Nat.sub_le x (x / 2^s%2*2^s);omega
    exact Nat.or_lt_two_pow h1 hp
theorem bl_le {v n:Nat} (hv:v < 18446744073709551616):bl v≤n↔v < 2^n:=by
  by_cases h0:v=0
  · subst h0;rw [bl_zero];simp [Nat.two_pow_pos]
  · obtain ⟨h1,h2,h3,h4⟩:=bl_bd hv h0
    constructor
    · exact fun h=>Nat.lt_of_lt_of_le h4 (Nat.pow_le_pow_right (by decide) h)
    · intro h
      have:=(Nat.pow_lt_pow_iff_right (show 1 < 2 by decide)).1 (Nat.lt_of_le_of_lt h3 h);omega

def PutRel (W:World) (N lo v k:Nat) (wr:World):Prop:=
  ∃ x y z:Nat,(x < 4294967296∧y < 4294967296∧z < 4294967296)∧val [x,y,z]=putV N lo v k∧Own wr W.heap.size [U32 x,U32 y,U32 z]∧Own wr (W.heap.size+1) [U32 0,U32 0,U32 0]∧Below W.heap.size W wr
/-- the three words with word q made other -/
theorem put3 (x y z q u:Nat) (hq:q < 3):∃ x' y' z':Nat,[x,y,z].set q u=[x',y',z']∧([U32 x,U32 y,U32 z]:List Value).set q (U32 u)=[U32 x',U32 y',U32 z']∧(x < 4294967296→y < 4294967296→z < 4294967296→u < 4294967296→x' < 4294967296∧y' < 4294967296∧z' < 4294967296):=by
  rcases (show q=0∨q=1∨q=2 by omega) with rfl | rfl | rfl
  · exact ⟨u,y,z,rfl,rfl,fun _ b c d=>⟨d,b,c⟩⟩
  · exact ⟨x,u,z,rfl,rfl,fun a _ c d=>⟨a,d,c⟩⟩
  · exact ⟨x,y,u,rfl,rfl,fun a b _ d=>⟨a,b,d⟩⟩
/-- what a round of Put finds and leaves: word q of the number, xq; behind one store (the bit is 0), or two (it is 1) -/
theorem PutRel.round {W:World} {N lo v k p q s:Nat} {wr:World} (h:PutRel W N lo v k wr) (hp:p=lo+k) (hp96:p < 96) (hq:q=p / 32) (hs:s=p%32):
    ∃ xq:Nat,xq < 4294967296∧wr.cell? ⟨W.heap.size,q,none⟩=some (U32 xq)∧wr.frozen? ⟨W.heap.size,q,none⟩=false ∧
      (v / 2^k%2=0→Hid (PutRel W N lo v (k+1) (wr.setCell ⟨W.heap.size,q,none⟩ (U32 (setB xq s 0:Nat))))) ∧
      (v / 2^k%2=1→Hid (PutRel W N lo v (k+1) ((wr.setCell ⟨W.heap.size,q,none⟩ (U32 (setB xq s 0:Nat))).setCell ⟨W.heap.size,q,none⟩ (U32 (setB xq s 1:Nat))))):=by
  obtain ⟨x,y,z,⟨hx,hy,hz⟩,hv,o1,o2,hb⟩:=h;have hq3:q < 3:=by omega
  have hs32:s < 32:=by omega
  have hxq:[x,y,z].getD q 0 < 4294967296:=by
    rcases (show q=0∨q=1∨q=2 by omega) with rfl | rfl | rfl
    · exact hx
    · exact hy
    · exact hz
  have hstep:=putV_succ N lo v k;have hbit:=putV_bit N lo v k;have hwb:=wide_bit2 x y z p hx hy hp96;rw [← hq,← hs] at hwb
  have hset:∀ u,val ([x,y,z].set q (setB ([x,y,z].getD q 0) s u))+(val [x,y,z] / 2^p%2)*2^p=val [x,y,z]+u*2^p:=fun u=>by
    have:=val_put x y z p u hp96;rw [← hq,← hs,hwb] at this;exact this
  rw [hv,hp,hbit] at hset;refine ⟨[x,y,z].getD q 0,hxq,?_,o1.frozen q,fun h0=>?_,fun h1=>?_⟩
  · have:=o1.cell q (by simpa using hq3)
    rw [Nat.zero_add] at this;rw [this];rcases (show q=0∨q=1∨q=2 by omega) with rfl | rfl | rfl<;>rfl
  · rw [h0,Nat.zero_mul,Nat.add_zero] at hstep
    have h2:=hset 0;rw [Nat.zero_mul,Nat.add_zero] at h2;obtain ⟨x',y',z',e1,e2,e3⟩:=put3 x y z q (setB ([x,y,z].getD q 0) s 0) hq3;have ho:=o1.set q (U32 (setB ([x,y,z].getD q 0) s 0:Nat));rw [e2] at ho;rw [e1] at h2;exact ⟨x',y',z',e3 hx hy hz (setB_lt hxq hs32 (by omega)),by omega,ho,o2.other (a:=⟨W.heap.size,q,none⟩) (by show W.heap.size≠W.heap.size+1;omega) _,hb.setCell (p:=⟨W.heap.size,q,none⟩) (Nat.le_refl _) _⟩
  · rw [h1] at hstep
    have h2:=hset 1;obtain ⟨x',y',z',e1,e2,e3⟩:=put3 x y z q (setB ([x,y,z].getD q 0) s 1) hq3;have ho:=(o1.set q (U32 (setB ([x,y,z].getD q 0) s 0:Nat))).set q (U32 (setB ([x,y,z].getD q 0) s 1:Nat));rw [List.set_set,e2] at ho;rw [e1] at h2;exact ⟨x',y',z',e3 hx hy hz (setB_lt hxq hs32 (by omega)),by omega,ho,(o2.other (a:=⟨W.heap.size,q,none⟩) (by show W.heap.size≠W.heap.size+1;omega) _).other (a:=⟨W.heap.size,q,none⟩) (by show W.heap.size≠W.heap.size+1;omega) _,(hb.setCell (p:=⟨W.heap.size,q,none⟩) (Nat.le_refl _) _).setCell (p:=⟨W.heap.size,q,none⟩) (Nat.le_refl _) _⟩
def GrewW2 (a b c:Nat) (er:Int) (w:World) (e:Ending) (w':World):Prop:=e=.returned (T2 (wideV a b c) (I er))∧Below w.heap.size w w'
theorem Len64_word (b:Nat) (w:World) (hb:b < 18446744073709551616):Calls Tryz.prog 128 #[.int .u64 b] w (Pure (I (bl b)) w):=by
  refine (Tryz.bits_Len64 (b:Int) w (by omega) (by omega)).mono ?_;rintro e w' ⟨rfl,rfl⟩;exact Pure.intro rfl
theorem PutRel.start {W:World} {a b c lo v:Nat} (ha:a < 4294967296) (hb:b < 4294967296) (hc:c < 4294967296):PutRel W (val [a,b,c]) lo v 0 ((W.alloc (.cells #[U32 a,U32 b,U32 c] 113)).alloc (.cells #[U32 0,U32 0,U32 0] 113)):=
  ⟨a,b,c,⟨ha,hb,hc⟩,(putV_zero _ _ _).symm,(Own.new (w:=W) rfl [U32 a,U32 b,U32 c] 113).alloc _,Own.new (by simp) [U32 0,U32 0,U32 0] 113,(boxed_below W _).alloc (boxed_below W _).size _⟩
theorem vbit64 (v k:Nat) (hv:v < 18446744073709551616):bits .and .u64 ((v:Int) / 2^k) 1=((v / 2^k%2:Nat):Int):=by
  have e:(v:Int) / 2^k=((v / 2^k:Nat):Int):=by push_cast;rfl
  have:=u64_and_nat (v / 2^k) 1 (Nat.lt_of_le_of_lt (Nat.div_le_self _ _) hv) (by decide);rw [Nat.and_one_is_mod] at this;rw [e];exact this
theorem clear_op {x s:Nat} (hx:x < 4294967296) (hs:s < 32):bits .andNot .u32 (x:Int) ((2^s:Nat):Int)=((setB x s 0:Nat):Int):=by
  have hp:2^s < 2^32:=Nat.pow_lt_pow_right (by decide) hs;rw [u32_andNot_nat x (2^s) hx (by omega),clear_nat hx hs]
theorem set_op {x s:Nat} (hx:x < 4294967296) (hs:s < 32):bits .or .u32 ((setB x s 0:Nat):Int) ((2^s:Nat):Int)=((setB x s 1:Nat):Int):=by
  have hp:2^s < 2^32:=Nat.pow_lt_pow_right (by decide) hs;rw [u32_or_nat _ _ (setB_lt hx hs (by omega)) (by omega)]
  congr 1
  rw [← clear_or]
  congr 1
  unfold setB;rw [Nat.zero_mul,Nat.add_zero]
set_option maxHeartbeats 4000000 in
theorem Put_any (a b c lo n v : Nat) (w : World) (ha : a < 4294967296) (hb : b < 4294967296) (hc : c < 4294967296) (hn0 : 1 ≤ n) (hn : n ≤ 64) (hlo : lo + n ≤ 96) (hv : v < 2 ^ n) :
    Calls Tryz.prog 84 #[wideV a b c,I lo,I n,.int .u64 v] w (GrewW2 (putV (val [a,b,c]) lo v n%4294967296) (putV (val [a,b,c]) lo v n / 4294967296%4294967296) (putV (val [a,b,c]) lo v n / 18446744073709551616%4294967296) 0 w):=by
  have hf:fieldB lo n=true:=by unfold fieldB;rw [decide_eq_true_eq];omega
  have F:=Lib.hid (fun W=>field_any lo n W (by constructor<;>omega) (by constructor<;>omega));rw [hf] at F;have hv64:v < 18446744073709551616:=Nat.lt_of_lt_of_le hv (Nat.pow_le_pow_right (by decide) hn);have L:=Lib.hid (fun W=>Len64_word v W hv64);have hbl:((bl v:Nat):Int)≤(n:Int):=by have:=(bl_le hv64).2 hv;omega
  have hR:=Lib.hid (PutRel.start (W:=w) (lo:=lo) (v:=v) ha hb hc);have HV:=Lib.hid (fun k=>vbit64 v k hv64);have Hvl:=Lib.hid hv64;clear hf hv hv64;generalize bl v=bv at *;generalize val [a,b,c]=N at *;go_enter Tryz.func84,Tryz.ntmps84
  go_wp2_with fail
  refine (F.out _).mono ?_;rintro e w' ⟨rfl,rfl⟩
  go_wp2_with fail
  refine (L.out _).mono ?_;rintro e w' ⟨rfl,rfl⟩;go_wp2
  go_loopw [10,11,12,25] (fun _ _ _ i wr=>∃ k:Nat,k≤n∧i=I k∧Hid (PutRel w N lo v k wr)) (fun _ _ _ i _=>(n-intOf i).toNat)
  case atStart=>exact ⟨0,Nat.zero_le _,rfl,hR⟩
  case round=>
    clear hR;obtain ⟨k,hk,rfl,hR⟩:=hrel
    by_cases hlt:k < n
    · have hk0:(0:Int)≤(k:Int):=by omega
      have hk1:(k:Int) < (n:Int):=by omega
      obtain ⟨p,hp⟩:∃ p,p=lo+k:=⟨_,rfl⟩;have ep:(lo:Int)+(k:Int)=(p:Int):=by omega
      obtain ⟨q,hq⟩:∃ q,q=p / 32:=⟨_,rfl⟩;obtain ⟨s,hs⟩:∃ s,s=p%32:=⟨_,rfl⟩;have eq:(p:Int).tdiv 32=(q:Int):=by rw [hq];rfl
      have es:(p:Int).tmod 32=(s:Int):=by rw [hs];rfl
      have q0:(0:Int)≤(q:Int):=by omega
      have q1:(q:Int) < 3:=by omega
      have s0:(0:Int)≤(s:Int):=by omega
      have s1:s < 32:=by omega
      obtain ⟨xq,hxq,hcell,hfr,h0,h1⟩:=PutRel.round hR.out hp (by omega) hq hs;have c1:=clear_op hxq s1;have c2:=Lib.hid (set_op hxq s1);have hvb:=HV.out k;have hb2:v / 2^k%2 < 2:=Nat.mod_lt _ (by decide);have H0:=Lib.hid h0;have H1:=Lib.hid h1;clear hp hq hs h0 h1 hR
      have pw:(2:Int)^s%4294967296=((2^s:Nat):Int):=by
        have hp2:2^s < 2^32:=Nat.pow_lt_pow_right (by decide) s1;have e:(2:Int)^s=((2^s:Nat):Int):=by push_cast;rfl
        rw [e];generalize 2^s=x at *;omega
      have E:=Lib.hid (And.intro pw (And.intro c1 c2.out));clear pw c1 c2;generalize v / 2^k%2=vb at *;have r1:=set_same;rcases (show vb=0∨vb=1 by omega) with rfl | rfl
      · have hnew:=H0.out rfl
        have hvb0:bits .and .u64 ((v:Int) / 2^k) 1=0:=hvb;clear H0 H1 hvb;go_wp2;rw [E.out.1,E.out.2.1];exact ⟨⟨k+1,by omega,by go_num,hnew⟩,by simp [intOf];try omega⟩
      · have hnew:=H1.out rfl
        have hvb1:bits .and .u64 ((v:Int) / 2^k) 1=1:=hvb;clear H0 H1 hvb;go_wp2;rw [E.out.1,E.out.2.1,E.out.2.2];exact ⟨⟨k+1,by omega,by go_num,hnew⟩,by simp [intOf];try omega⟩
    · have hkn:k=n:=by omega
      subst hkn;have hge:¬ ((k:Int) < (k:Int)):=by omega
      obtain ⟨x,y,z,⟨hx,hy,hz⟩,hval,o1,o2,hbw⟩:=hR.out;rw [val3] at hval;obtain ⟨d0,d1,d2,-⟩:=digits4 (N:=putV N lo v k) (c:=0) hx hy hz (by rw [← hval];simp);have DD:=Lib.hid (And.intro d0 (And.intro d1 d2));have cO:=o1;have cA:=cO.s3;clear cO;have zO:=o2;have zA:=zO.s3;clear zO;clear o1 o2 hR hval d0 d1 d2;have r1:=set_same;have r2:=set_off;have r3:=set_blk;go_wp2;refine bodyPost_ret (v:=T2 (wideV x y z) (I 0)) (by simp [results,Tryz.results84,go_sem, *]) rfl ⟨by rw [DD.out.1,DD.out.2.1,DD.out.2.2],below_autor⟩
end Go.Proofs.YtdjgcenjonegjaaGreat
