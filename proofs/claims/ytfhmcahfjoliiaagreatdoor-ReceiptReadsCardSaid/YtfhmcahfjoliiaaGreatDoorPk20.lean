/- words.Over · ref.Divided, and the plain law · words.Bits, ref.Field -/
import Derived.Test.YtfhmcahfjoliiaaGreatDoorPk19
import Derived.Test.YtfhmcahfjoliiaaGreatDoorPk02
set_option maxRecDepth 20000
set_option maxHeartbeats 8000000
set_option linter.unusedSimpArgs false
set_option linter.unusedVariables false
namespace Go.Proofs.YtfhmcahfjoliiaaGreatDoor
section
open Go.RowKit

/-- from the top down: what is left behind k words, and the word of the quotient then -/
def remO (d:Nat) (l:List Nat):Nat→Nat
  | 0=>0
  | k+1=>(4294967296*remO d l k+l.getD (2-k) 0)%d
def quoO (d:Nat) (l:List Nat) (k:Nat):Nat:=(4294967296*remO d l k+l.getD (2-k) 0) / d
def mixO (d:Nat) (l:List Nat) (k i:Nat):Nat:=if 2 < i+k then quoO d l (2-i) else l.getD i 0
theorem remO_lt {d:Nat} {l:List Nat} (hd:0 < d):∀ k,remO d l k < d
  | 0=>hd
  | _+1=>Nat.mod_lt _ hd
theorem quoO_lt {d:Nat} {l:List Nat} (hl:allW l) (hd:0 < d) (k:Nat):quoO d l k < 4294967296:=by
  have h1:=remO_lt (l:=l) hd k;have h2:=allW_at hl (2-k);unfold quoO;refine Nat.div_lt_of_lt_mul ?_;omega
def OverRel (W:World) (d:Nat) (l:List Nat) (k:Nat) (wr:World):Prop:=
  Own wr W.heap.size [U32 (mixO d l k 0),U32 (mixO d l k 1),U32 (mixO d l k 2)]∧Own wr (W.heap.size+1) [U32 0,U32 0,U32 0]∧Below W.heap.size W wr
theorem OverRel.set {W:World} {d k j:Nat} {l:List Nat} {wr:World} (hj:j+k=2) (h:OverRel W d l k wr):Hid (OverRel W d l (k+1) (wr.setCell ⟨W.heap.size,j,none⟩ (U32 (quoO d l k:Nat)))):=by
  refine ⟨?_,h.2.1.other (a:=⟨W.heap.size,j,none⟩) (by show W.heap.size≠W.heap.size+1;omega) _,h.2.2.setCell (p:=⟨W.heap.size,j,none⟩) (Nat.le_refl _) _⟩;have h1:=h.1.set j (U32 (quoO d l k:Nat))
  have e:([U32 (mixO d l k 0),U32 (mixO d l k 1),U32 (mixO d l k 2)]:List Value).set j (U32 (quoO d l k:Nat))=[U32 (mixO d l (k+1) 0),U32 (mixO d l (k+1) 1),U32 (mixO d l (k+1) 2)]:=by
    rcases (show j=0∧k=2∨j=1∧k=1∨j=2∧k=0 by omega) with ⟨rfl,rfl⟩ | ⟨rfl,rfl⟩ | ⟨rfl,rfl⟩<;>simp [mixO]
  rw [e] at h1;exact h1
theorem OverRel.at {W:World} {d k j:Nat} {l:List Nat} {wr:World} (hj:j+k=2) (h:OverRel W d l k wr):wr.cell? ⟨W.heap.size,j,none⟩=some (U32 (l.getD j 0:Nat))∧wr.frozen? ⟨W.heap.size,j,none⟩=false:=by
  refine ⟨?_,h.1.frozen j⟩;have:=h.1.cell j (by simp;omega);rw [Nat.zero_add] at this;rw [this];rcases (show j=0∧k=2∨j=1∧k=1∨j=2∧k=0 by omega) with ⟨rfl,rfl⟩ | ⟨rfl,rfl⟩ | ⟨rfl,rfl⟩<;>simp [mixO]
theorem OverRel.below {W:World} {d k:Nat} {l:List Nat} {wr w':World} (h:OverRel W d l k wr) (k1:Below wr.heap.size wr w'):OverRel W d l k w':=
  ⟨h.1.below k1,h.2.1.below k1,h.2.2.trans (k1.mono h.2.2.size)⟩
theorem OverRel.start {W:World} {d a b c:Nat}:OverRel W d [a,b,c] 0 ((W.alloc (.cells #[U32 a,U32 b,U32 c] 111)).alloc (.cells #[U32 0,U32 0,U32 0] 111)):=
  ⟨(Own.new (w:=W) rfl [U32 a,U32 b,U32 c] 111).alloc _,Own.new (by simp) [U32 0,U32 0,U32 0] 111,(boxed_below W _).alloc (boxed_below W _).size _⟩
def GrewW3 (a b c d:Nat) (er:Int) (w:World) (e:Ending) (w':World):Prop:=e=.returned (.tuple #[wideV a b c,U32 d,.int .i64 er])∧Below w.heap.size w w'
theorem Over_any (a b c d:Nat) (w:World) (ha:a < 4294967296) (hb:b < 4294967296) (hc:c < 4294967296) (hd:d < 4294967296) (hd0:0 < d):
    Calls Tryz.prog 84 #[wideV a b c,U32 d] w (GrewW3 (quoO d [a,b,c] 2) (quoO d [a,b,c] 1) (quoO d [a,b,c] 0) (remO d [a,b,c] 3) 0 w):=by
  have hR:=Lib.hid (OverRel.start (W:=w) (d:=d) (a:=a) (b:=b) (c:=c));have hl:allW [a,b,c]:=by intro d hd;simp at hd;omega
  have HC:=Lib.hid (fun k=>remO_lt (l:=[a,b,c]) hd0 k);have HL:=Lib.hid (allW_at hl);have dz:¬ (d:Int)=0:=by omega
  clear hl;go_enter Tryz.func84,Tryz.ntmps84;go_wp2;have h0:((d:Int)==0)=false:=by simp;omega
  rw [h0];clear h0
  go_loopw [7,8,9,13] (fun cv _ _ i wr=>∃ k:Nat,k≤3∧i=I k∧cv=U32 (remO d [a,b,c] k:Nat)∧Hid (OverRel w d [a,b,c] k wr)) (fun _ _ _ i _=>(3-intOf i).toNat)
  case atStart=>exact ⟨0,by decide,rfl,rfl,hR⟩
  case round=>
    clear hR;obtain ⟨k,hk,rfl,rfl,hR⟩:=hrel
    by_cases hlt:k < 3
    · obtain ⟨j,hj⟩:∃ j,j+k=2:=⟨2-k,by omega⟩
      have ej:(2:Int)-(k:Int)=(j:Int):=by omega
      have hi0:(0:Int)≤(j:Int):=by omega
      have hi1:(j:Int) < 3:=by omega
      have hk3:(k:Int) < 3:=by omega
      obtain ⟨e0,-⟩:=OverRel.at hj hR.out;have HS:=Lib.hid (fun w' (h:Below wr.heap.size wr w')=>And.intro (OverRel.at hj (hR.out.below h)) (OverRel.set hj (hR.out.below h)));have hc1:=HC.out k;have hw1:=HL.out j;have hcs:=Lib.hid (show remO d [a,b,c] (k+1)=(4294967296*remO d [a,b,c] k+[a,b,c].getD j 0)%d by rw [show j=2-k by omega];rfl);have hws:=Lib.hid (show quoO d [a,b,c] k=(4294967296*remO d [a,b,c] k+[a,b,c].getD j 0) / d by rw [show j=2-k by omega];rfl);generalize remO d [a,b,c] k=cc at *;generalize [a,b,c].getD j 0=x at *;have C:=Lib.hid (fun W=>Div32_any cc x d W hc1 hw1 hd);generalize (4294967296*cc+x)%d=c2 at *;generalize (4294967296*cc+x) / d=d2 at *;rw [hws.out] at HS;clear hR hws
      go_wp2_with fail
      refine (C.out _).mono ?_;rintro e w' ⟨rfl,k1⟩;obtain ⟨⟨g0,f0⟩,hnew⟩:=HS.out _ k1;clear HS k1;go_wp2;exact ⟨⟨k+1,by omega,by go_num,by rw [hcs.out],hnew⟩,by simp [intOf];try omega⟩
    · have hk3:k=3:=by omega
      subst hk3;obtain ⟨o1,o2,hbw⟩:=hR.out;have e0:mixO d [a,b,c] 3 0=quoO d [a,b,c] 2:=rfl;have e1:mixO d [a,b,c] 3 1=quoO d [a,b,c] 1:=rfl;have e2:mixO d [a,b,c] 3 2=quoO d [a,b,c] 0:=rfl;rw [e0,e1,e2] at o1;have cO:=o1;have cA:=cO.s3;clear cO;have zO:=o2;have zA:=zO.s3;clear zO;clear o1 o2 hR e0 e1 e2;have r1:=set_same;have r2:=set_off;have r3:=set_blk;go_wp2;refine bodyPost_ret (v:=.tuple #[wideV (quoO d [a,b,c] 2) (quoO d [a,b,c] 1) (quoO d [a,b,c] 0),U32 (remO d [a,b,c] 3:Nat),.int .i64 0]) (by simp [results,Tryz.results84,go_sem, *]) rfl ⟨rfl,below_autor⟩
end
section
open Go.RowKit

theorem over_digits (a b c d:Nat):val [a,b,c]=d*(quoO d [a,b,c] 2+4294967296*(quoO d [a,b,c] 1+4294967296*quoO d [a,b,c] 0))+remO d [a,b,c] 3:=by
  have e:∀ s:Nat,s=d*(s / d)+s%d:=fun s=>(Nat.div_add_mod s d).symm;have h0:=e c;have h1:=e (4294967296*(c%d)+b);have h2:=e (4294967296*((4294967296*(c%d)+b)%d)+a);simp only [quoO,remO,List.getD_cons_zero,List.getD_cons_succ,val3,Nat.mul_zero,Nat.zero_add,Nat.sub_self,Nat.sub_zero,show 2-1=1 from rfl];generalize (4294967296*((4294967296*(c%d)+b)%d)+a) / d=q0 at *;generalize (4294967296*((4294967296*(c%d)+b)%d)+a)%d=r0 at *;generalize (4294967296*(c%d)+b) / d=q1 at *;generalize (4294967296*(c%d)+b)%d=r1 at *;generalize c / d=q2 at *;generalize c%d=r2 at *;rw [Nat.mul_add d,Nat.mul_left_comm d,Nat.mul_add d,Nat.mul_left_comm d];generalize d*q0=x at *;generalize d*q1=y at *;generalize d*q2=z at *;omega
theorem zeroBN (w:World):BN (w.alloc (.cells #[.bool false,.slice none 0 0] 126)) w.heap.size 0:=⟨_,zeroB w,[],Sl.nil _ _,rfl,by simp [allW],by simp⟩
end
section
open Go.RowKit

def fieldB (lo n:Int):Bool:=decide (0≤lo∧1≤n∧n≤64∧lo+n≤96)
theorem field_any (lo n:Int) (w:World) (hlo:I64 lo) (hn:I64 n):Calls Tryz.prog 113 #[I lo,I n] w (Pure (.bool (fieldB lo n)) w):=by
  obtain ⟨l0,l1⟩:=hlo;obtain ⟨n0,n1⟩:=hn;go_enter Tryz.func113,Tryz.ntmps113;go_wp2
  all_goals
    go_ret;refine Pure.intro (eB ?_);unfold fieldB;simp [*]
    try omega
theorem bit32 (x s:Nat) (hx:x < 4294967296):bits .and .u32 ((x:Int) / 2^s) 1=((x / 2^s%2:Nat):Int):=by
  have e:(x:Int) / 2^s=((x / 2^s:Nat):Int):=by push_cast;rfl
  have:=u32_and_nat (x / 2^s) 1 (Nat.lt_of_le_of_lt (Nat.div_le_self _ _) hx) (by decide);rw [Nat.and_one_is_mod] at this;rw [e];exact this
theorem or_bit (v b:Nat) (hv:v < 9223372036854775808) (hb:b < 2):bits .or .u64 ((v:Int)*2) (b:Int)=((2*v+b:Nat):Int):=by
  have e:(v:Int)*2=((v*2:Nat):Int):=by omega
  rw [e,u64_or_nat _ _ (by omega) (by omega)];have h3:=Nat.two_pow_add_eq_or_of_lt (i:=1) (b:=b) (by omega) v;rw [Nat.pow_one] at h3;rw [Nat.mul_comm v,← h3]
theorem Bits_any (a b c lo n : Nat) (w : World) (ha : a < 4294967296) (hb : b < 4294967296) (hc : c < 4294967296) (hn0 : 1 ≤ n) (hn : n ≤ 64) (hlo : lo + n ≤ 96) :
    Calls Tryz.prog 86 #[wideV a b c,I lo,I n] w (Grew (T2 (.int .u64 (fld (val [a,b,c]) lo n:Nat)) (I 0)) w):=by
  have hf:fieldB lo n=true:=by unfold fieldB;rw [decide_eq_true_eq];omega
  have F:=Lib.hid (fun W=>field_any lo n W (by constructor<;>omega) (by constructor<;>omega));rw [hf] at F;have k0:=boxed_below w (.cells #[U32 a,U32 b,U32 c] 111);have HO:=Lib.hid (Own.new (w:=w) rfl [U32 a,U32 b,U32 c] 111);have hl:allW [a,b,c]:=by intro d hd;simp at hd;omega
  have HL:=Lib.hid (allW_at hl);have HB:=Lib.hid (fun p hp=>wide_bit2 a b c p ha hb hp);have HN:=Lib.hid (fun p k=>fld_lt (val [a,b,c]) p k);have HD:=Lib.hid (fun p k=>fld_down (val [a,b,c]) p k);have hn1:((n:Nat):Int)≤64:=by omega
  clear hl hf;go_enter Tryz.func86,Tryz.ntmps86
  go_wp2_with fail
  refine (F.out _).mono ?_;rintro e w' ⟨rfl,rfl⟩;go_wp2
  have hw:∀ j,j < 3→(w.alloc (.cells #[U32 a,U32 b,U32 c] 111)).cell? ⟨w.heap.size,j,none⟩=some (U32 ([a,b,c].getD j 0:Nat)):=fun j hj=>by
    have:=HO.out.cell j (by simpa using hj);rw [Nat.zero_add] at this;rw [this]
    match j,hj with
    | 0,_=>rfl
    | 1,_=>rfl
    | 2,_=>rfl
  generalize w.alloc (.cells #[U32 a,U32 b,U32 c] 111)=W at *;have HW:=Lib.hid hw;clear hw
  go_loop [8,9,10] (fun v i _=>∃ k:Nat,k≤n∧i=I ((k:Int)-1)∧v=.int .u64 (fld (val [a,b,c]) (lo+k) (n-k):Nat)) (fun _ i _=>(intOf i+1).toNat)
  case atStart=>exact ⟨n,Nat.le_refl _,rfl,by rw [Nat.sub_self,fld_zero];rfl⟩
  case round=>
    obtain ⟨k,hk,rfl,rfl⟩:=hrel;cases k with
    | zero=>
      go_wp2;go_ret2;exact ⟨rfl,k0⟩
    | succ k=>
      rw [show (((k+1:Nat):Int)-1)=(k:Int) by omega];have hk0:(0:Int)≤(k:Int):=by omega
      obtain ⟨p,hp⟩:∃ p,p=lo+k:=⟨_,rfl⟩;have ep:(lo:Int)+(k:Int)=(p:Int):=by omega
      obtain ⟨q,hq⟩:∃ q,q=p / 32:=⟨_,rfl⟩;obtain ⟨s,hs⟩:∃ s,s=p%32:=⟨_,rfl⟩;have eq:(p:Int).tdiv 32=(q:Int):=by rw [hq];rfl
      have es:(p:Int).tmod 32=(s:Int):=by rw [hs];rfl
      have q0:(0:Int)≤(q:Int):=by omega
      have q1:(q:Int) < 3:=by omega
      have s0:(0:Int)≤(s:Int):=by omega
      have s1:s < 32:=by omega
      have hcell:=HW.out q (by omega);have hbit:=HB.out p (by omega);rw [← hq,← hs] at hbit;have hdn:=HD.out p (n-(k+1));rw [show n-(k+1)+1=n-k by omega,← hbit,show p+1=lo+(k+1) by omega] at hdn;have hv:=HN.out (lo+(k+1)) (n-(k+1));have hv2:fld (val [a,b,c]) (lo+(k+1)) (n-(k+1)) < 9223372036854775808:=Nat.lt_of_lt_of_le hv (Nat.pow_le_pow_right (by decide) (by omega:n-(k+1)≤63));have hx:=HL.out q;have HDN:=Lib.hid hdn;have b32:=Lib.hid (bit32 ([a,b,c].getD q 0) s hx);have hb2:[a,b,c].getD q 0 / 2^s%2 < 2:=Nat.mod_lt _ (by decide);have hor:=Lib.hid (or_bit _ _ hv2 hb2);clear hv hdn hbit hp hq hs;generalize fld (val [a,b,c]) (lo+(k+1)) (n-(k+1))=vv at *;generalize [a,b,c].getD q 0=x at *;go_wp2
      have hw2:IntKind.u64.wrap ((x / 2^s%2:Nat):Int)=((x / 2^s%2:Nat):Int):=by
        generalize x / 2^s%2=bb at *;show (bb:Int)%18446744073709551616=_;omega
      refine ⟨⟨k,by omega,rfl,?_⟩,by simp [intOf];try omega⟩;rw [b32.out,hw2,hor.out,← HDN.out,show p=lo+k by omega]
end
end Go.Proofs.YtfhmcahfjoliiaaGreatDoor
