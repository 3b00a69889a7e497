/- great numbers: objects that are 0 or more · great numbers: quotients and rests of objects · ref.big96 and ref.wide96 · words.Plus, words.Times -/
import Derived.Test.YtdjgcenjonegjaaGreatPk39
import Derived.Test.YtdjgcenjonegjaaGreatPk40
import Derived.Deep.RegionHeld3
import Derived.Test.YtdjgcenjonegjaaGreatPk09
set_option maxRecDepth 20000
set_option maxHeartbeats 8000000
set_option linter.unusedSimpArgs false
set_option linter.unusedVariables false
namespace Go.Proofs.YtdjgcenjonegjaaGreat
section
open Go.RowKit

/-- block z is the number n -/
def BN (w:World) (z n:Nat):Prop:=∃ v,BIat w z false v∧Abs w v n
theorem BIat.below {w w':World} {z:Nat} {nb:Bool} {v:Value} (h:BIat w z nb v) (k:Below w.heap.size w w'):BIat w' z nb v:=(k.block z h.lt).trans h
theorem BIat.drew {w:World} {z:Nat} {nb:Bool} {v:Value} (h:BIat w z nb v):BIat w.drew z nb v:=h
theorem Abs.drew {w:World} {v:Value} {n:Nat} (h:Abs w v n):Abs w.drew v n:=h
theorem BN.below {w w':World} {z n:Nat} (h:BN w z n) (k:Below w.heap.size w w'):BN w' z n:=by
  obtain ⟨v,h1,h2⟩:=h;exact ⟨v,h1.below k,h2.below k⟩
/-- the call returns number z, which is n; of the rest nothing has turned -/
def GaveN (z n:Nat) (w:World) (e:Ending) (w':World):Prop:=e=.returned (.pointer (some ⟨z,0,none⟩))∧BN w' z n∧Chg z w w'
theorem give_nat (z:Nat) (v0 v:Value) (n:Nat) (w:World) (hz:BIat w z false v0) (h0:∀ k:Int,v0≠U32 k) (h:Abs w v n):Calls Tryz.prog 141 #[.pointer (some ⟨z,0,none⟩),.bool false,v] w (GaveN z n w):=
  (give_any z false false v0 v n w hz h0 h).mono fun e w' ⟨he,hb,hc⟩=>by
    obtain ⟨u,h1,h2⟩:=hb
    rw [signed_abs] at h2
    have:decide (signed false n < 0)=false:=by simp [signed]
    rw [this] at h1
    exact ⟨he,⟨u,h1,h2⟩,hc⟩
theorem Chg.ofDrew {z:Nat} {w w':World} (h:Chg z w.drew w'):Chg z w w':=⟨h.os,h.tape,h.output,h.size,h.block⟩
theorem Mul_any (z x y k n m:Nat) (w:World) (hz:BN w z k) (hx:BN w x n) (hy:BN w y m) (hn:n < 4294967296^100) (hm:m < 4294967296^100):
    Calls Tryz.prog 101 #[.pointer (some ⟨z,0,none⟩),.pointer (some ⟨x,0,none⟩),.pointer (some ⟨y,0,none⟩)] w (GaveN z (n*m) w):=by
  obtain ⟨vz,z1,z2⟩:=hz;obtain ⟨vx,x1,x2⟩:=hx;obtain ⟨vy,y1,y2⟩:=hy;have hzs:=z2.slice;have M:=Lib.hid (fun W h1 h2=>mul_any vx vy n m W h1 h2 (Nat.lt_of_lt_of_le hn (Nat.pow_le_pow_right (by decide) (by decide))) (Nat.lt_of_lt_of_le hm (Nat.pow_le_pow_right (by decide) (by decide))));obtain ⟨cx0,cx1,-,-⟩:=x1.cells;obtain ⟨cy0,cy1,-,-⟩:=y1.cells;have HS:=Lib.hid hzs;clear hn hm hzs;go_enter Tryz.func101,Tryz.ntmps101;go_wp2;refine AnyC.begin 19 (fun w'=>w'.cell? ⟨x,0,none⟩=some (.bool false)∧w'.cell? ⟨x,1,none⟩=some vx∧w'.cell? ⟨y,0,none⟩=some (.bool false)∧w'.cell? ⟨y,1,none⟩=some vy) (by kernel_rfl) ?_;have HH:(fun w'=>w'.cell? ⟨x,0,none⟩=some (.bool false)∧w'.cell? ⟨x,1,none⟩=some vx∧w'.cell? ⟨y,0,none⟩=some (.bool false)∧w'.cell? ⟨y,1,none⟩=some vy) w.drew:=⟨cx0,cx1,cy0,cy1⟩;refine AnyC.tk 0 ?_ HH ?_ ?_;rotate_left
  · (intro w hSw;(try dsimp only at hSw);first | (go_simp;done) | (go_simp;with_reducible rfl))
  (try simp only [Act.put,List.setIfInBounds_toArray]);refine AnyC.tk 1 ?_ HH ?_ ?_;rotate_left
  · (intro w hSw;(try dsimp only at hSw);first | (go_simp;done) | (go_simp;with_reducible rfl))
  (try simp only [Act.put]);refine AnyC.tk 2 ?_ HH ?_ ?_;rotate_left
  · (intro w hSw;(try dsimp only at hSw);first | (go_simp;done) | (go_simp;with_reducible rfl))
  (try simp only [Act.put]);refine AnyC.tk 3 ?_ HH ?_ ?_;rotate_left
  · (intro w hSw;(try dsimp only at hSw);first | (go_simp;done) | (go_simp;with_reducible rfl))
  (try simp only [Act.put]);refine AnyC.tk 4 ?_ HH ?_ ?_;rotate_left
  · (intro w hSw;(try dsimp only at hSw);first | (go_simp;done) | (go_simp;with_reducible rfl))
  (try simp only [Act.put]);refine AnyC.tk 5 ?_ HH ?_ ?_;rotate_left
  · (intro w hSw;(try dsimp only at hSw);first | (go_simp;done) | (go_simp;with_reducible rfl))
  (try simp only [Act.put]);refine AnyC.tk 6 ?_ HH ?_ ?_;rotate_left
  · (intro w hSw;(try dsimp only at hSw);first | (go_simp;done) | (go_simp;with_reducible rfl))
  (try simp only [Act.put]);refine AnyC.tk 7 ?_ HH ?_ ?_;rotate_left
  · (intro w hSw;(try dsimp only at hSw);first | (go_simp;done) | (go_simp;with_reducible rfl))
  (try simp only [Act.put]);refine AnyC.tk 8 ?_ HH ?_ ?_;rotate_left
  · (intro w hSw;(try dsimp only at hSw);first | (go_simp;done) | (go_simp;with_reducible rfl))
  (try simp only [Act.put]);refine AnyC.tk 9 ?_ HH ?_ ?_;rotate_left
  · (intro w hSw;(try dsimp only at hSw);first | (go_simp;done) | (go_simp;with_reducible rfl))
  (try simp only [Act.put]);refine AnyC.tk 10 ?_ HH ?_ ?_;rotate_left
  · (intro w hSw;(try dsimp only at hSw);first | (go_simp;done) | (go_simp;with_reducible rfl))
  (try simp only [Act.put]);refine AnyC.tk 11 ?_ HH ?_ ?_;rotate_left
  · (intro w hSw;(try dsimp only at hSw);first | (go_simp;done) | (go_simp;with_reducible rfl))
  (try simp only [Act.put]);refine AnyC.tk 12 ?_ HH ?_ ?_;rotate_left
  · (intro w hSw;(try dsimp only at hSw);first | (go_simp;done) | (go_simp;with_reducible rfl))
  (try simp only [Act.put]);refine AnyC.tk 13 ?_ HH ?_ ?_;rotate_left
  · (intro w hSw;(try dsimp only at hSw);first | (go_simp;done) | (go_simp;with_reducible rfl))
  (try simp only [Act.put]);refine AnyC.tk 14 ?_ HH ?_ ?_;rotate_left
  · (intro w hSw;(try dsimp only at hSw);first | (go_simp;done) | (go_simp;with_reducible rfl))
  (try simp only [Act.put]);refine AnyC.tk 15 ?_ HH ?_ ?_;rotate_left
  · (intro w hSw;(try dsimp only at hSw);first | (go_simp;done) | (go_simp;with_reducible rfl))
  (try simp only [Act.put]);refine AnyC.tk 16 ?_ HH ?_ ?_;rotate_left
  · (intro w hSw;(try dsimp only at hSw);first | (go_simp;done) | (go_simp;with_reducible rfl))
  (try simp only [Act.put]);refine AnyC.tk 17 ?_ HH ?_ ?_;rotate_left
  · (intro w hSw;(try dsimp only at hSw);first | (go_simp;done) | (go_simp;with_reducible rfl))
  (try simp only [Act.put]);refine AnyC.one (i:=18) (by kernel_rfl) (by rfl) (fun K hK=>?_);go_simp;(with_reducible refine (M.out _ x2.drew y2.drew).mono ?_);rintro e w1 ⟨v,rfl,hv,k1⟩
  go_wp2_with fail
  have g1:=(x1.drew.below k1).cells;have g2:=(y1.drew.below k1).cells;have HH:(fun w'=>w'.cell? ⟨x,0,none⟩=some (.bool false)∧w'.cell? ⟨x,1,none⟩=some vx∧w'.cell? ⟨y,0,none⟩=some (.bool false)∧w'.cell? ⟨y,1,none⟩=some vy) w1:=⟨g1.1,g1.2.1,g2.1,g2.2.1⟩;refine hK.out _ _ (fun _ _=>HH) ?_;clear hK K;(try simp only [Act.put]);refine AnyC.one (i:=19) (by kernel_rfl) (by rfl) (fun K hK=>?_);go_simp;(with_reducible refine (give_nat z vz _ _ _ (z1.drew.below k1) HS.out hv).mono ?_);rintro e w2 ⟨rfl,hB,hK2⟩
  go_wp2_with fail
  refine hK.out _ _ (fun h=>absurd rfl h) ?_;clear hK K;refine AnyC.one (i:=20) (by kernel_rfl) (by rfl) (fun K hK=>?_);go_simp;refine hK.out _ _ (fun _ h=>by simp at h) ?_;clear hK K;refine AnyC.done (by kernel_rfl) ?_ _;go_wp2;go_ret;exact ⟨rfl,hB,Chg.ofDrew ((Chg.of_below k1:Chg z w.drew w1).trans hK2)⟩

/-- the sum of two signed lists: both 0 or more -/
theorem sum_add (va vb:Value) (n m:Nat) (w:World) (hA:Abs w va n) (hB:Abs w vb m) (hn:n < 4294967296^100) (hm:m < 4294967296^100):
    Calls Tryz.prog 143 #[.bool false,va,.bool false,vb] w (fun e w'=>∃ v,e=.returned (T2 (.bool false) v)∧Abs w' v (n+m)∧Below w.heap.size w w'):=by
  have A:=Lib.hid (add_any va vb n m w hA hB (Nat.lt_of_lt_of_le hn (Nat.pow_le_pow_right (by decide) (by decide))) (Nat.lt_of_lt_of_le hm (Nat.pow_le_pow_right (by decide) (by decide))));obtain ⟨la,⟨a,cap,rfl,-⟩,-⟩:=hA;obtain ⟨lb,⟨a2,cap2,rfl,-⟩,-⟩:=hB;clear hn hm;go_enter Tryz.func143,Tryz.ntmps143
  go_wp2_with fail
  refine A.out.mono ?_;rintro e w1 ⟨v,rfl,hv,k1⟩;go_wp2;go_ret2;exact ⟨_,rfl,hv,k1⟩
theorem Add_any (z x y k n m:Nat) (w:World) (hz:BN w z k) (hx:BN w x n) (hy:BN w y m) (hn:n < 4294967296^100) (hm:m < 4294967296^100):
    Calls Tryz.prog 102 #[.pointer (some ⟨z,0,none⟩),.pointer (some ⟨x,0,none⟩),.pointer (some ⟨y,0,none⟩)] w (GaveN z (n+m) w):=by
  obtain ⟨vz,z1,z2⟩:=hz;obtain ⟨vx,x1,x2⟩:=hx;have hzs:=z2.slice;obtain ⟨cx0,cx1,-,-⟩:=x1.cells;have HS:=Lib.hid hzs;obtain ⟨vy,y1,y2⟩:=hy;obtain ⟨cy0,cy1,-,-⟩:=y1.cells;have M:=Lib.hid (fun W h1 h2=>sum_add vx vy n m W h1 h2 hn hm);clear hn hm hzs;go_enter Tryz.func102,Tryz.ntmps102;go_wp2;refine AnyC.begin 20 (fun w'=>w'.cell? ⟨x,0,none⟩=some (.bool false)∧w'.cell? ⟨x,1,none⟩=some vx∧w'.cell? ⟨y,0,none⟩=some (.bool false)∧w'.cell? ⟨y,1,none⟩=some vy) (by kernel_rfl) ?_;have HH:(fun w'=>w'.cell? ⟨x,0,none⟩=some (.bool false)∧w'.cell? ⟨x,1,none⟩=some vx∧w'.cell? ⟨y,0,none⟩=some (.bool false)∧w'.cell? ⟨y,1,none⟩=some vy) w.drew:=⟨cx0,cx1,cy0,cy1⟩;refine AnyC.tk 0 ?_ HH ?_ ?_;rotate_left
  · (intro w hSw;(try dsimp only at hSw);first | (go_simp;done) | (go_simp;with_reducible rfl))
  (try simp only [Act.put,List.setIfInBounds_toArray]);refine AnyC.tk 1 ?_ HH ?_ ?_;rotate_left
  · (intro w hSw;(try dsimp only at hSw);first | (go_simp;done) | (go_simp;with_reducible rfl))
  (try simp only [Act.put]);refine AnyC.tk 2 ?_ HH ?_ ?_;rotate_left
  · (intro w hSw;(try dsimp only at hSw);first | (go_simp;done) | (go_simp;with_reducible rfl))
  (try simp only [Act.put]);refine AnyC.tk 3 ?_ HH ?_ ?_;rotate_left
  · (intro w hSw;(try dsimp only at hSw);first | (go_simp;done) | (go_simp;with_reducible rfl))
  (try simp only [Act.put]);refine AnyC.tk 4 ?_ HH ?_ ?_;rotate_left
  · (intro w hSw;(try dsimp only at hSw);first | (go_simp;done) | (go_simp;with_reducible rfl))
  (try simp only [Act.put]);refine AnyC.tk 5 ?_ HH ?_ ?_;rotate_left
  · (intro w hSw;(try dsimp only at hSw);first | (go_simp;done) | (go_simp;with_reducible rfl))
  (try simp only [Act.put]);refine AnyC.tk 6 ?_ HH ?_ ?_;rotate_left
  · (intro w hSw;(try dsimp only at hSw);first | (go_simp;done) | (go_simp;with_reducible rfl))
  (try simp only [Act.put]);refine AnyC.tk 7 ?_ HH ?_ ?_;rotate_left
  · (intro w hSw;(try dsimp only at hSw);first | (go_simp;done) | (go_simp;with_reducible rfl))
  (try simp only [Act.put]);refine AnyC.tk 8 ?_ HH ?_ ?_;rotate_left
  · (intro w hSw;(try dsimp only at hSw);first | (go_simp;done) | (go_simp;with_reducible rfl))
  (try simp only [Act.put]);refine AnyC.tk 9 ?_ HH ?_ ?_;rotate_left
  · (intro w hSw;(try dsimp only at hSw);first | (go_simp;done) | (go_simp;with_reducible rfl))
  (try simp only [Act.put]);refine AnyC.tk 10 ?_ HH ?_ ?_;rotate_left
  · (intro w hSw;(try dsimp only at hSw);first | (go_simp;done) | (go_simp;with_reducible rfl))
  (try simp only [Act.put]);refine AnyC.tk 11 ?_ HH ?_ ?_;rotate_left
  · (intro w hSw;(try dsimp only at hSw);first | (go_simp;done) | (go_simp;with_reducible rfl))
  (try simp only [Act.put]);refine AnyC.tk 12 ?_ HH ?_ ?_;rotate_left
  · (intro w hSw;(try dsimp only at hSw);first | (go_simp;done) | (go_simp;with_reducible rfl))
  (try simp only [Act.put]);refine AnyC.tk 13 ?_ HH ?_ ?_;rotate_left
  · (intro w hSw;(try dsimp only at hSw);first | (go_simp;done) | (go_simp;with_reducible rfl))
  (try simp only [Act.put]);refine AnyC.tk 14 ?_ HH ?_ ?_;rotate_left
  · (intro w hSw;(try dsimp only at hSw);first | (go_simp;done) | (go_simp;with_reducible rfl))
  (try simp only [Act.put]);refine AnyC.tk 15 ?_ HH ?_ ?_;rotate_left
  · (intro w hSw;(try dsimp only at hSw);first | (go_simp;done) | (go_simp;with_reducible rfl))
  (try simp only [Act.put]);refine AnyC.tk 16 ?_ HH ?_ ?_;rotate_left
  · (intro w hSw;(try dsimp only at hSw);first | (go_simp;done) | (go_simp;with_reducible rfl))
  (try simp only [Act.put]);refine AnyC.one (i:=17) (by kernel_rfl) (by rfl) (fun K hK=>?_);go_simp;(with_reducible refine (M.out _ x2.drew y2.drew).mono ?_);rintro e w1 ⟨v,rfl,hv,k1⟩
  go_wp2_with fail
  have g1:=(x1.drew.below k1).cells;have g2:=(y1.drew.below k1).cells;have HH:(fun w'=>w'.cell? ⟨x,0,none⟩=some (.bool false)∧w'.cell? ⟨x,1,none⟩=some vx∧w'.cell? ⟨y,0,none⟩=some (.bool false)∧w'.cell? ⟨y,1,none⟩=some vy) w1:=⟨g1.1,g1.2.1,g2.1,g2.2.1⟩;refine hK.out _ _ (fun _ _=>HH) ?_;clear hK K;(try simp only [Act.put]);refine AnyC.tk 18 ?_ HH ?_ ?_;rotate_left
  · (intro w hSw;(try dsimp only at hSw);first | (go_simp;done) | (go_simp;with_reducible rfl))
  (try simp only [Act.put]);refine AnyC.tk 19 ?_ HH ?_ ?_;rotate_left
  · (intro w hSw;(try dsimp only at hSw);first | (go_simp;done) | (go_simp;with_reducible rfl))
  (try simp only [Act.put]);refine AnyC.one (i:=20) (by kernel_rfl) (by rfl) (fun K hK=>?_);go_simp;(with_reducible refine (give_nat z vz _ _ _ (z1.drew.below k1) HS.out hv).mono ?_);rintro e w2 ⟨rfl,hB,hK2⟩
  go_wp2_with fail
  refine hK.out _ _ (fun h=>absurd rfl h) ?_;clear hK K;refine AnyC.one (i:=21) (by kernel_rfl) (by rfl) (fun K hK=>?_);go_simp;refine hK.out _ _ (fun _ h=>by simp at h) ?_;clear hK K;refine AnyC.done (by kernel_rfl) ?_ _;go_wp2;go_ret;exact ⟨rfl,hB,Chg.ofDrew ((Chg.of_below k1:Chg z w.drew w1).trans hK2)⟩
end
section
open Go.RowKit

/-- what may be divided by here: one word, or a power of two -/
def DivOk (m:Nat):Prop:=(0 < m∧m < 4294967296)∨∃ e,32≤e∧e < 2900∧m=2^e
/-- z is the quotient, r the rest; each is given by itself -/
def GaveQR (z r q m:Nat) (w:World) (e:Ending) (w':World):Prop:=
  e=.returned (T2 (.pointer (some ⟨z,0,none⟩)) (.pointer (some ⟨r,0,none⟩)))∧∃ wm,BN wm z q∧Chg z w wm∧BN w' r m∧Chg r wm w'∧BN w' z q
end
section
open Go.RowKit

/-- a number in new memory -/
def GrewBN (n:Nat) (w:World) (e:Ending) (w':World):Prop:=∃ z,e=.returned (.pointer (some ⟨z,0,none⟩))∧BN w' z n∧w.heap.size≤z∧Below w.heap.size w w'
theorem NewInt_nat (n:Nat) (w:World) (h:n≤9223372036854775807):Calls Tryz.prog 100 #[I n] w (GrewBN n w):=
  (NewInt_any n w (by omega) (by omega)).mono fun e w' ⟨z,he,⟨v,h1,h2⟩,h3,h4⟩=>by
    have:decide (((n:Nat):Int) < 0)=false:=by simp
    rw [this] at h1
    exact ⟨z,he,⟨v,h1,by simpa using h2⟩,h3,h4⟩

abbrev wideV (a b c:Nat):Value:=.agg #[.int .u32 a,.int .u32 b,.int .u32 c]
theorem val3 (a b c:Nat):val [a,b,c]=a+4294967296*(b+4294967296*c):=by simp [val]
theorem val3_lt {a b c:Nat} (ha:a < 4294967296) (hb:b < 4294967296) (hc:c < 4294967296):val [a,b,c] < 79228162514264337593543950336:=by rw [val3];omega

def BigRel (W:World) (a b c z k:Nat) (wr:World):Prop:=
  BN wr z (val ([a,b,c].drop k))∧Own wr W.heap.size [U32 a,U32 b,U32 c]∧Below W.heap.size W wr
def wd (N k i:Nat):Nat:=if i < k then N / 4294967296^i%4294967296 else 0
def WideRel (W:World) (N rest base k:Nat) (wr:World):Prop:=
  BN wr rest (N / 4294967296^k)∧BN wr base 4294967296∧wr.heap[W.heap.size+1]?=some (.cells (wcells [wd N k 0,wd N k 1,wd N k 2]).toArray 113 (0,0))∧Own wr W.heap.size [U32 0,U32 0,U32 0]∧Below W.heap.size W wr
def GrewW (a b c d:Nat) (w:World) (e:Ending) (w':World):Prop:=e=.returned (T2 (wideV a b c) (U32 d))∧Below w.heap.size w w'
end
section
open Go.RowKit

theorem Add32_any (a b:Nat) (w:World) (ha:a < 4294967296) (hb:b < 4294967296):Calls Tryz.prog 132 #[U32 a,U32 b,U32 0] w (Pure (T2 (U32 ((a+b)%4294967296:Nat)) (U32 ((a+b) / 4294967296:Nat))) w):=by
  have e1:(a:Int)+(b:Int)=((a+b:Nat):Int):=rfl;have e2:(((a+b) / 4294967296:Nat):Int)%4294967296=(((a+b) / 4294967296:Nat):Int):=by omega
  have E2:=Lib.hid e2;clear e1 e2;go_enter Tryz.func132,Tryz.ntmps132;go_wp2;go_ret2;refine Pure.intro ?_;show T2 (U32 _) (U32 _)=_
  congr 3

theorem Mul32_any (a b:Nat) (w:World) (ha:a < 4294967296) (hb:b < 4294967296):Calls Tryz.prog 131 #[U32 a,U32 b] w (Pure (T2 (U32 (a*b / 4294967296:Nat)) (U32 (a*b%4294967296:Nat))) w):=by
  have hm:a*b≤4294967295*4294967295:=Nat.mul_le_mul (by omega) (by omega);have e1:(a:Int)*(b:Int)=((a*b:Nat):Int):=rfl;generalize a*b=m at *;have m0:m < 18446744065119617026:=by omega
  have h0:(m:Int) / 4294967296 < 4294967296:=by omega
  clear hm m0;go_enter Tryz.func131,Tryz.ntmps131;go_wp2;go_ret2;exact Pure.intro rfl

/-- word by word, the least first: what is carried ahead of word k, and word k -/
def carryC (F:Nat→Nat→Nat×Nat) (l:List Nat) (x:Nat):Nat→Nat
  | 0=>x
  | k+1=>(F (l.getD k 0) (carryC F l x k)).2
def wordC (F:Nat→Nat→Nat×Nat) (l:List Nat) (x k:Nat):Nat:=(F (l.getD k 0) (carryC F l x k)).1
def mixC (F:Nat→Nat→Nat×Nat) (l:List Nat) (x k i:Nat):Nat:=if i < k then wordC F l x i else l.getD i 0
def plusF (w c:Nat):Nat×Nat:=((w+c)%4294967296,(w+c) / 4294967296)
def timesF (m w c:Nat):Nat×Nat:=((w*m+c)%4294967296,(w*m+c) / 4294967296)
def OkF (F:Nat→Nat→Nat×Nat):Prop:=∀ w c,w < 4294967296→c < 4294967296→(F w c).1 < 4294967296∧(F w c).2 < 4294967296
theorem timesF_ok {m:Nat} (hm:m < 4294967296):OkF (timesF m):=fun w c hw hc=>by
  simp only [timesF]
  have:=mul_bound hc hw hm (show 0 < 4294967296 by decide)
  rw [Nat.add_zero,Nat.add_comm] at this
  exact ⟨Nat.mod_lt _ (by decide),this.2⟩
theorem carryC_lt {F:Nat→Nat→Nat×Nat} {l:List Nat} {x:Nat} (hF:OkF F) (hl:allW l) (hx:x < 4294967296):∀ k,carryC F l x k < 4294967296
  | 0=>hx
  | k+1=>(hF _ _ (allW_at hl k) (carryC_lt hF hl hx k)).2
theorem wordC_lt {F:Nat→Nat→Nat×Nat} {l:List Nat} {x:Nat} (hF:OkF F) (hl:allW l) (hx:x < 4294967296) (k:Nat):wordC F l x k < 4294967296:=
  (hF _ _ (allW_at hl k) (carryC_lt hF hl hx k)).1

theorem Times1_any (a c m g:Nat) (w:World) (ha:a < 4294967296) (hc:c < 4294967296) (hm:m < 4294967296) (hg:w.cell? ⟨g,0,none⟩=some (U32 m)):Calls Tryz.prog 130 #[U32 a,U32 c,.pointer (some ⟨g,0,none⟩)] w (Pure (T2 (U32 (timesF m a c).1) (U32 (timesF m a c).2)) w):=by
  have M:=Lib.hid (fun W=>Mul32_any a m W ha hm);have hlow:a*m%4294967296 < 4294967296:=Nat.mod_lt _ (by decide);have A:=Lib.hid (fun W=>Add32_any (a*m%4294967296) c W hlow hc);have b1:=mul_bound hc ha hm (show 0 < 4294967296 by decide);rw [Nat.add_zero,Nat.add_comm] at b1;have e1:(a*m%4294967296+c)%4294967296=(a*m+c)%4294967296:=by omega
  have e2:a*m / 4294967296+(a*m%4294967296+c) / 4294967296=(a*m+c) / 4294967296:=by omega
  simp only [timesF];rw [e1] at A;have hb:=b1.2;rw [← e2] at hb ⊢;clear b1 e1 e2 hlow;generalize a*m / 4294967296=hi at *;generalize (a*m%4294967296+c) / 4294967296=mo at *;generalize a*m%4294967296=lo at *;generalize (a*m+c)%4294967296=s at *;go_enter Tryz.func130,Tryz.ntmps130
  go_wp2_with fail
  refine (M.out _).mono ?_;rintro e w' ⟨rfl,rfl⟩
  go_wp2_with fail
  refine (A.out _).mono ?_;rintro e w' ⟨rfl,rfl⟩;go_wp2;go_ret2;exact Pure.intro rfl

def UpRel (W:World) (F:Nat→Nat→Nat×Nat) (l:List Nat) (x k:Nat) (wr:World):Prop:=
  Own wr W.heap.size [U32 (mixC F l x k 0),U32 (mixC F l x k 1),U32 (mixC F l x k 2)]∧Own wr (W.heap.size+1) [U32 0,U32 0,U32 0]∧Below W.heap.size W wr
theorem UpRel.set {W:World} {F:Nat→Nat→Nat×Nat} {l:List Nat} {x k:Nat} {wr:World} (hk:k < 3) (h:UpRel W F l x k wr):Hid (UpRel W F l x (k+1) (wr.setCell ⟨W.heap.size,k,none⟩ (U32 (wordC F l x k:Nat)))):=by
  refine ⟨?_,h.2.1.other (a:=⟨W.heap.size,k,none⟩) (by show W.heap.size≠W.heap.size+1;omega) _,h.2.2.setCell (p:=⟨W.heap.size,k,none⟩) (Nat.le_refl _) _⟩;have h1:=h.1.set k (U32 (wordC F l x k:Nat))
  have e:([U32 (mixC F l x k 0),U32 (mixC F l x k 1),U32 (mixC F l x k 2)]:List Value).set k (U32 (wordC F l x k:Nat))=[U32 (mixC F l x (k+1) 0),U32 (mixC F l x (k+1) 1),U32 (mixC F l x (k+1) 2)]:=by
    match k,hk with
    | 0,_=>simp [mixC]
    | 1,_=>simp [mixC]
    | 2,_=>simp [mixC]
  rw [e] at h1;exact h1
theorem UpRel.at {W:World} {F:Nat→Nat→Nat×Nat} {l:List Nat} {x k:Nat} {wr:World} (hk:k < 3) (h:UpRel W F l x k wr):wr.cell? ⟨W.heap.size,k,none⟩=some (U32 (l.getD k 0:Nat))∧wr.frozen? ⟨W.heap.size,k,none⟩=false:=by
  refine ⟨?_,h.1.frozen k⟩;have:=h.1.cell k (by simpa using hk);rw [Nat.zero_add] at this;rw [this]
  match k,hk with
  | 0,_=>simp [mixC]
  | 1,_=>simp [mixC]
  | 2,_=>simp [mixC]
theorem UpRel.start {W:World} {F:Nat→Nat→Nat×Nat} {a b c x:Nat}:UpRel W F [a,b,c] x 0 ((W.alloc (.cells #[U32 a,U32 b,U32 c] 113)).alloc (.cells #[U32 0,U32 0,U32 0] 113)):=
  ⟨(Own.new (w:=W) rfl [U32 a,U32 b,U32 c] 113).alloc _,Own.new (by simp) [U32 0,U32 0,U32 0] 113,(boxed_below W _).alloc (boxed_below W _).size _⟩

theorem upT_any (a b c x m g:Nat) (w:World) (ha:a < 4294967296) (hb:b < 4294967296) (hc:c < 4294967296) (hx:x < 4294967296) (hm:m < 4294967296) (hg:w.cell? ⟨g,0,none⟩=some (U32 m)) (hgl:g < w.heap.size):
    Calls Tryz.prog 129 #[wideV a b c,U32 x,.func (.func 130) #[] #[.pointer (some ⟨g,0,none⟩)]] w (GrewW (wordC (timesF m) [a,b,c] x 0) (wordC (timesF m) [a,b,c] x 1) (wordC (timesF m) [a,b,c] x 2) (carryC (timesF m) [a,b,c] x 3) w):=by
  have hR:=Lib.hid (UpRel.start (W:=w) (F:=(timesF m)) (a:=a) (b:=b) (c:=c) (x:=x));have hl:allW [a,b,c]:=by intro d hd;simp at hd;omega
  have HC:=Lib.hid (carryC_lt (timesF_ok hm) hl hx);have HL:=Lib.hid (allW_at hl);clear hl;go_enter Tryz.func129,Tryz.ntmps129;go_wp2
  go_loopw [1,8,9] (fun cv _ i wr=>∃ k:Nat,k≤3∧i=I k∧cv=U32 (carryC (timesF m) [a,b,c] x k:Nat)∧Hid (UpRel w (timesF m) [a,b,c] x k wr)) (fun _ _ i _=>(3-intOf i).toNat)
  case atStart=>exact ⟨0,by decide,rfl,rfl,hR⟩
  case round=>
    clear hR;obtain ⟨k,hk,rfl,rfl,hR⟩:=hrel
    by_cases hlt:k < 3
    · have hi0:(0:Int)≤(k:Int):=by omega
      have hi1:(k:Int) < 3:=by omega
      obtain ⟨e0,f0⟩:=UpRel.at hlt hR.out;have hbw0:=Lib.hid hR.out.2.2;have hnew:=UpRel.set hlt hR.out;have hc1:=HC.out k;have hw1:=HL.out k;have hcs:=Lib.hid (show carryC (timesF m) [a,b,c] x (k+1)=((timesF m) ([a,b,c].getD k 0) (carryC (timesF m) [a,b,c] x k)).2 from rfl);have hws:=Lib.hid (show wordC (timesF m) [a,b,c] x k=((timesF m) ([a,b,c].getD k 0) (carryC (timesF m) [a,b,c] x k)).1 from rfl);generalize carryC (timesF m) [a,b,c] x k=cc at *;generalize [a,b,c].getD k 0=d at *;have C:=Lib.hid (fun W hcg=>Times1_any d cc m g W hw1 hc1 hm hcg);generalize ((timesF m) d cc).2=c2 at *;generalize ((timesF m) d cc).1=d2 at *;rw [hws.out] at hnew;clear hR hws;have hcg:=(hbw0.out.cell (p:=⟨g,0,none⟩) hgl).trans hg
      go_wp2_with fail
      refine (C.out _ hcg).mono ?_;rintro e w' ⟨rfl,rfl⟩;go_wp2;exact ⟨⟨k+1,by omega,by go_num,by rw [hcs.out],hnew⟩,by simp [intOf];try omega⟩
    · have hk3:k=3:=by omega
      subst hk3;obtain ⟨o1,o2,hbw⟩:=hR.out;have e0:mixC (timesF m) [a,b,c] x 3 0=wordC (timesF m) [a,b,c] x 0:=rfl;have e1:mixC (timesF m) [a,b,c] x 3 1=wordC (timesF m) [a,b,c] x 1:=rfl;have e2:mixC (timesF m) [a,b,c] x 3 2=wordC (timesF m) [a,b,c] x 2:=rfl;rw [e0,e1,e2] at o1;have cO:=o1;have cA:=cO.s3;clear cO;have zO:=o2;have zA:=zO.s3;clear zO;clear o1 o2 hR e0 e1 e2;have r1:=set_same;have r2:=set_off;have r3:=set_blk;go_wp2;refine bodyPost_ret (v:=T2 (wideV (wordC (timesF m) [a,b,c] x 0) (wordC (timesF m) [a,b,c] x 1) (wordC (timesF m) [a,b,c] x 2)) (U32 (carryC (timesF m) [a,b,c] x 3:Nat))) (by simp [results,Tryz.results129,go_sem, *]) rfl ⟨rfl,below_autor⟩
theorem Times_any (a b c m:Nat) (w:World) (ha:a < 4294967296) (hb:b < 4294967296) (hc:c < 4294967296) (hm:m < 4294967296):
    Calls Tryz.prog 85 #[wideV a b c,U32 m] w (GrewW (wordC (timesF m) [a,b,c] 0 0) (wordC (timesF m) [a,b,c] 0 1) (wordC (timesF m) [a,b,c] 0 2) (carryC (timesF m) [a,b,c] 0 3) w):=by
  have C:Hid (∀ (W:World) (g:Nat),W.cell? ⟨g,0,none⟩=some (U32 m)→g < W.heap.size→Calls Tryz.prog 129 #[wideV a b c,U32 0,.func (.func 130) #[] #[.pointer (some ⟨g,0,none⟩)]] W (GrewW (wordC (timesF m) [a,b,c] 0 0) (wordC (timesF m) [a,b,c] 0 1) (wordC (timesF m) [a,b,c] 0 2) (carryC (timesF m) [a,b,c] 0 3) W)):=
    fun W g hg hgl=>upT_any a b c 0 m g W ha hb hc (by decide) hm hg hgl
  have hcm:((w.alloc (.cells #[U32 a,U32 b,U32 c] 113)).alloc (.cells #[U32 m] 80)).cell? ⟨w.heap.size+1,0,none⟩=some (U32 m):=by
    have:=cell_one (w.alloc (.cells #[U32 a,U32 b,U32 c] 113)) (U32 m) 80
    rwa [World.size_alloc] at this
  have hcm2:=((boxed_below ((w.alloc (.cells #[U32 a,U32 b,U32 c] 113)).alloc (.cells #[U32 m] 80)) (.cells #[U32 0,U32 0,U32 0] 113)).cell (p:=⟨w.heap.size+1,0,none⟩) (by simp)).trans hcm;have HC2:=Lib.hid hcm2;generalize wordC (timesF m) [a,b,c] 0 0=w0 at *;generalize wordC (timesF m) [a,b,c] 0 1=w1 at *;generalize wordC (timesF m) [a,b,c] 0 2=w2 at *;generalize carryC (timesF m) [a,b,c] 0 3=w3 at *;clear hcm hcm2;go_enter Tryz.func85,Tryz.ntmps85
  go_wp2_with fail
  refine (C.out _ _ HC2.out (by simp)).mono ?_;rintro e W1 ⟨rfl,k1⟩;have zO:=(Own.new (w:=(w.alloc (.cells #[U32 a,U32 b,U32 c] 113)).alloc (.cells #[U32 m] 80)) (g:=w.heap.size+2) (by simp) [U32 0,U32 0,U32 0] 113).below k1;have zA:=zO.s3;clear zO;have k:=below_box (below_box (below_box k1));clear k1;have r1:=set_same;have r2:=set_off;have r3:=set_blk;go_wp2;refine bodyPost_ret (v:=T2 (wideV w0 w1 w2) (U32 w3)) (by simp [results,Tryz.results85,go_sem, *]) rfl ⟨rfl,below_autor⟩
end
end Go.Proofs.YtdjgcenjonegjaaGreat
