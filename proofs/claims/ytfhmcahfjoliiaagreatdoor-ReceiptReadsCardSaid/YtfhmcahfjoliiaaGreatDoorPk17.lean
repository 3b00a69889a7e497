/- great numbers: quotients and rests of objects · ref.big96 and ref.wide96 -/
import Derived.Test.YtfhmcahfjoliiaaGreatDoorBigOps
set_option maxRecDepth 20000
set_option maxHeartbeats 8000000
set_option linter.unusedSimpArgs false
set_option linter.unusedVariables false
namespace Go.Proofs.YtfhmcahfjoliiaaGreatDoor
section
open Go.RowKit

/-- what may be divided by here: one word, or a power of two -/
def DivOk (m:Nat):Prop:=(0 < m∧m < 4294967296)∨∃ e,32≤e∧e < 2900∧m=2^e
theorem DivOk.pos {m:Nat} (h:DivOk m):0 < m:=by
  rcases h with h | ⟨e,_,_,rfl⟩
  · exact h.1
  · exact Nat.two_pow_pos e
theorem div_any (va vb:Value) (n m:Nat) (w:World) (hA:Abs w va n) (hB:Abs w vb m) (hn:n < 4294967296^200) (hm:DivOk m):Calls Tryz.prog 125 #[va,vb] w (GrewQR (n / m) (n%m) w):=by
  by_cases h1:n < m
  · exact div_less va vb n m w hA hB (Nat.lt_of_lt_of_le hn (Nat.pow_le_pow_right (by decide) (by decide))) hm.pos h1
  · by_cases h2:n < 18446744073709551616
    · exact div_two va vb n m w hA hB h2 hm.pos (by omega)
    · rcases hm with ⟨h3,h4⟩ | ⟨e,h3,h4,rfl⟩
      · exact div_one va vb n m w hA hB (Nat.lt_of_lt_of_le hn (Nat.pow_le_pow_right (by decide) (by decide))) h3 h4 (by omega)
      · exact div_pow va vb n e w hA hB hn h3 h4 (by omega) (by omega)

/-- z is the quotient, r the rest; each is given by itself -/
def GaveQR (z r q m:Nat) (w:World) (e:Ending) (w':World):Prop:=
  e=.returned (T2 (.pointer (some ⟨z,0,none⟩)) (.pointer (some ⟨r,0,none⟩)))∧∃ wm,BN wm z q∧Chg z w wm∧BN w' r m∧Chg r wm w'∧BN w' z q
theorem QuoRem_any (z x y r k n m j:Nat) (w:World) (hz:BN w z k) (hx:BN w x n) (hy:BN w y m) (hr:BN w r j) (hzr:r≠z) (hn:n < 4294967296^200) (hm:DivOk m):
    Calls Tryz.prog 96 #[.pointer (some ⟨z,0,none⟩),.pointer (some ⟨x,0,none⟩),.pointer (some ⟨y,0,none⟩),.pointer (some ⟨r,0,none⟩)] w (GaveQR z r (n / m) (n%m) w):=by
  obtain ⟨vx,x1,x2⟩:=hx;obtain ⟨vy,y1,y2⟩:=hy;obtain ⟨cx0,cx1,-,-⟩:=x1.cells;obtain ⟨cy0,cy1,-,-⟩:=y1.cells;have hxl:=x1.lt;have hyl:=y1.lt;have D:=Lib.hid (fun W h1 h2=>div_any vx vy n m W h1 h2 hn hm);have HZ:=Lib.hid hz;have HR:=Lib.hid hr;have X2:=Lib.hid x2;have Y2:=Lib.hid y2;generalize n / m=Q at *;generalize n%m=R at *;clear hn hm hz hr x1 y1 x2 y2;go_enter Tryz.func96,Tryz.ntmps96;go_wp2
  go_quiet (fail)
  go_wp2
  go_region_held3 (fun w'=>w'.cell? ⟨x,1,none⟩=some vx∧w'.cell? ⟨y,1,none⟩=some vy) (first | go_keep | (go_split_ands;refine ⟨?_,?_⟩<;>assumption))
    (first
      | ((with_reducible refine (D.out _ ?_ ?_).mono ?_); (exact X2.out); (exact Y2.out); rintro e w1 ⟨v1, v2, rfl, h1, h2, k1⟩
         have gx1:w1.cell? ⟨x,1,none⟩=some vx:=(k1.cell (p:=⟨x,1,none⟩) hxl).trans cx1;have gy1:w1.cell? ⟨y,1,none⟩=some vy:=(k1.cell (p:=⟨y,1,none⟩) hyl).trans cy1)
      | fail)
  all_goals
    have k1':Below w.heap.size w w1:=⟨k1.os,k1.tape,k1.output,k1.size,k1.block⟩;have hz1:=HZ.out.below k1';have hr1:=HR.out.below k1';obtain ⟨vz,z1,z2⟩:=hz1
    go_wp2_with fail
    refine (give_nat z vz _ _ _ z1 z2.slice h1).mono ?_;rintro e w2 ⟨rfl,hB,hK⟩;have hr2:BN w2 r j:=hr1.chg ⟨vz,z1,z2⟩ hK hzr;have h22:=h2.chg z1 z2.slice hK;obtain ⟨vr,r1,r2⟩:=hr2
    go_wp2_with fail
    refine (give_nat r vr _ _ _ r1 r2.slice h22).mono ?_;rintro e w3 ⟨rfl,hB3,hK3⟩;go_wp2;go_ret2;exact ⟨rfl,w2,hB,(Chg.of_below k1':Chg z w w1).trans hK,hB3,hK3,hB.chg ⟨vr,r1,r2⟩ hK3 (Ne.symm hzr)⟩

end
section
open Go.RowKit

/-- a number in new memory -/
def GrewBN (n:Nat) (w:World) (e:Ending) (w':World):Prop:=∃ z,e=.returned (.pointer (some ⟨z,0,none⟩))∧BN w' z n∧w.heap.size≤z∧Below w.heap.size w w'
theorem NewInt_nat (n:Nat) (w:World) (h:n≤9223372036854775807):Calls Tryz.prog 93 #[I n] w (GrewBN n w):=
  (NewInt_any n w (by omega) (by omega)).mono fun e w' ⟨z,he,⟨v,h1,h2⟩,h3,h4⟩=>by
    have:decide (((n:Nat):Int) < 0)=false:=by simp
    rw [this] at h1
    exact ⟨z,he,⟨v,h1,by simpa using h2⟩,h3,h4⟩

abbrev wideV (a b c:Nat):Value:=.agg #[.int .u32 a,.int .u32 b,.int .u32 c]
theorem val3 (a b c:Nat):val [a,b,c]=a+4294967296*(b+4294967296*c):=by simp [val]
theorem val3_lt {a b c:Nat} (ha:a < 4294967296) (hb:b < 4294967296) (hc:c < 4294967296):val [a,b,c] < 79228162514264337593543950336:=by rw [val3];omega

def BigRel (W:World) (a b c z k:Nat) (wr:World):Prop:=
  BN wr z (val ([a,b,c].drop k))∧Own wr W.heap.size [U32 a,U32 b,U32 c]∧Below W.heap.size W wr
def wd (N k i:Nat):Nat:=if i < k then N / 4294967296^i%4294967296 else 0
def WideRel (W:World) (N rest base k:Nat) (wr:World):Prop:=
  BN wr rest (N / 4294967296^k)∧BN wr base 4294967296∧wr.heap[W.heap.size+1]?=some (.cells (wcells [wd N k 0,wd N k 1,wd N k 2]).toArray 111 (0,0))∧Own wr W.heap.size [U32 0,U32 0,U32 0]∧Below W.heap.size W wr
def GrewW (a b c d:Nat) (w:World) (e:Ending) (w':World):Prop:=e=.returned (T2 (wideV a b c) (U32 d))∧Below w.heap.size w w'
end
end Go.Proofs.YtfhmcahfjoliiaaGreatDoor
