/- great numbers: objects that are 0 or more -/
import Derived.Test.YtfhmcahfjoliiaaGreatDoorPk06
import Derived.Test.YtfhmcahfjoliiaaGreatDoorBigMul
import Derived.Test.YtfhmcahfjoliiaaGreatDoorPk10
import Derived.Test.YtfhmcahfjoliiaaGreatDoorBigDiv
import Derived.Deep.RegionHeld3
import Derived.Test.YtfhmcahfjoliiaaGreatDoorRegC
set_option maxRecDepth 20000
set_option maxHeartbeats 8000000
set_option linter.unusedSimpArgs false
set_option linter.unusedVariables false
namespace Go.Proofs.YtfhmcahfjoliiaaGreatDoor
open Go.RowKit

/-- block z is the number n -/
def BN (w:World) (z n:Nat):Prop:=∃ v,BIat w z false v∧Abs w v n
theorem BIat.below {w w':World} {z:Nat} {nb:Bool} {v:Value} (h:BIat w z nb v) (k:Below w.heap.size w w'):BIat w' z nb v:=(k.block z h.lt).trans h
theorem BIat.drew {w:World} {z:Nat} {nb:Bool} {v:Value} (h:BIat w z nb v):BIat w.drew z nb v:=h
theorem Abs.drew {w:World} {v:Value} {n:Nat} (h:Abs w v n):Abs w.drew v n:=h
theorem BN.below {w w':World} {z n:Nat} (h:BN w z n) (k:Below w.heap.size w w'):BN w' z n:=by
  obtain ⟨v,h1,h2⟩:=h;exact ⟨v,h1.below k,h2.below k⟩
theorem BN.lt {w:World} {z n:Nat} (h:BN w z n):z < w.heap.size:=by obtain ⟨v,h1,_⟩:=h;exact h1.lt
theorem BN.chg {w w':World} {z p n k:Nat} (h:BN w p n) (hz:BN w z k) (c:Chg z w w') (hp:p≠z):BN w' p n:=by
  obtain ⟨u,h1,h2⟩:=h;obtain ⟨v,h3,h4⟩:=hz;exact ⟨u,h1.chg c hp,h2.chg h3 h4.slice c⟩
/-- the call returns number z, which is n; of the rest nothing has turned -/
def GaveN (z n:Nat) (w:World) (e:Ending) (w':World):Prop:=e=.returned (.pointer (some ⟨z,0,none⟩))∧BN w' z n∧Chg z w w'
theorem give_nat (z:Nat) (v0 v:Value) (n:Nat) (w:World) (hz:BIat w z false v0) (h0:∀ k:Int,v0≠U32 k) (h:Abs w v n):Calls Tryz.prog 120 #[.pointer (some ⟨z,0,none⟩),.bool false,v] w (GaveN z n w):=
  (give_any z false false v0 v n w hz h0 h).mono fun e w' ⟨he,hb,hc⟩=>by
    obtain ⟨u,h1,h2⟩:=hb
    rw [signed_abs] at h2
    have:decide (signed false n < 0)=false:=by simp [signed]
    rw [this] at h1
    exact ⟨he,⟨u,h1,h2⟩,hc⟩
theorem Chg.ofDrew {z:Nat} {w w':World} (h:Chg z w.drew w'):Chg z w w':=⟨h.os,h.tape,h.output,h.size,h.block⟩
theorem Mul_any (z x y k n m:Nat) (w:World) (hz:BN w z k) (hx:BN w x n) (hy:BN w y m) (hn:n < 4294967296^100) (hm:m < 4294967296^100):
    Calls Tryz.prog 92 #[.pointer (some ⟨z,0,none⟩),.pointer (some ⟨x,0,none⟩),.pointer (some ⟨y,0,none⟩)] w (GaveN z (n*m) w):=by
  obtain ⟨vz,z1,z2⟩:=hz;obtain ⟨vx,x1,x2⟩:=hx;obtain ⟨vy,y1,y2⟩:=hy;have hzs:=z2.slice;have M:=Lib.hid (fun W h1 h2=>mul_any vx vy n m W h1 h2 (Nat.lt_of_lt_of_le hn (Nat.pow_le_pow_right (by decide) (by decide))) (Nat.lt_of_lt_of_le hm (Nat.pow_le_pow_right (by decide) (by decide))));obtain ⟨cx0,cx1,-,-⟩:=x1.cells;obtain ⟨cy0,cy1,-,-⟩:=y1.cells;have HS:=Lib.hid hzs;clear hn hm hzs;go_enter Tryz.func92,Tryz.ntmps92;go_wp2;refine AnyC.begin 19 (fun w'=>w'.cell? ⟨x,0,none⟩=some (.bool false)∧w'.cell? ⟨x,1,none⟩=some vx∧w'.cell? ⟨y,0,none⟩=some (.bool false)∧w'.cell? ⟨y,1,none⟩=some vy) (by kernel_rfl) ?_;have HH:(fun w'=>w'.cell? ⟨x,0,none⟩=some (.bool false)∧w'.cell? ⟨x,1,none⟩=some vx∧w'.cell? ⟨y,0,none⟩=some (.bool false)∧w'.cell? ⟨y,1,none⟩=some vy) w.drew:=⟨cx0,cx1,cy0,cy1⟩;refine AnyC.tk 0 ?_ HH ?_ ?_;rotate_left
  · (intro w hSw;(try dsimp only at hSw);first | (go_simp;done) | (go_simp;with_reducible rfl))
  (try simp only [Act.put,List.setIfInBounds_toArray]);refine AnyC.tk 1 ?_ HH ?_ ?_;rotate_left
  · (intro w hSw;(try dsimp only at hSw);first | (go_simp;done) | (go_simp;with_reducible rfl))
  (try simp only [Act.put]);refine AnyC.tk 2 ?_ HH ?_ ?_;rotate_left
  · (intro w hSw;(try dsimp only at hSw);first | (go_simp;done) | (go_simp;with_reducible rfl))
  (try simp only [Act.put]);refine AnyC.tk 3 ?_ HH ?_ ?_;rotate_left
  · (intro w hSw;(try dsimp only at hSw);first | (go_simp;done) | (go_simp;with_reducible rfl))
  (try simp only [Act.put]);refine AnyC.tk 4 ?_ HH ?_ ?_;rotate_left
  · (intro w hSw;(try dsimp only at hSw);first | (go_simp;done) | (go_simp;with_reducible rfl))
  (try simp only [Act.put]);refine AnyC.tk 5 ?_ HH ?_ ?_;rotate_left
  · (intro w hSw;(try dsimp only at hSw);first | (go_simp;done) | (go_simp;with_reducible rfl))
  (try simp only [Act.put]);refine AnyC.tk 6 ?_ HH ?_ ?_;rotate_left
  · (intro w hSw;(try dsimp only at hSw);first | (go_simp;done) | (go_simp;with_reducible rfl))
  (try simp only [Act.put]);refine AnyC.tk 7 ?_ HH ?_ ?_;rotate_left
  · (intro w hSw;(try dsimp only at hSw);first | (go_simp;done) | (go_simp;with_reducible rfl))
  (try simp only [Act.put]);refine AnyC.tk 8 ?_ HH ?_ ?_;rotate_left
  · (intro w hSw;(try dsimp only at hSw);first | (go_simp;done) | (go_simp;with_reducible rfl))
  (try simp only [Act.put]);refine AnyC.tk 9 ?_ HH ?_ ?_;rotate_left
  · (intro w hSw;(try dsimp only at hSw);first | (go_simp;done) | (go_simp;with_reducible rfl))
  (try simp only [Act.put]);refine AnyC.tk 10 ?_ HH ?_ ?_;rotate_left
  · (intro w hSw;(try dsimp only at hSw);first | (go_simp;done) | (go_simp;with_reducible rfl))
  (try simp only [Act.put]);refine AnyC.tk 11 ?_ HH ?_ ?_;rotate_left
  · (intro w hSw;(try dsimp only at hSw);first | (go_simp;done) | (go_simp;with_reducible rfl))
  (try simp only [Act.put]);refine AnyC.tk 12 ?_ HH ?_ ?_;rotate_left
  · (intro w hSw;(try dsimp only at hSw);first | (go_simp;done) | (go_simp;with_reducible rfl))
  (try simp only [Act.put]);refine AnyC.tk 13 ?_ HH ?_ ?_;rotate_left
  · (intro w hSw;(try dsimp only at hSw);first | (go_simp;done) | (go_simp;with_reducible rfl))
  (try simp only [Act.put]);refine AnyC.tk 14 ?_ HH ?_ ?_;rotate_left
  · (intro w hSw;(try dsimp only at hSw);first | (go_simp;done) | (go_simp;with_reducible rfl))
  (try simp only [Act.put]);refine AnyC.tk 15 ?_ HH ?_ ?_;rotate_left
  · (intro w hSw;(try dsimp only at hSw);first | (go_simp;done) | (go_simp;with_reducible rfl))
  (try simp only [Act.put]);refine AnyC.tk 16 ?_ HH ?_ ?_;rotate_left
  · (intro w hSw;(try dsimp only at hSw);first | (go_simp;done) | (go_simp;with_reducible rfl))
  (try simp only [Act.put]);refine AnyC.tk 17 ?_ HH ?_ ?_;rotate_left
  · (intro w hSw;(try dsimp only at hSw);first | (go_simp;done) | (go_simp;with_reducible rfl))
  (try simp only [Act.put]);refine AnyC.one (i:=18) (by kernel_rfl) (by rfl) (fun K hK=>?_);go_simp;(with_reducible refine (M.out _ x2.drew y2.drew).mono ?_);rintro e w1 ⟨v,rfl,hv,k1⟩
  go_wp2_with fail
  have g1:=(x1.drew.below k1).cells;have g2:=(y1.drew.below k1).cells;have HH:(fun w'=>w'.cell? ⟨x,0,none⟩=some (.bool false)∧w'.cell? ⟨x,1,none⟩=some vx∧w'.cell? ⟨y,0,none⟩=some (.bool false)∧w'.cell? ⟨y,1,none⟩=some vy) w1:=⟨g1.1,g1.2.1,g2.1,g2.2.1⟩;refine hK.out _ _ (fun _ _=>HH) ?_;clear hK K;(try simp only [Act.put]);refine AnyC.one (i:=19) (by kernel_rfl) (by rfl) (fun K hK=>?_);go_simp;(with_reducible refine (give_nat z vz _ _ _ (z1.drew.below k1) HS.out hv).mono ?_);rintro e w2 ⟨rfl,hB,hK2⟩
  go_wp2_with fail
  refine hK.out _ _ (fun h=>absurd rfl h) ?_;clear hK K;refine AnyC.one (i:=20) (by kernel_rfl) (by rfl) (fun K hK=>?_);go_simp;refine hK.out _ _ (fun _ h=>by simp at h) ?_;clear hK K;refine AnyC.done (by kernel_rfl) ?_ _;go_wp2;go_ret;exact ⟨rfl,hB,Chg.ofDrew ((Chg.of_below k1:Chg z w.drew w1).trans hK2)⟩

/-- the sum of two signed lists: both 0 or more -/
theorem sum_add (va vb:Value) (n m:Nat) (w:World) (hA:Abs w va n) (hB:Abs w vb m) (hn:n < 4294967296^100) (hm:m < 4294967296^100):
    Calls Tryz.prog 123 #[.bool false,va,.bool false,vb] w (fun e w'=>∃ v,e=.returned (T2 (.bool false) v)∧Abs w' v (n+m)∧Below w.heap.size w w'):=by
  have A:=Lib.hid (add_any va vb n m w hA hB (Nat.lt_of_lt_of_le hn (Nat.pow_le_pow_right (by decide) (by decide))) (Nat.lt_of_lt_of_le hm (Nat.pow_le_pow_right (by decide) (by decide))));obtain ⟨la,⟨a,cap,rfl,-⟩,-⟩:=hA;obtain ⟨lb,⟨a2,cap2,rfl,-⟩,-⟩:=hB;clear hn hm;go_enter Tryz.func123,Tryz.ntmps123
  go_wp2_with fail
  refine A.out.mono ?_;rintro e w1 ⟨v,rfl,hv,k1⟩;go_wp2;go_ret2;exact ⟨_,rfl,hv,k1⟩
theorem Add_any (z x y k n m:Nat) (w:World) (hz:BN w z k) (hx:BN w x n) (hy:BN w y m) (hn:n < 4294967296^100) (hm:m < 4294967296^100):
    Calls Tryz.prog 94 #[.pointer (some ⟨z,0,none⟩),.pointer (some ⟨x,0,none⟩),.pointer (some ⟨y,0,none⟩)] w (GaveN z (n+m) w):=by
  obtain ⟨vz,z1,z2⟩:=hz;obtain ⟨vx,x1,x2⟩:=hx;have hzs:=z2.slice;obtain ⟨cx0,cx1,-,-⟩:=x1.cells;have HS:=Lib.hid hzs;obtain ⟨vy,y1,y2⟩:=hy;obtain ⟨cy0,cy1,-,-⟩:=y1.cells;have M:=Lib.hid (fun W h1 h2=>sum_add vx vy n m W h1 h2 hn hm);clear hn hm hzs;go_enter Tryz.func94,Tryz.ntmps94;go_wp2;refine AnyC.begin 20 (fun w'=>w'.cell? ⟨x,0,none⟩=some (.bool false)∧w'.cell? ⟨x,1,none⟩=some vx∧w'.cell? ⟨y,0,none⟩=some (.bool false)∧w'.cell? ⟨y,1,none⟩=some vy) (by kernel_rfl) ?_;have HH:(fun w'=>w'.cell? ⟨x,0,none⟩=some (.bool false)∧w'.cell? ⟨x,1,none⟩=some vx∧w'.cell? ⟨y,0,none⟩=some (.bool false)∧w'.cell? ⟨y,1,none⟩=some vy) w.drew:=⟨cx0,cx1,cy0,cy1⟩;refine AnyC.tk 0 ?_ HH ?_ ?_;rotate_left
  · (intro w hSw;(try dsimp only at hSw);first | (go_simp;done) | (go_simp;with_reducible rfl))
  (try simp only [Act.put,List.setIfInBounds_toArray]);refine AnyC.tk 1 ?_ HH ?_ ?_;rotate_left
  · (intro w hSw;(try dsimp only at hSw);first | (go_simp;done) | (go_simp;with_reducible rfl))
  (try simp only [Act.put]);refine AnyC.tk 2 ?_ HH ?_ ?_;rotate_left
  · (intro w hSw;(try dsimp only at hSw);first | (go_simp;done) | (go_simp;with_reducible rfl))
  (try simp only [Act.put]);refine AnyC.tk 3 ?_ HH ?_ ?_;rotate_left
  · (intro w hSw;(try dsimp only at hSw);first | (go_simp;done) | (go_simp;with_reducible rfl))
  (try simp only [Act.put]);refine AnyC.tk 4 ?_ HH ?_ ?_;rotate_left
  · (intro w hSw;(try dsimp only at hSw);first | (go_simp;done) | (go_simp;with_reducible rfl))
  (try simp only [Act.put]);refine AnyC.tk 5 ?_ HH ?_ ?_;rotate_left
  · (intro w hSw;(try dsimp only at hSw);first | (go_simp;done) | (go_simp;with_reducible rfl))
  (try simp only [Act.put]);refine AnyC.tk 6 ?_ HH ?_ ?_;rotate_left
  · (intro w hSw;(try dsimp only at hSw);first | (go_simp;done) | (go_simp;with_reducible rfl))
  (try simp only [Act.put]);refine AnyC.tk 7 ?_ HH ?_ ?_;rotate_left
  · (intro w hSw;(try dsimp only at hSw);first | (go_simp;done) | (go_simp;with_reducible rfl))
  (try simp only [Act.put]);refine AnyC.tk 8 ?_ HH ?_ ?_;rotate_left
  · (intro w hSw;(try dsimp only at hSw);first | (go_simp;done) | (go_simp;with_reducible rfl))
  (try simp only [Act.put]);refine AnyC.tk 9 ?_ HH ?_ ?_;rotate_left
  · (intro w hSw;(try dsimp only at hSw);first | (go_simp;done) | (go_simp;with_reducible rfl))
  (try simp only [Act.put]);refine AnyC.tk 10 ?_ HH ?_ ?_;rotate_left
  · (intro w hSw;(try dsimp only at hSw);first | (go_simp;done) | (go_simp;with_reducible rfl))
  (try simp only [Act.put]);refine AnyC.tk 11 ?_ HH ?_ ?_;rotate_left
  · (intro w hSw;(try dsimp only at hSw);first | (go_simp;done) | (go_simp;with_reducible rfl))
  (try simp only [Act.put]);refine AnyC.tk 12 ?_ HH ?_ ?_;rotate_left
  · (intro w hSw;(try dsimp only at hSw);first | (go_simp;done) | (go_simp;with_reducible rfl))
  (try simp only [Act.put]);refine AnyC.tk 13 ?_ HH ?_ ?_;rotate_left
  · (intro w hSw;(try dsimp only at hSw);first | (go_simp;done) | (go_simp;with_reducible rfl))
  (try simp only [Act.put]);refine AnyC.tk 14 ?_ HH ?_ ?_;rotate_left
  · (intro w hSw;(try dsimp only at hSw);first | (go_simp;done) | (go_simp;with_reducible rfl))
  (try simp only [Act.put]);refine AnyC.tk 15 ?_ HH ?_ ?_;rotate_left
  · (intro w hSw;(try dsimp only at hSw);first | (go_simp;done) | (go_simp;with_reducible rfl))
  (try simp only [Act.put]);refine AnyC.tk 16 ?_ HH ?_ ?_;rotate_left
  · (intro w hSw;(try dsimp only at hSw);first | (go_simp;done) | (go_simp;with_reducible rfl))
  (try simp only [Act.put]);refine AnyC.one (i:=17) (by kernel_rfl) (by rfl) (fun K hK=>?_);go_simp;(with_reducible refine (M.out _ x2.drew y2.drew).mono ?_);rintro e w1 ⟨v,rfl,hv,k1⟩
  go_wp2_with fail
  have g1:=(x1.drew.below k1).cells;have g2:=(y1.drew.below k1).cells;have HH:(fun w'=>w'.cell? ⟨x,0,none⟩=some (.bool false)∧w'.cell? ⟨x,1,none⟩=some vx∧w'.cell? ⟨y,0,none⟩=some (.bool false)∧w'.cell? ⟨y,1,none⟩=some vy) w1:=⟨g1.1,g1.2.1,g2.1,g2.2.1⟩;refine hK.out _ _ (fun _ _=>HH) ?_;clear hK K;(try simp only [Act.put]);refine AnyC.tk 18 ?_ HH ?_ ?_;rotate_left
  · (intro w hSw;(try dsimp only at hSw);first | (go_simp;done) | (go_simp;with_reducible rfl))
  (try simp only [Act.put]);refine AnyC.tk 19 ?_ HH ?_ ?_;rotate_left
  · (intro w hSw;(try dsimp only at hSw);first | (go_simp;done) | (go_simp;with_reducible rfl))
  (try simp only [Act.put]);refine AnyC.one (i:=20) (by kernel_rfl) (by rfl) (fun K hK=>?_);go_simp;(with_reducible refine (give_nat z vz _ _ _ (z1.drew.below k1) HS.out hv).mono ?_);rintro e w2 ⟨rfl,hB,hK2⟩
  go_wp2_with fail
  refine hK.out _ _ (fun h=>absurd rfl h) ?_;clear hK K;refine AnyC.one (i:=21) (by kernel_rfl) (by rfl) (fun K hK=>?_);go_simp;refine hK.out _ _ (fun _ h=>by simp at h) ?_;clear hK K;refine AnyC.done (by kernel_rfl) ?_ _;go_wp2;go_ret;exact ⟨rfl,hB,Chg.ofDrew ((Chg.of_below k1:Chg z w.drew w1).trans hK2)⟩
theorem Uint64_any (x n:Nat) (w:World) (hx:BN w x n) (hn:n < 18446744073709551616):
    Calls Tryz.prog 126 #[.pointer (some ⟨x,0,none⟩)] w (Pure (.int .u64 n) w):=by
  obtain ⟨vx,x1,x2⟩:=hx;obtain ⟨la,hA,ca⟩:=x2;have h1:=can_len (k:=2) ca (by simpa using hn);obtain ⟨a,cap,rfl,hn1,hl1,h01,hr1⟩:=hA;obtain ⟨cx0,cx1,-,-⟩:=x1.cells;clear hl1 h01 x1 cx0;obtain ⟨hv,hw,hc⟩:=ca
  match la,h1 with
  | [],_=>
    have hv0:n=0:=by simpa [val] using hv.symm
    subst hv0;clear hr1 hw hc hv;go_enter Tryz.func126,Tryz.ntmps126;go_wp2;go_ret;exact Pure.intro rfl
  | [x],_=>
    obtain ⟨b,off,rfl,hb,hcell⟩:=hr1.resolve_left (by simp);have ea:=hcell 0 (by simp [wcells]);have hx:n=x:=by simpa [val] using hv.symm
    subst hx;simp only [wcells,List.map_cons,List.map_nil,List.getD_cons_zero,Nat.add_zero] at ea;clear hr1 hcell hw hc hv;go_enter Tryz.func126,Tryz.ntmps126;go_wp2;go_ret;exact Pure.intro rfl
  | [x,y],_=>
    obtain ⟨b,off,rfl,hb,hcell⟩:=hr1.resolve_left (by simp);have ea:=hcell 0 (by simp [wcells]);have eb:=hcell 1 (by simp [wcells]);have hx:x < 4294967296:=hw x (by simp);have hy:y < 4294967296:=hw y (by simp);have hn2:n=4294967296*y+x:=by simp only [val] at hv;omega
    subst hn2;simp only [wcells,List.map_cons,List.map_nil,List.getD_cons_zero,List.getD_cons_succ,Nat.add_zero] at ea eb;have hor:=or64t x y hx hy;rw [Nat.add_comm] at hor;have HOR:=Lib.hid hor;clear hr1 hcell hw hc hv hor hn;go_enter Tryz.func126,Tryz.ntmps126;go_wp2;go_ret;refine Pure.intro ?_;rw [← HOR.out]
    rfl
  | _::_::_::_,h=>simp at h
theorem BitLen_any (x n:Nat) (w:World) (hx:BN w x n) (hn:n < 4294967296^100):Calls Tryz.prog 95 #[.pointer (some ⟨x,0,none⟩)] w (Pure (I (blen n)) w):=by
  obtain ⟨vx,x1,x2⟩:=hx;have M:=Lib.hid (length_any vx n w x2 (Nat.lt_of_lt_of_le hn (Nat.pow_le_pow_right (by decide) (by decide))));obtain ⟨cx0,cx1,-,-⟩:=x1.cells;clear hn x2;go_enter Tryz.func95,Tryz.ntmps95
  go_wp2_with fail
  refine M.out.mono ?_;rintro e w' ⟨rfl,rfl⟩;go_wp2;go_ret;exact Pure.intro rfl
end Go.Proofs.YtfhmcahfjoliiaaGreatDoor
