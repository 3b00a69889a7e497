/- words.Plus, words.Times -/
import Derived.Test.YtfhmcahfjoliiaaGreatDoorPk17
set_option maxRecDepth 20000
set_option maxHeartbeats 8000000
set_option linter.unusedSimpArgs false
set_option linter.unusedVariables false
namespace Go.Proofs.YtfhmcahfjoliiaaGreatDoor
open Go.RowKit

theorem Add32_any (a b:Nat) (w:World) (ha:a < 4294967296) (hb:b < 4294967296):Calls Tryz.prog 132 #[U32 a,U32 b,U32 0] w (Pure (T2 (U32 ((a+b)%4294967296:Nat)) (U32 ((a+b) / 4294967296:Nat))) w):=by
  have e1:(a:Int)+(b:Int)=((a+b:Nat):Int):=rfl;have e2:(((a+b) / 4294967296:Nat):Int)%4294967296=(((a+b) / 4294967296:Nat):Int):=by omega
  have E2:=Lib.hid e2;clear e1 e2;go_enter Tryz.func132,Tryz.ntmps132;go_wp2;go_ret2;refine Pure.intro ?_;show T2 (U32 _) (U32 _)=_
  congr 3

theorem Mul32_any (a b:Nat) (w:World) (ha:a < 4294967296) (hb:b < 4294967296):Calls Tryz.prog 131 #[U32 a,U32 b] w (Pure (T2 (U32 (a*b / 4294967296:Nat)) (U32 (a*b%4294967296:Nat))) w):=by
  have hm:a*b≤4294967295*4294967295:=Nat.mul_le_mul (by omega) (by omega);have e1:(a:Int)*(b:Int)=((a*b:Nat):Int):=rfl;generalize a*b=m at *;have m0:m < 18446744065119617026:=by omega
  have h0:(m:Int) / 4294967296 < 4294967296:=by omega
  clear hm m0;go_enter Tryz.func131,Tryz.ntmps131;go_wp2;go_ret2;exact Pure.intro rfl

/-- word by word, the least first: what is carried ahead of word k, and word k -/
def carryC (F:Nat→Nat→Nat×Nat) (l:List Nat) (x:Nat):Nat→Nat
  | 0=>x
  | k+1=>(F (l.getD k 0) (carryC F l x k)).2
def wordC (F:Nat→Nat→Nat×Nat) (l:List Nat) (x k:Nat):Nat:=(F (l.getD k 0) (carryC F l x k)).1
def mixC (F:Nat→Nat→Nat×Nat) (l:List Nat) (x k i:Nat):Nat:=if i < k then wordC F l x i else l.getD i 0
def plusF (w c:Nat):Nat×Nat:=((w+c)%4294967296,(w+c) / 4294967296)
def timesF (m w c:Nat):Nat×Nat:=((w*m+c)%4294967296,(w*m+c) / 4294967296)
def OkF (F:Nat→Nat→Nat×Nat):Prop:=∀ w c,w < 4294967296→c < 4294967296→(F w c).1 < 4294967296∧(F w c).2 < 4294967296
theorem plusF_ok:OkF plusF:=fun w c hw hc=>by simp only [plusF];omega
theorem timesF_ok {m:Nat} (hm:m < 4294967296):OkF (timesF m):=fun w c hw hc=>by
  simp only [timesF]
  have:=mul_bound hc hw hm (show 0 < 4294967296 by decide)
  rw [Nat.add_zero,Nat.add_comm] at this
  exact ⟨Nat.mod_lt _ (by decide),this.2⟩
theorem carryC_lt {F:Nat→Nat→Nat×Nat} {l:List Nat} {x:Nat} (hF:OkF F) (hl:allW l) (hx:x < 4294967296):∀ k,carryC F l x k < 4294967296
  | 0=>hx
  | k+1=>(hF _ _ (allW_at hl k) (carryC_lt hF hl hx k)).2
theorem wordC_lt {F:Nat→Nat→Nat×Nat} {l:List Nat} {x:Nat} (hF:OkF F) (hl:allW l) (hx:x < 4294967296) (k:Nat):wordC F l x k < 4294967296:=
  (hF _ _ (allW_at hl k) (carryC_lt hF hl hx k)).1

theorem Plus1_any (a c:Nat) (w:World) (ha:a < 4294967296) (hc:c < 4294967296):Calls Tryz.prog 133 #[U32 a,U32 c] w (Pure (T2 (U32 (plusF a c).1) (U32 (plusF a c).2)) w):=by
  have A:=Lib.hid (fun W=>Add32_any a c W ha hc);simp only [plusF];generalize (a+c)%4294967296=s at *;generalize (a+c) / 4294967296=t at *;go_enter Tryz.func133,Tryz.ntmps133
  go_wp2_with fail
  refine (A.out _).mono ?_;rintro e w' ⟨rfl,rfl⟩;go_wp2;go_ret2;exact Pure.intro rfl

theorem Times1_any (a c m g:Nat) (w:World) (ha:a < 4294967296) (hc:c < 4294967296) (hm:m < 4294967296) (hg:w.cell? ⟨g,0,none⟩=some (U32 m)):Calls Tryz.prog 130 #[U32 a,U32 c,.pointer (some ⟨g,0,none⟩)] w (Pure (T2 (U32 (timesF m a c).1) (U32 (timesF m a c).2)) w):=by
  have M:=Lib.hid (fun W=>Mul32_any a m W ha hm);have hlow:a*m%4294967296 < 4294967296:=Nat.mod_lt _ (by decide);have A:=Lib.hid (fun W=>Add32_any (a*m%4294967296) c W hlow hc);have b1:=mul_bound hc ha hm (show 0 < 4294967296 by decide);rw [Nat.add_zero,Nat.add_comm] at b1;have e1:(a*m%4294967296+c)%4294967296=(a*m+c)%4294967296:=by omega
  have e2:a*m / 4294967296+(a*m%4294967296+c) / 4294967296=(a*m+c) / 4294967296:=by omega
  simp only [timesF];rw [e1] at A;have hb:=b1.2;rw [← e2] at hb ⊢;clear b1 e1 e2 hlow;generalize a*m / 4294967296=hi at *;generalize (a*m%4294967296+c) / 4294967296=mo at *;generalize a*m%4294967296=lo at *;generalize (a*m+c)%4294967296=s at *;go_enter Tryz.func130,Tryz.ntmps130
  go_wp2_with fail
  refine (M.out _).mono ?_;rintro e w' ⟨rfl,rfl⟩
  go_wp2_with fail
  refine (A.out _).mono ?_;rintro e w' ⟨rfl,rfl⟩;go_wp2;go_ret2;exact Pure.intro rfl

def UpRel (W:World) (F:Nat→Nat→Nat×Nat) (l:List Nat) (x k:Nat) (wr:World):Prop:=
  Own wr W.heap.size [U32 (mixC F l x k 0),U32 (mixC F l x k 1),U32 (mixC F l x k 2)]∧Own wr (W.heap.size+1) [U32 0,U32 0,U32 0]∧Below W.heap.size W wr
theorem UpRel.set {W:World} {F:Nat→Nat→Nat×Nat} {l:List Nat} {x k:Nat} {wr:World} (hk:k < 3) (h:UpRel W F l x k wr):Hid (UpRel W F l x (k+1) (wr.setCell ⟨W.heap.size,k,none⟩ (U32 (wordC F l x k:Nat)))):=by
  refine ⟨?_,h.2.1.other (a:=⟨W.heap.size,k,none⟩) (by show W.heap.size≠W.heap.size+1;omega) _,h.2.2.setCell (p:=⟨W.heap.size,k,none⟩) (Nat.le_refl _) _⟩;have h1:=h.1.set k (U32 (wordC F l x k:Nat))
  have e:([U32 (mixC F l x k 0),U32 (mixC F l x k 1),U32 (mixC F l x k 2)]:List Value).set k (U32 (wordC F l x k:Nat))=[U32 (mixC F l x (k+1) 0),U32 (mixC F l x (k+1) 1),U32 (mixC F l x (k+1) 2)]:=by
    match k,hk with
    | 0,_=>simp [mixC]
    | 1,_=>simp [mixC]
    | 2,_=>simp [mixC]
  rw [e] at h1;exact h1
theorem UpRel.at {W:World} {F:Nat→Nat→Nat×Nat} {l:List Nat} {x k:Nat} {wr:World} (hk:k < 3) (h:UpRel W F l x k wr):wr.cell? ⟨W.heap.size,k,none⟩=some (U32 (l.getD k 0:Nat))∧wr.frozen? ⟨W.heap.size,k,none⟩=false:=by
  refine ⟨?_,h.1.frozen k⟩;have:=h.1.cell k (by simpa using hk);rw [Nat.zero_add] at this;rw [this]
  match k,hk with
  | 0,_=>simp [mixC]
  | 1,_=>simp [mixC]
  | 2,_=>simp [mixC]
theorem UpRel.start {W:World} {F:Nat→Nat→Nat×Nat} {a b c x:Nat}:UpRel W F [a,b,c] x 0 ((W.alloc (.cells #[U32 a,U32 b,U32 c] 111)).alloc (.cells #[U32 0,U32 0,U32 0] 111)):=
  ⟨(Own.new (w:=W) rfl [U32 a,U32 b,U32 c] 111).alloc _,Own.new (by simp) [U32 0,U32 0,U32 0] 111,(boxed_below W _).alloc (boxed_below W _).size _⟩

theorem upP_any (a b c x:Nat) (w:World) (ha:a < 4294967296) (hb:b < 4294967296) (hc:c < 4294967296) (hx:x < 4294967296):
    Calls Tryz.prog 129 #[wideV a b c,U32 x,.func (.func 133) #[] #[]] w (GrewW (wordC plusF [a,b,c] x 0) (wordC plusF [a,b,c] x 1) (wordC plusF [a,b,c] x 2) (carryC plusF [a,b,c] x 3) w):=by
  have hR:=Lib.hid (UpRel.start (W:=w) (F:=plusF) (a:=a) (b:=b) (c:=c) (x:=x));have hl:allW [a,b,c]:=by intro d hd;simp at hd;omega
  have HC:=Lib.hid (carryC_lt plusF_ok hl hx);have HL:=Lib.hid (allW_at hl);clear hl;go_enter Tryz.func129,Tryz.ntmps129;go_wp2
  go_loopw [1,8,9] (fun cv _ i wr=>∃ k:Nat,k≤3∧i=I k∧cv=U32 (carryC plusF [a,b,c] x k:Nat)∧Hid (UpRel w plusF [a,b,c] x k wr)) (fun _ _ i _=>(3-intOf i).toNat)
  case atStart=>exact ⟨0,by decide,rfl,rfl,hR⟩
  case round=>
    clear hR;obtain ⟨k,hk,rfl,rfl,hR⟩:=hrel
    by_cases hlt:k < 3
    · have hi0:(0:Int)≤(k:Int):=by omega
      have hi1:(k:Int) < 3:=by omega
      obtain ⟨e0,f0⟩:=UpRel.at hlt hR.out;have hbw0:=Lib.hid hR.out.2.2;have hnew:=UpRel.set hlt hR.out;have hc1:=HC.out k;have hw1:=HL.out k;have hcs:=Lib.hid (show carryC plusF [a,b,c] x (k+1)=(plusF ([a,b,c].getD k 0) (carryC plusF [a,b,c] x k)).2 from rfl);have hws:=Lib.hid (show wordC plusF [a,b,c] x k=(plusF ([a,b,c].getD k 0) (carryC plusF [a,b,c] x k)).1 from rfl);generalize carryC plusF [a,b,c] x k=cc at *;generalize [a,b,c].getD k 0=d at *;have C:=Lib.hid (fun W=>Plus1_any d cc W hw1 hc1);generalize (plusF d cc).2=c2 at *;generalize (plusF d cc).1=d2 at *;rw [hws.out] at hnew;clear hR hws;skip
      go_wp2_with fail
      refine (C.out _ ).mono ?_;rintro e w' ⟨rfl,rfl⟩;go_wp2;exact ⟨⟨k+1,by omega,by go_num,by rw [hcs.out],hnew⟩,by simp [intOf];try omega⟩
    · have hk3:k=3:=by omega
      subst hk3;obtain ⟨o1,o2,hbw⟩:=hR.out;have e0:mixC plusF [a,b,c] x 3 0=wordC plusF [a,b,c] x 0:=rfl;have e1:mixC plusF [a,b,c] x 3 1=wordC plusF [a,b,c] x 1:=rfl;have e2:mixC plusF [a,b,c] x 3 2=wordC plusF [a,b,c] x 2:=rfl;rw [e0,e1,e2] at o1;have cO:=o1;have cA:=cO.s3;clear cO;have zO:=o2;have zA:=zO.s3;clear zO;clear o1 o2 hR e0 e1 e2;have r1:=set_same;have r2:=set_off;have r3:=set_blk;go_wp2;refine bodyPost_ret (v:=T2 (wideV (wordC plusF [a,b,c] x 0) (wordC plusF [a,b,c] x 1) (wordC plusF [a,b,c] x 2)) (U32 (carryC plusF [a,b,c] x 3:Nat))) (by simp [results,Tryz.results129,go_sem, *]) rfl ⟨rfl,below_autor⟩
theorem upT_any (a b c x m g:Nat) (w:World) (ha:a < 4294967296) (hb:b < 4294967296) (hc:c < 4294967296) (hx:x < 4294967296) (hm:m < 4294967296) (hg:w.cell? ⟨g,0,none⟩=some (U32 m)) (hgl:g < w.heap.size):
    Calls Tryz.prog 129 #[wideV a b c,U32 x,.func (.func 130) #[] #[.pointer (some ⟨g,0,none⟩)]] w (GrewW (wordC (timesF m) [a,b,c] x 0) (wordC (timesF m) [a,b,c] x 1) (wordC (timesF m) [a,b,c] x 2) (carryC (timesF m) [a,b,c] x 3) w):=by
  have hR:=Lib.hid (UpRel.start (W:=w) (F:=(timesF m)) (a:=a) (b:=b) (c:=c) (x:=x));have hl:allW [a,b,c]:=by intro d hd;simp at hd;omega
  have HC:=Lib.hid (carryC_lt (timesF_ok hm) hl hx);have HL:=Lib.hid (allW_at hl);clear hl;go_enter Tryz.func129,Tryz.ntmps129;go_wp2
  go_loopw [1,8,9] (fun cv _ i wr=>∃ k:Nat,k≤3∧i=I k∧cv=U32 (carryC (timesF m) [a,b,c] x k:Nat)∧Hid (UpRel w (timesF m) [a,b,c] x k wr)) (fun _ _ i _=>(3-intOf i).toNat)
  case atStart=>exact ⟨0,by decide,rfl,rfl,hR⟩
  case round=>
    clear hR;obtain ⟨k,hk,rfl,rfl,hR⟩:=hrel
    by_cases hlt:k < 3
    · have hi0:(0:Int)≤(k:Int):=by omega
      have hi1:(k:Int) < 3:=by omega
      obtain ⟨e0,f0⟩:=UpRel.at hlt hR.out;have hbw0:=Lib.hid hR.out.2.2;have hnew:=UpRel.set hlt hR.out;have hc1:=HC.out k;have hw1:=HL.out k;have hcs:=Lib.hid (show carryC (timesF m) [a,b,c] x (k+1)=((timesF m) ([a,b,c].getD k 0) (carryC (timesF m) [a,b,c] x k)).2 from rfl);have hws:=Lib.hid (show wordC (timesF m) [a,b,c] x k=((timesF m) ([a,b,c].getD k 0) (carryC (timesF m) [a,b,c] x k)).1 from rfl);generalize carryC (timesF m) [a,b,c] x k=cc at *;generalize [a,b,c].getD k 0=d at *;have C:=Lib.hid (fun W hcg=>Times1_any d cc m g W hw1 hc1 hm hcg);generalize ((timesF m) d cc).2=c2 at *;generalize ((timesF m) d cc).1=d2 at *;rw [hws.out] at hnew;clear hR hws;have hcg:=(hbw0.out.cell (p:=⟨g,0,none⟩) hgl).trans hg
      go_wp2_with fail
      refine (C.out _ hcg).mono ?_;rintro e w' ⟨rfl,rfl⟩;go_wp2;exact ⟨⟨k+1,by omega,by go_num,by rw [hcs.out],hnew⟩,by simp [intOf];try omega⟩
    · have hk3:k=3:=by omega
      subst hk3;obtain ⟨o1,o2,hbw⟩:=hR.out;have e0:mixC (timesF m) [a,b,c] x 3 0=wordC (timesF m) [a,b,c] x 0:=rfl;have e1:mixC (timesF m) [a,b,c] x 3 1=wordC (timesF m) [a,b,c] x 1:=rfl;have e2:mixC (timesF m) [a,b,c] x 3 2=wordC (timesF m) [a,b,c] x 2:=rfl;rw [e0,e1,e2] at o1;have cO:=o1;have cA:=cO.s3;clear cO;have zO:=o2;have zA:=zO.s3;clear zO;clear o1 o2 hR e0 e1 e2;have r1:=set_same;have r2:=set_off;have r3:=set_blk;go_wp2;refine bodyPost_ret (v:=T2 (wideV (wordC (timesF m) [a,b,c] x 0) (wordC (timesF m) [a,b,c] x 1) (wordC (timesF m) [a,b,c] x 2)) (U32 (carryC (timesF m) [a,b,c] x 3:Nat))) (by simp [results,Tryz.results129,go_sem, *]) rfl ⟨rfl,below_autor⟩
theorem Plus_any (a b c x:Nat) (w:World) (ha:a < 4294967296) (hb:b < 4294967296) (hc:c < 4294967296) (hx:x < 4294967296):
    Calls Tryz.prog 111 #[wideV a b c,U32 x] w (GrewW (wordC plusF [a,b,c] x 0) (wordC plusF [a,b,c] x 1) (wordC plusF [a,b,c] x 2) (carryC plusF [a,b,c] x 3) w):=by
  have C:=Lib.hid (fun W=>upP_any a b c x W ha hb hc hx);generalize wordC plusF [a,b,c] x 0=w0 at *;generalize wordC plusF [a,b,c] x 1=w1 at *;generalize wordC plusF [a,b,c] x 2=w2 at *;generalize carryC plusF [a,b,c] x 3=w3 at *;go_enter Tryz.func111,Tryz.ntmps111
  go_wp2_with fail
  refine (C.out _).mono ?_;rintro e W1 ⟨rfl,k1⟩;have zO:=(Own.new (w:=w.alloc (.cells #[U32 a,U32 b,U32 c] 111)) (g:=w.heap.size+1) (by simp) [U32 0,U32 0,U32 0] 111).below k1;have zA:=zO.s3;clear zO;have k:=below_box (below_box k1);clear k1;have r1:=set_same;have r2:=set_off;have r3:=set_blk;go_wp2;refine bodyPost_ret (v:=T2 (wideV w0 w1 w2) (U32 w3)) (by simp [results,Tryz.results111,go_sem, *]) rfl ⟨rfl,below_autor⟩
theorem Times_any (a b c m:Nat) (w:World) (ha:a < 4294967296) (hb:b < 4294967296) (hc:c < 4294967296) (hm:m < 4294967296):
    Calls Tryz.prog 110 #[wideV a b c,U32 m] w (GrewW (wordC (timesF m) [a,b,c] 0 0) (wordC (timesF m) [a,b,c] 0 1) (wordC (timesF m) [a,b,c] 0 2) (carryC (timesF m) [a,b,c] 0 3) w):=by
  have C:Hid (∀ (W:World) (g:Nat),W.cell? ⟨g,0,none⟩=some (U32 m)→g < W.heap.size→Calls Tryz.prog 129 #[wideV a b c,U32 0,.func (.func 130) #[] #[.pointer (some ⟨g,0,none⟩)]] W (GrewW (wordC (timesF m) [a,b,c] 0 0) (wordC (timesF m) [a,b,c] 0 1) (wordC (timesF m) [a,b,c] 0 2) (carryC (timesF m) [a,b,c] 0 3) W)):=
    fun W g hg hgl=>upT_any a b c 0 m g W ha hb hc (by decide) hm hg hgl
  have hcm:((w.alloc (.cells #[U32 a,U32 b,U32 c] 111)).alloc (.cells #[U32 m] 109)).cell? ⟨w.heap.size+1,0,none⟩=some (U32 m):=by
    have:=cell_one (w.alloc (.cells #[U32 a,U32 b,U32 c] 111)) (U32 m) 109
    rwa [World.size_alloc] at this
  have hcm2:=((boxed_below ((w.alloc (.cells #[U32 a,U32 b,U32 c] 111)).alloc (.cells #[U32 m] 109)) (.cells #[U32 0,U32 0,U32 0] 111)).cell (p:=⟨w.heap.size+1,0,none⟩) (by simp)).trans hcm;have HC2:=Lib.hid hcm2;generalize wordC (timesF m) [a,b,c] 0 0=w0 at *;generalize wordC (timesF m) [a,b,c] 0 1=w1 at *;generalize wordC (timesF m) [a,b,c] 0 2=w2 at *;generalize carryC (timesF m) [a,b,c] 0 3=w3 at *;clear hcm hcm2;go_enter Tryz.func110,Tryz.ntmps110
  go_wp2_with fail
  refine (C.out _ _ HC2.out (by simp)).mono ?_;rintro e W1 ⟨rfl,k1⟩;have zO:=(Own.new (w:=(w.alloc (.cells #[U32 a,U32 b,U32 c] 111)).alloc (.cells #[U32 m] 109)) (g:=w.heap.size+2) (by simp) [U32 0,U32 0,U32 0] 111).below k1;have zA:=zO.s3;clear zO;have k:=below_box (below_box (below_box k1));clear k1;have r1:=set_same;have r2:=set_off;have r3:=set_blk;go_wp2;refine bodyPost_ret (v:=T2 (wideV w0 w1 w2) (U32 w3)) (by simp [results,Tryz.results110,go_sem, *]) rfl ⟨rfl,below_autor⟩
end Go.Proofs.YtfhmcahfjoliiaaGreatDoor
