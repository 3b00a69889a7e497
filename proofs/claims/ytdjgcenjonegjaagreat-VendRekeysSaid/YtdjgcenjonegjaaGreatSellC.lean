/- the clerk's sell, where something is sold -/
import Derived.Test.YtdjgcenjonegjaaGreatSellB
set_option maxRecDepth 20000
set_option maxHeartbeats 8000000
set_option linter.unusedSimpArgs false
set_option linter.unusedVariables false
namespace Go.Proofs.YtdjgcenjonegjaaGreat
open Go.RowKit

theorem seven (W:World) (g s:Nat) (cs:List Value) (h:Own W g cs) (n:s≠g) (x0 x1 x2 x3 x4 x5 x6:Value):Own (((((((W.setCell ⟨s,0,none⟩ x0).setCell ⟨s,1,none⟩ x1).setCell ⟨s,2,none⟩ x2).setCell ⟨s,3,none⟩ x3).setCell ⟨s,4,none⟩ x4).setCell ⟨s,5,none⟩ x5).setCell ⟨s,6,none⟩ x6) g cs:=
  ((((((h.other (a:=⟨s,0,none⟩) n _).other (a:=⟨s,1,none⟩) n _).other (a:=⟨s,2,none⟩) n _).other (a:=⟨s,3,none⟩) n _).other (a:=⟨s,4,none⟩) n _).other (a:=⟨s,5,none⟩) n _).other (a:=⟨s,6,none⟩) n _
theorem sevenS {W:World} {v:Value} {sz n:Nat} {cs:List Value} (s:Nat) (h:Sl W v sz n cs) (hf:Far s v) (x0 x1 x2 x3 x4 x5 x6:Value):Sl (((((((W.setCell ⟨s,0,none⟩ x0).setCell ⟨s,1,none⟩ x1).setCell ⟨s,2,none⟩ x2).setCell ⟨s,3,none⟩ x3).setCell ⟨s,4,none⟩ x4).setCell ⟨s,5,none⟩ x5).setCell ⟨s,6,none⟩ x6) v sz n cs:=
  ((((((h.set hf x0).set hf x1).set hf x2).set hf x3).set hf x4).set hf x5).set hf x6
theorem sevenC {w W:World} {g:Nat} (s:Nat) (h:Chg g w W) (hs:w.heap.size≤s) (x0 x1 x2 x3 x4 x5 x6:Value):Chg g w (((((((W.setCell ⟨s,0,none⟩ x0).setCell ⟨s,1,none⟩ x1).setCell ⟨s,2,none⟩ x2).setCell ⟨s,3,none⟩ x3).setCell ⟨s,4,none⟩ x4).setCell ⟨s,5,none⟩ x5).setCell ⟨s,6,none⟩ x6):=
  ((((((h.setNew s 0 hs x0).setNew s 1 hs x1).setNew s 2 hs x2).setNew s 3 hs x3).setNew s 4 hs x4).setNew s 5 hs x5).setNew s 6 hs x6
theorem sell_end (g:Nat) (y1 y2 y3 y4 y5 y6 f b d al t p fee Pc ch U:Int) (v tv:Value) (ys:List ADebt) (w W5:World) (hO:Own W5 g [I y1,I y2,I y3,I y4,I (y5+U),I y6,v,tv,I f,I b,I d,I al]) (hS:Sl W5 v 2 ys.length (ys.flatMap ADebt.cells))
    (hg:Far g v) (h0:Far w.heap.size v) (hB:FarB w.heap.size v) (c:Chg g w W5) (nz:w.heap.size≠g) (x0 x1 x2 x3 x4 x5 x6:Value):
    GrewSell g ⟨y1,y2,y3+1,y4,y5+U,y6⟩ ys ⟨y3,t,p,fee,Pc,ch,U⟩ tv f b d al w (.returned (T2 (.agg #[I y3,I t,I p,I fee,I Pc,I ch,I U]) (I 0)))
      ((((((((W5.setCell ⟨g,2,none⟩ (I (y3+1))).setCell ⟨w.heap.size,0,none⟩ x0).setCell ⟨w.heap.size,1,none⟩ x1).setCell ⟨w.heap.size,2,none⟩ x2).setCell ⟨w.heap.size,3,none⟩ x3).setCell ⟨w.heap.size,4,none⟩ x4).setCell ⟨w.heap.size,5,none⟩ x5).setCell ⟨w.heap.size,6,none⟩ x6):=by
  have o1:=hO.set 2 (I (y3+1));have s1:=hS.set (j:=2) hg (I (y3+1));have c1:=c.set 2 (I (y3+1));exact ⟨v,rfl,seven _ g w.heap.size _ o1 nz _ _ _ _ _ _ _,sevenS w.heap.size s1 h0 _ _ _ _ _ _ _,hg,hB,sevenC w.heap.size c1 (Nat.le_refl _) _ _ _ _ _ _ _⟩
theorem sell_ok (g:Nat) (y1 y2 y3 y4 y5 y6:Int) (v tv:Value) (xs ys:List ADebt) (ts:List AStep) (f b d al t p k0 q qe U Pc me:Int) (w:World) (hO:Own w g [I y1,I y2,I y3,I y4,I y5,I y6,v,tv,I f,I b,I d,I al])
    (hS:Sl w v 2 xs.length (xs.flatMap ADebt.cells)) (tS:Sl w tv 2 ts.length (ts.flatMap AStep.cells)) (hFt:Far g tv) (hFtb:Far (w.heap.size+1) tv) (hi:inB t 1 100000000=true)
    (R:Hid (∀ W,Sl W v 2 xs.length (xs.flatMap ADebt.cells)→Calls Tryz.prog 118 #[v,I t,I d] W (GrewSl3 2 ys.length (ys.flatMap ADebt.cells) p k0 W)))
    (C:Hid (∀ W,Calls Tryz.prog 119 #[I t,I b] W (Pure (T2 (I q) (I qe)) W)))
    (M:Hid (∀ W,Sl W tv 2 ts.length (ts.flatMap AStep.cells)→Calls Tryz.prog 120 #[tv,I y5,I (t-p-(f+q))] W (Grew (T3 (I U) (I Pc) (I me)) W)))
    (p0:0≤p) (p1:p≤1000000000000) (q0:0≤q) (q1:q≤1000000000000) (f0:0≤f) (f1:f≤100000) (hr:0≤t-p-(f+q)) (hU:¬ U=0) (hn:¬ 1048575 < y3) (n0:1≤y3) (b0:0≤y5) (b1:y5≤10000000) (u0:0≤U) (u1:U≤2097151) (c0:0≤Pc) (c1:Pc≤1000000000000):
    Calls Tryz.prog 70 #[.pointer (some ⟨g,0,none⟩),I t] w (GrewSell g ⟨y1,y2,y3+1,y4,y5+U,y6⟩ ys ⟨y3,t,p,f+q,Pc,t-p-(f+q)-Pc,U⟩ tv f b d al w):=by
  obtain ⟨t0,t1⟩:=inB_true.1 hi;have x1:IntKind.i64.wrap (f+q)=f+q:=wrap_small _ (by omega) (by omega);have x2:IntKind.i64.wrap (t-p)=t-p:=wrap_mid _ (by omega) (by omega);have x3:IntKind.i64.wrap (t-p-(f+q))=t-p-(f+q):=wrap_mid _ (by omega) (by omega);have x4:IntKind.i64.wrap (t-p-(f+q)-Pc)=t-p-(f+q)-Pc:=wrap_mid _ (by omega) (by omega);have x5:IntKind.i64.wrap (y5+U)=y5+U:=wrap_small _ (by omega) (by omega);have x6:IntKind.i64.wrap (y3+1)=y3+1:=wrap_small _ (by omega) (by omega);have hgl:=hO.lt;have r1:=set_same;have r2:=set_off;have r3:=set_blk;obtain ⟨k0,oz,ob⟩:=boxes2 w [I 0,I 0,I 0,I 0,I 0,I 0,I 0] 39 [I y3,I t,I 0,I 0,I 0,I 0,I 0] 39;have o1:=hO.below k0;have hS1:=hS.below k0;have tS1:=tS.below k0;have e2:=hO.cell 2 (by simp);have d2:=(hO.alloc (.cells #[I 0,I 0,I 0,I 0,I 0,I 0,I 0] 39)).cell 2 (by simp);simp only [Nat.zero_add,List.getD_cons_zero,List.getD_cons_succ] at e2 d2;have c6:((w.alloc (.cells #[I 0,I 0,I 0,I 0,I 0,I 0,I 0] 39)).alloc (.cells #[I y3,I t,I 0,I 0,I 0,I 0,I 0] 39)).cell? ⟨g,6,none⟩=some v:=o1.cell 6 (by simp);have c10:((w.alloc (.cells #[I 0,I 0,I 0,I 0,I 0,I 0,I 0] 39)).alloc (.cells #[I y3,I t,I 0,I 0,I 0,I 0,I 0] 39)).cell? ⟨g,10,none⟩=some (I d):=o1.cell 10 (by simp);have hsz:((w.alloc (.cells #[I 0,I 0,I 0,I 0,I 0,I 0,I 0] 39)).alloc (.cells #[I y3,I t,I 0,I 0,I 0,I 0,I 0] 39)).heap.size=w.heap.size+2:=by simp
  obtain ⟨va,vcap,rfl,-⟩:=id hS;obtain ⟨ta,tcap,rfl,-⟩:=id tS;go_enter Tryz.func70,Tryz.ntmps70
  go_wp2_with (go_at_call 110;refine (awithin_any _ _ _ _).mono ?_;rintro e w' ⟨rfl,rfl⟩)
  generalize ((w.alloc (.cells #[I 0,I 0,I 0,I 0,I 0,I 0,I 0] 39)).alloc (.cells #[I y3,I t,I 0,I 0,I 0,I 0,I 0] 39))=W1 at *;refine AnyC.begin 12 (fun w'=>w'.cell? ⟨g,6,none⟩=some (.slice va xs.length vcap)∧w'.cell? ⟨g,10,none⟩=some (I d)) (by kernel_rfl) ?_;have HH:(fun w'=>w'.cell? ⟨g,6,none⟩=some (.slice va xs.length vcap)∧w'.cell? ⟨g,10,none⟩=some (I d)) W1.drew:=⟨c6,c10⟩;refine AnyC.pure (i:=0) (v:=?_) rfl (by decide) (by kernel_rfl) (by kernel_rfl) (by kernel_rfl) (fun _ _ _ h=>h) (Or.inl ⟨by rfl,?_⟩) (fun _=>HH) ?_;rotate_left
  · (intro w;first | (go_simp;done) | (go_simp;with_reducible rfl))
  (try simp only [Act.put,List.setIfInBounds_toArray]);refine AnyC.tk 1 ?_ HH ?_ ?_;rotate_left
  · (intro w hSw;(try dsimp only at hSw);first | (go_simp;done) | (go_simp;with_reducible rfl))
  (try simp only [Act.put]);refine AnyC.tk 2 ?_ HH ?_ ?_;rotate_left
  · (intro w hSw;(try dsimp only at hSw);first | (go_simp;done) | (go_simp;with_reducible rfl))
  (try simp only [Act.put]);refine AnyC.tk 3 ?_ HH ?_ ?_;rotate_left
  · (intro w hSw;(try dsimp only at hSw);first | (go_simp;done) | (go_simp;with_reducible rfl))
  (try simp only [Act.put]);refine AnyC.tk 4 ?_ HH ?_ ?_;rotate_left
  · (intro w hSw;(try dsimp only at hSw);first | (go_simp;done) | (go_simp;with_reducible rfl))
  (try simp only [Act.put]);refine AnyC.tk 5 ?_ HH ?_ ?_;rotate_left
  · (intro w hSw;(try dsimp only at hSw);first | (go_simp;done) | (go_simp;with_reducible rfl))
  (try simp only [Act.put]);refine AnyC.tk 6 ?_ HH ?_ ?_;rotate_left
  · (intro w hSw;(try dsimp only at hSw);first | (go_simp;done) | (go_simp;with_reducible rfl))
  (try simp only [Act.put]);refine AnyC.tk 7 ?_ HH ?_ ?_;rotate_left
  · (intro w hSw;(try dsimp only at hSw);first | (go_simp;done) | (go_simp;with_reducible rfl))
  (try simp only [Act.put]);refine AnyC.tk 8 ?_ HH ?_ ?_;rotate_left
  · (intro w hSw;(try dsimp only at hSw);first | (go_simp;done) | (go_simp;with_reducible rfl))
  (try simp only [Act.put]);refine AnyC.tk 9 ?_ HH ?_ ?_;rotate_left
  · (intro w hSw;(try dsimp only at hSw);first | (go_simp;done) | (go_simp;with_reducible rfl))
  (try simp only [Act.put]);refine AnyC.tk 10 ?_ HH ?_ ?_;rotate_left
  · (intro w hSw;(try dsimp only at hSw);first | (go_simp;done) | (go_simp;with_reducible rfl))
  (try simp only [Act.put]);refine AnyC.tk 11 ?_ HH ?_ ?_;rotate_left
  · (intro w hSw;(try dsimp only at hSw);first | (go_simp;done) | (go_simp;with_reducible rfl))
  (try simp only [Act.put]);refine AnyC.one (i:=12) (by kernel_rfl) (by rfl) (fun K hK=>?_);go_simp;(with_reducible refine (R.out _ ?_).mono ?_)
  · exact hS1
  rintro e w1 ⟨v',rfl,h1,k1,hF1⟩;have k1':Below W1.heap.size W1 w1:=⟨k1.os,k1.tape,k1.output,k1.size,k1.block⟩;have hF1':FarB W1.heap.size v':=hF1;have og:=o1.below k1';have hf6:=og.frozen 6;have g6:w1.cell? ⟨g,6,none⟩=some (.slice va xs.length vcap):=og.cell 6 (by simp);have ob1:=ob.below k1';have b2:w1.cell? ⟨w.heap.size+1,2,none⟩=some (I 0):=ob1.cell 2 (by simp);have bf2:=ob1.frozen 2;obtain ⟨va',vcap',rfl,-⟩:=id h1
  go_wp2_with fail
  refine hK.out _ _ (fun h=>absurd rfl h) ?_;clear hK K;(try simp only [Act.put]);refine AnyC.pu 13 ?_ ?_ ?_;rotate_left
  · (intro w;first | (go_simp;done) | (go_simp;with_reducible rfl))
  (try simp only [Act.put]);refine AnyC.pu 14 ?_ ?_ ?_;rotate_left
  · (intro w;first | (go_simp;done) | (go_simp;with_reducible rfl))
  (try simp only [Act.put]);refine AnyC.pu 15 ?_ ?_ ?_;rotate_left
  · (intro w;first | (go_simp;done) | (go_simp;with_reducible rfl))
  (try simp only [Act.put]);refine AnyC.pu 16 ?_ ?_ ?_;rotate_left
  · (intro w;first | (go_simp;done) | (go_simp;with_reducible rfl))
  (try simp only [Act.put]);refine AnyC.pu 17 ?_ ?_ ?_;rotate_left
  · (intro w;first | (go_simp;done) | (go_simp;with_reducible rfl))
  (try simp only [Act.put]);refine AnyC.pu 18 ?_ ?_ ?_;rotate_left
  · (intro w;first | (go_simp;done) | (go_simp;with_reducible rfl))
  (try simp only [Act.put]);refine AnyC.pu 19 ?_ ?_ ?_;rotate_left
  · (intro w;first | (go_simp;done) | (go_simp;with_reducible rfl))
  (try simp only [Act.put]);refine AnyC.one (i:=20) (by kernel_rfl) (by rfl) (fun K hK=>?_);go_simp;refine hK.out _ _ (fun _ h=>absurd h (by decide)) ?_;clear hK K;(try simp only [Act.put]);refine AnyC.pu 21 ?_ ?_ ?_;rotate_left
  · (intro w;first | (go_simp;done) | (go_simp;with_reducible rfl))
  (try simp only [Act.put]);refine AnyC.one (i:=22) (by kernel_rfl) (by rfl) (fun K hK=>?_);go_simp;refine hK.out _ _ (fun _ h=>absurd h (by decide)) ?_;clear hK K;(try simp only [Act.put]);refine AnyC.done (by kernel_rfl) ?_ _;have hne:g≠w.heap.size+1:=by omega
  have hfz:Far g (.slice va' ys.length vcap'):=hF1'.far (by omega);have hfb:Far (w.heap.size+1) (.slice va' ys.length vcap'):=hF1'.far (by omega);have hf0:Far w.heap.size (.slice va' ys.length vcap'):=hF1'.far (by omega);have hFB:FarB w.heap.size (.slice va' ys.length vcap'):=fun a n c e=>by have:=hF1' a n c e;omega
  have oG:=(og.set 6 (.slice va' ys.length vcap')).other (a:=⟨w.heap.size+1,2,none⟩) (Ne.symm hne) (I p);have oB:=(ob1.other (a:=⟨g,6,none⟩) hne (.slice va' ys.length vcap')).set 2 (I p);have oZ:=((oz.below k1').other (a:=⟨g,6,none⟩) (by show g≠w.heap.size;omega) (.slice va' ys.length vcap')).other (a:=⟨w.heap.size+1,2,none⟩) (by show w.heap.size+1≠w.heap.size;omega) (I p);have cG:=((((Chg.of_below k0:Chg g w W1)).trans (Chg.of_below k1')).set 6 (.slice va' ys.length vcap')).setNew (w.heap.size+1) 2 (by omega) (I p);have hY:=(h1.set (j:=6) hfz (.slice va' ys.length vcap')).set (j:=2) hfb (I p);have tS2:=((tS1.below k1').set (j:=6) hFt (.slice va' ys.length vcap')).chg (z:=w.heap.size+1) (fun _=>hFtb) ((Chg.refl _ _).set 2 (I p));have hz2:w.heap.size+2≤((w1.setCell ⟨g,6,none⟩ (.slice va' ys.length vcap')).setCell ⟨w.heap.size+1,2,none⟩ (I p)).heap.size:=by have:=k1'.size;simp [World.setCell];omega
  (try simp only [List.set_cons_zero,List.set_cons_succ] at oG oB);clear HH og g6 hf6 ob1 b2 bf2 c6 c10 d2 e2 k1 k1' hF1 o1 oz ob hS1 tS1 h1 k0 hO hS tS;generalize ((w1.setCell ⟨g,6,none⟩ (.slice va' ys.length vcap')).setCell ⟨w.heap.size+1,2,none⟩ (I p))=W2 at *;have gcO:=oG;have gcfA:=gcO.f;have gc0:=gcO.c0;have gc1:=gcO.c1;have gc2:=gcO.c2;have gc3:=gcO.c3;have gc4:=gcO.c4;have gc5:=gcO.c5;have gc6:=gcO.c6;have gc7:=gcO.c7;have gc8:=gcO.c8;have gc9:=gcO.c9;have gc10:=gcO.c10;have gc11:=gcO.c11;clear gcO;have bcO:=oB;have bcA:=bcO.s7;clear bcO;clear R gc0 gc1 gc2 gc3 gc4 gc5 gc6 gc10 gc11 gcfA;have hge:0≤t-p-(f+q):=hr
  go_wp2_with (go_at_call 119;refine (C.out _).mono ?_;rintro e w' ⟨rfl,rfl⟩)
  have oG3:=oG.other (a:=⟨w.heap.size+1,3,none⟩) (Ne.symm hne) (I (f+q));have oB3:=oB.set 3 (I (f+q));have oZ3:=oZ.other (a:=⟨w.heap.size+1,3,none⟩) (by show w.heap.size+1≠w.heap.size;omega) (I (f+q));have cG3:=cG.setNew (w.heap.size+1) 3 (by omega) (I (f+q));have hY3:=hY.set (j:=3) hfb (I (f+q));have tS3:=tS2.chg (z:=w.heap.size+1) (fun _=>hFtb) ((Chg.refl _ _).set 3 (I (f+q)));have hz3:w.heap.size+2≤(W2.setCell ⟨w.heap.size+1,3,none⟩ (I (f+q))).heap.size:=by simp [World.setCell];omega
  (try simp only [List.set_cons_zero,List.set_cons_succ] at oB3);clear gc7 gc8 gc9 bcA oG oB oZ cG hY tS2 hz2;generalize (W2.setCell ⟨w.heap.size+1,3,none⟩ (I (f+q)))=W3 at *;have g7:W3.cell? ⟨g,7,none⟩=some (.slice ta ts.length tcap):=oG3.cell 7 (by simp);have g4:W3.cell? ⟨g,4,none⟩=some (I y5):=oG3.cell 4 (by simp);refine AnyC.begin 11 (fun w'=>w'.cell? ⟨g,7,none⟩=some (.slice ta ts.length tcap)∧w'.cell? ⟨g,4,none⟩=some (I y5)) (by kernel_rfl) ?_;have HH:(fun w'=>w'.cell? ⟨g,7,none⟩=some (.slice ta ts.length tcap)∧w'.cell? ⟨g,4,none⟩=some (I y5)) W3.drew:=⟨g7,g4⟩;refine AnyC.tk 0 ?_ HH ?_ ?_;rotate_left
  · (intro w hSw;(try dsimp only at hSw);first | (go_simp;done) | (go_simp;with_reducible rfl))
  (try simp only [Act.put,List.setIfInBounds_toArray]);refine AnyC.tk 1 ?_ HH ?_ ?_;rotate_left
  · (intro w hSw;(try dsimp only at hSw);first | (go_simp;done) | (go_simp;with_reducible rfl))
  (try simp only [Act.put]);refine AnyC.tk 2 ?_ HH ?_ ?_;rotate_left
  · (intro w hSw;(try dsimp only at hSw);first | (go_simp;done) | (go_simp;with_reducible rfl))
  (try simp only [Act.put]);refine AnyC.tk 3 ?_ HH ?_ ?_;rotate_left
  · (intro w hSw;(try dsimp only at hSw);first | (go_simp;done) | (go_simp;with_reducible rfl))
  (try simp only [Act.put]);refine AnyC.tk 4 ?_ HH ?_ ?_;rotate_left
  · (intro w hSw;(try dsimp only at hSw);first | (go_simp;done) | (go_simp;with_reducible rfl))
  (try simp only [Act.put]);refine AnyC.tk 5 ?_ HH ?_ ?_;rotate_left
  · (intro w hSw;(try dsimp only at hSw);first | (go_simp;done) | (go_simp;with_reducible rfl))
  (try simp only [Act.put]);refine AnyC.tk 6 ?_ HH ?_ ?_;rotate_left
  · (intro w hSw;(try dsimp only at hSw);first | (go_simp;done) | (go_simp;with_reducible rfl))
  (try simp only [Act.put]);refine AnyC.tk 7 ?_ HH ?_ ?_;rotate_left
  · (intro w hSw;(try dsimp only at hSw);first | (go_simp;done) | (go_simp;with_reducible rfl))
  (try simp only [Act.put]);refine AnyC.tk 8 ?_ HH ?_ ?_;rotate_left
  · (intro w hSw;(try dsimp only at hSw);first | (go_simp;done) | (go_simp;with_reducible rfl))
  (try simp only [Act.put]);refine AnyC.tk 9 ?_ HH ?_ ?_;rotate_left
  · (intro w hSw;(try dsimp only at hSw);first | (go_simp;done) | (go_simp;with_reducible rfl))
  (try simp only [Act.put]);refine AnyC.tk 10 ?_ HH ?_ ?_;rotate_left
  · (intro w hSw;(try dsimp only at hSw);first | (go_simp;done) | (go_simp;with_reducible rfl))
  (try simp only [Act.put]);refine AnyC.one (i:=11) (by kernel_rfl) (by rfl) (fun K hK=>?_);go_simp;(with_reducible refine (M.out _ ?_).mono ?_)
  · exact tS3
  rintro e w3 ⟨rfl,k3⟩;have k3':Below W3.heap.size W3 w3:=⟨k3.os,k3.tape,k3.output,k3.size,k3.block⟩;have og:=oG3.below k3';have ob:=oB3.below k3';have b6:w3.cell? ⟨w.heap.size+1,6,none⟩=some (I 0):=ob.cell 6 (by simp);have b4:w3.cell? ⟨w.heap.size+1,4,none⟩=some (I 0):=ob.cell 4 (by simp);have bf6:=ob.frozen 6;have bf4:=ob.frozen 4
  go_wp2_with fail
  refine hK.out _ _ (fun h=>absurd rfl h) ?_;clear hK K;(try simp only [Act.put]);refine AnyC.pu 12 ?_ ?_ ?_;rotate_left
  · (intro w;first | (go_simp;done) | (go_simp;with_reducible rfl))
  (try simp only [Act.put]);refine AnyC.pu 13 ?_ ?_ ?_;rotate_left
  · (intro w;first | (go_simp;done) | (go_simp;with_reducible rfl))
  (try simp only [Act.put]);refine AnyC.pu 14 ?_ ?_ ?_;rotate_left
  · (intro w;first | (go_simp;done) | (go_simp;with_reducible rfl))
  (try simp only [Act.put]);refine AnyC.pu 15 ?_ ?_ ?_;rotate_left
  · (intro w;first | (go_simp;done) | (go_simp;with_reducible rfl))
  (try simp only [Act.put]);refine AnyC.pu 16 ?_ ?_ ?_;rotate_left
  · (intro w;first | (go_simp;done) | (go_simp;with_reducible rfl))
  (try simp only [Act.put]);refine AnyC.one (i:=17) (by kernel_rfl) (by rfl) (fun K hK=>?_);go_simp;refine hK.out _ _ (fun _ h=>absurd h (by decide)) ?_;clear hK K;(try simp only [Act.put]);refine AnyC.pu 18 ?_ ?_ ?_;rotate_left
  · (intro w;first | (go_simp;done) | (go_simp;with_reducible rfl))
  (try simp only [Act.put]);refine AnyC.one (i:=19) (by kernel_rfl) (by rfl) (fun K hK=>?_);go_simp;refine hK.out _ _ (fun _ h=>absurd h (by decide)) ?_;clear hK K;(try simp only [Act.put]);refine AnyC.done (by kernel_rfl) ?_ _;have oG4:=(og.other (a:=⟨w.heap.size+1,6,none⟩) (Ne.symm hne) (I (U))).other (a:=⟨w.heap.size+1,4,none⟩) (Ne.symm hne) (I Pc);have oB4:=(ob.set 6 (I (U))).set 4 (I Pc);have oZ4:=((oZ3.below k3').other (a:=⟨w.heap.size+1,6,none⟩) (by show w.heap.size+1≠w.heap.size;omega) (I (U))).other (a:=⟨w.heap.size+1,4,none⟩) (by show w.heap.size+1≠w.heap.size;omega) (I Pc);have cG4:=((cG3.trans (Chg.of_below k3')).setNew (w.heap.size+1) 6 (by omega) (I (U))).setNew (w.heap.size+1) 4 (by omega) (I Pc);have hY4:=((hY3.below k3').set (j:=6) hfb (I (U))).set (j:=4) hfb (I Pc);have hz4:w.heap.size+2≤((w3.setCell ⟨w.heap.size+1,6,none⟩ (I (U))).setCell ⟨w.heap.size+1,4,none⟩ (I Pc)).heap.size:=by have:=k3'.size;simp [World.setCell];omega
  (try simp only [List.set_cons_zero,List.set_cons_succ] at oB4);clear HH og ob b6 b4 bf6 bf4 g7 g4 k3 k3' oG3 oB3 oZ3 cG3 hY3 tS3 hz3;generalize ((w3.setCell ⟨w.heap.size+1,6,none⟩ (I (U))).setCell ⟨w.heap.size+1,4,none⟩ (I Pc))=W4 at *;have bcO:=oB4;have bcA:=bcO.s7;clear bcO;have nzg:w.heap.size≠g:=by omega
  have nbg:w.heap.size+1≠g:=by omega
  have gcO:=oG4;have gcfA:=gcO.f;have gc0:=gcO.c0;have gc1:=gcO.c1;have gc2:=gcO.c2;have gc3:=gcO.c3;have gc4:=gcO.c4;have gc5:=gcO.c5;have gc6:=gcO.c6;have gc7:=gcO.c7;have gc8:=gcO.c8;have gc9:=gcO.c9;have gc10:=gcO.c10;have gc11:=gcO.c11;clear gcO;clear gc0 gc1 gc2 gc3 gc5 gc6 gc7 gc8 gc9 gc10 gc11;have e2:W4.cell? ⟨g,2,none⟩=some (I y3):=oG4.cell 2 (by simp);have HG:=Lib.hid (((oG4.other (a:=⟨w.heap.size+1,5,none⟩) nbg (I (t-p-(f+q)-Pc))).set 4 (I (y5+U))).drw);have HB:=Lib.hid (((oB4.set 5 (I (t-p-(f+q)-Pc))).other (a:=⟨g,4,none⟩) (Ne.symm nbg) (I (y5+U))).drw);have HZ:=Lib.hid (((oZ4.other (a:=⟨w.heap.size+1,5,none⟩) (by show w.heap.size+1≠w.heap.size;omega) (I (t-p-(f+q)-Pc))).other (a:=⟨g,4,none⟩) (Ne.symm nzg) (I (y5+U))).drw);have HC:=Lib.hid (((cG4.setNew (w.heap.size+1) 5 (by omega) (I (t-p-(f+q)-Pc))).set 4 (I (y5+U))).drw);have HY:=Lib.hid (((hY4.set (j:=5) hfb (I (t-p-(f+q)-Pc))).set (j:=4) hfz (I (y5+U))).drew);clear oG4 oB4 oZ4 hY4 cG4 M hz4;go_wp2;go_region;clear gc4 e2 bcA;have oG5:=HG.out;have oB5:=HB.out;have oZ5:=HZ.out;have cG5:=HC.out;have hY5:=HY.out;(try simp only [List.set_cons_zero,List.set_cons_succ] at oG5 oB5 oZ5);clear HG HB HZ HC HY;generalize (((W4.setCell ⟨w.heap.size+1,5,none⟩ (I (t-p-(f+q)-Pc))).setCell ⟨g,4,none⟩ (I (y5+U))).drew)=W5 at *;have HR:=Lib.hid (sell_end g y1 y2 y3 y4 y5 y6 f b d al t p (f+q) Pc (t-p-(f+q)-Pc) U _ _ ys w W5 oG5 hY5 hfz hf0 hFB cG5 nzg);have e2:W5.cell? ⟨g,2,none⟩=some (I y3):=oG5.cell 2 (by simp);have ef2:=oG5.frozen 2;have bcO:=oB5;have bcA:=bcO.s7;clear bcO;have zcO:=oZ5;have zcA:=zcO.s7;clear zcO;clear oG5 oB5 oZ5 hY5 cG5 C hfz hfb hf0 hFB
  trace_state
  go_wp2;exact bodyPost_ret (v:=T2 (.agg #[I y3,I t,I p,I (f+q),I Pc,I (t-p-(f+q)-Pc),I U]) (I 0)) (by simp [results,Tryz.results70,go_sem, *];try omega) rfl (HR.out _ _ _ _ _ _ _)
end Go.Proofs.YtdjgcenjonegjaaGreat
