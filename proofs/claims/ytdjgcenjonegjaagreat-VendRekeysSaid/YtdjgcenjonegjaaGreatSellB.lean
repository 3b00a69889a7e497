/- the clerk's sell, where something is left -/
import Derived.Test.YtdjgcenjonegjaaGreatPk13
set_option maxRecDepth 20000
set_option maxHeartbeats 8000000
set_option linter.unusedSimpArgs false
set_option linter.unusedVariables false
namespace Go.Proofs.YtdjgcenjonegjaaGreat
open Go.RowKit

theorem Own.drw {w:World} {g:Nat} {cs:List Value} (h:Own w g cs):Own w.drew g cs:=h

theorem sell_zero (g:Nat) (y1 y2 y3 y4 y5 y6:Int) (v tv:Value) (xs ys:List ADebt) (ts:List AStep) (f b d al t p k0 q qe Pc me:Int) (w:World) (hO:Own w g [I y1,I y2,I y3,I y4,I y5,I y6,v,tv,I f,I b,I d,I al])
    (hS:Sl w v 2 xs.length (xs.flatMap ADebt.cells)) (tS:Sl w tv 2 ts.length (ts.flatMap AStep.cells)) (hFt:Far g tv) (hFtb:Far (w.heap.size+1) tv) (hi:inB t 1 100000000=true)
    (R:Hid (∀ W,Sl W v 2 xs.length (xs.flatMap ADebt.cells)→Calls Tryz.prog 118 #[v,I t,I d] W (GrewSl3 2 ys.length (ys.flatMap ADebt.cells) p k0 W)))
    (C:Hid (∀ W,Calls Tryz.prog 119 #[I t,I b] W (Pure (T2 (I q) (I qe)) W)))
    (M:Hid (∀ W,Sl W tv 2 ts.length (ts.flatMap AStep.cells)→Calls Tryz.prog 120 #[tv,I y5,I (t-p-(f+q))] W (Grew (T3 (I 0) (I Pc) (I me)) W)))
    (p0:0≤p) (p1:p≤1000000000000) (q0:0≤q) (q1:q≤1000000000000) (f0:0≤f) (f1:f≤100000) (hr:0≤t-p-(f+q)):
    Calls Tryz.prog 70 #[.pointer (some ⟨g,0,none⟩),I t] w (GrewSellE g 19 w):=by
  obtain ⟨t0,t1⟩:=inB_true.1 hi;have x1:IntKind.i64.wrap (f+q)=f+q:=wrap_small _ (by omega) (by omega);have x2:IntKind.i64.wrap (t-p)=t-p:=wrap_mid _ (by omega) (by omega);have x3:IntKind.i64.wrap (t-p-(f+q))=t-p-(f+q):=wrap_mid _ (by omega) (by omega);have hgl:=hO.lt;have r1:=set_same;have r2:=set_off;have r3:=set_blk;obtain ⟨k0,oz,ob⟩:=boxes2 w [I 0,I 0,I 0,I 0,I 0,I 0,I 0] 39 [I y3,I t,I 0,I 0,I 0,I 0,I 0] 39;have o1:=hO.below k0;have hS1:=hS.below k0;have tS1:=tS.below k0;have e2:=hO.cell 2 (by simp);have d2:=(hO.alloc (.cells #[I 0,I 0,I 0,I 0,I 0,I 0,I 0] 39)).cell 2 (by simp);simp only [Nat.zero_add,List.getD_cons_zero,List.getD_cons_succ] at e2 d2;have c6:((w.alloc (.cells #[I 0,I 0,I 0,I 0,I 0,I 0,I 0] 39)).alloc (.cells #[I y3,I t,I 0,I 0,I 0,I 0,I 0] 39)).cell? ⟨g,6,none⟩=some v:=o1.cell 6 (by simp);have c10:((w.alloc (.cells #[I 0,I 0,I 0,I 0,I 0,I 0,I 0] 39)).alloc (.cells #[I y3,I t,I 0,I 0,I 0,I 0,I 0] 39)).cell? ⟨g,10,none⟩=some (I d):=o1.cell 10 (by simp);have hsz:((w.alloc (.cells #[I 0,I 0,I 0,I 0,I 0,I 0,I 0] 39)).alloc (.cells #[I y3,I t,I 0,I 0,I 0,I 0,I 0] 39)).heap.size=w.heap.size+2:=by simp
  obtain ⟨va,vcap,rfl,-⟩:=id hS;obtain ⟨ta,tcap,rfl,-⟩:=id tS;go_enter Tryz.func70,Tryz.ntmps70
  go_wp2_with (go_at_call 110;refine (awithin_any _ _ _ _).mono ?_;rintro e w' ⟨rfl,rfl⟩)
  generalize ((w.alloc (.cells #[I 0,I 0,I 0,I 0,I 0,I 0,I 0] 39)).alloc (.cells #[I y3,I t,I 0,I 0,I 0,I 0,I 0] 39))=W1 at *;refine AnyC.begin 12 (fun w'=>w'.cell? ⟨g,6,none⟩=some (.slice va xs.length vcap)∧w'.cell? ⟨g,10,none⟩=some (I d)) (by kernel_rfl) ?_;have HH:(fun w'=>w'.cell? ⟨g,6,none⟩=some (.slice va xs.length vcap)∧w'.cell? ⟨g,10,none⟩=some (I d)) W1.drew:=⟨c6,c10⟩;refine AnyC.pure (i:=0) (v:=?_) rfl (by decide) (by kernel_rfl) (by kernel_rfl) (by kernel_rfl) (fun _ _ _ h=>h) (Or.inl ⟨by rfl,?_⟩) (fun _=>HH) ?_;rotate_left
  · (intro w;first | (go_simp;done) | (go_simp;with_reducible rfl))
  (try simp only [Act.put,List.setIfInBounds_toArray]);refine AnyC.tk 1 ?_ HH ?_ ?_;rotate_left
  · (intro w hSw;(try dsimp only at hSw);first | (go_simp;done) | (go_simp;with_reducible rfl))
  (try simp only [Act.put]);refine AnyC.tk 2 ?_ HH ?_ ?_;rotate_left
  · (intro w hSw;(try dsimp only at hSw);first | (go_simp;done) | (go_simp;with_reducible rfl))
  (try simp only [Act.put]);refine AnyC.tk 3 ?_ HH ?_ ?_;rotate_left
  · (intro w hSw;(try dsimp only at hSw);first | (go_simp;done) | (go_simp;with_reducible rfl))
  (try simp only [Act.put]);refine AnyC.tk 4 ?_ HH ?_ ?_;rotate_left
  · (intro w hSw;(try dsimp only at hSw);first | (go_simp;done) | (go_simp;with_reducible rfl))
  (try simp only [Act.put]);refine AnyC.tk 5 ?_ HH ?_ ?_;rotate_left
  · (intro w hSw;(try dsimp only at hSw);first | (go_simp;done) | (go_simp;with_reducible rfl))
  (try simp only [Act.put]);refine AnyC.tk 6 ?_ HH ?_ ?_;rotate_left
  · (intro w hSw;(try dsimp only at hSw);first | (go_simp;done) | (go_simp;with_reducible rfl))
  (try simp only [Act.put]);refine AnyC.tk 7 ?_ HH ?_ ?_;rotate_left
  · (intro w hSw;(try dsimp only at hSw);first | (go_simp;done) | (go_simp;with_reducible rfl))
  (try simp only [Act.put]);refine AnyC.tk 8 ?_ HH ?_ ?_;rotate_left
  · (intro w hSw;(try dsimp only at hSw);first | (go_simp;done) | (go_simp;with_reducible rfl))
  (try simp only [Act.put]);refine AnyC.tk 9 ?_ HH ?_ ?_;rotate_left
  · (intro w hSw;(try dsimp only at hSw);first | (go_simp;done) | (go_simp;with_reducible rfl))
  (try simp only [Act.put]);refine AnyC.tk 10 ?_ HH ?_ ?_;rotate_left
  · (intro w hSw;(try dsimp only at hSw);first | (go_simp;done) | (go_simp;with_reducible rfl))
  (try simp only [Act.put]);refine AnyC.tk 11 ?_ HH ?_ ?_;rotate_left
  · (intro w hSw;(try dsimp only at hSw);first | (go_simp;done) | (go_simp;with_reducible rfl))
  (try simp only [Act.put]);refine AnyC.one (i:=12) (by kernel_rfl) (by rfl) (fun K hK=>?_);go_simp;(with_reducible refine (R.out _ ?_).mono ?_)
  · exact hS1
  rintro e w1 ⟨v',rfl,h1,k1,hF1⟩;have k1':Below W1.heap.size W1 w1:=⟨k1.os,k1.tape,k1.output,k1.size,k1.block⟩;have hF1':FarB W1.heap.size v':=hF1;have og:=o1.below k1';have hf6:=og.frozen 6;have g6:w1.cell? ⟨g,6,none⟩=some (.slice va xs.length vcap):=og.cell 6 (by simp);have ob1:=ob.below k1';have b2:w1.cell? ⟨w.heap.size+1,2,none⟩=some (I 0):=ob1.cell 2 (by simp);have bf2:=ob1.frozen 2;obtain ⟨va',vcap',rfl,-⟩:=id h1
  go_wp2_with fail
  refine hK.out _ _ (fun h=>absurd rfl h) ?_;clear hK K;(try simp only [Act.put]);refine AnyC.pu 13 ?_ ?_ ?_;rotate_left
  · (intro w;first | (go_simp;done) | (go_simp;with_reducible rfl))
  (try simp only [Act.put]);refine AnyC.pu 14 ?_ ?_ ?_;rotate_left
  · (intro w;first | (go_simp;done) | (go_simp;with_reducible rfl))
  (try simp only [Act.put]);refine AnyC.pu 15 ?_ ?_ ?_;rotate_left
  · (intro w;first | (go_simp;done) | (go_simp;with_reducible rfl))
  (try simp only [Act.put]);refine AnyC.pu 16 ?_ ?_ ?_;rotate_left
  · (intro w;first | (go_simp;done) | (go_simp;with_reducible rfl))
  (try simp only [Act.put]);refine AnyC.pu 17 ?_ ?_ ?_;rotate_left
  · (intro w;first | (go_simp;done) | (go_simp;with_reducible rfl))
  (try simp only [Act.put]);refine AnyC.pu 18 ?_ ?_ ?_;rotate_left
  · (intro w;first | (go_simp;done) | (go_simp;with_reducible rfl))
  (try simp only [Act.put]);refine AnyC.pu 19 ?_ ?_ ?_;rotate_left
  · (intro w;first | (go_simp;done) | (go_simp;with_reducible rfl))
  (try simp only [Act.put]);refine AnyC.one (i:=20) (by kernel_rfl) (by rfl) (fun K hK=>?_);go_simp;refine hK.out _ _ (fun _ h=>absurd h (by decide)) ?_;clear hK K;(try simp only [Act.put]);refine AnyC.pu 21 ?_ ?_ ?_;rotate_left
  · (intro w;first | (go_simp;done) | (go_simp;with_reducible rfl))
  (try simp only [Act.put]);refine AnyC.one (i:=22) (by kernel_rfl) (by rfl) (fun K hK=>?_);go_simp;refine hK.out _ _ (fun _ h=>absurd h (by decide)) ?_;clear hK K;(try simp only [Act.put]);refine AnyC.done (by kernel_rfl) ?_ _;have hne:g≠w.heap.size+1:=by omega
  have hfz:Far g (.slice va' ys.length vcap'):=hF1'.far (by omega);have hfb:Far (w.heap.size+1) (.slice va' ys.length vcap'):=hF1'.far (by omega);have hf0:Far w.heap.size (.slice va' ys.length vcap'):=hF1'.far (by omega);have hFB:FarB w.heap.size (.slice va' ys.length vcap'):=fun a n c e=>by have:=hF1' a n c e;omega
  have oG:=(og.set 6 (.slice va' ys.length vcap')).other (a:=⟨w.heap.size+1,2,none⟩) (Ne.symm hne) (I p);have oB:=(ob1.other (a:=⟨g,6,none⟩) hne (.slice va' ys.length vcap')).set 2 (I p);have oZ:=((oz.below k1').other (a:=⟨g,6,none⟩) (by show g≠w.heap.size;omega) (.slice va' ys.length vcap')).other (a:=⟨w.heap.size+1,2,none⟩) (by show w.heap.size+1≠w.heap.size;omega) (I p);have cG:=((((Chg.of_below k0:Chg g w W1)).trans (Chg.of_below k1')).set 6 (.slice va' ys.length vcap')).setNew (w.heap.size+1) 2 (by omega) (I p);have hY:=(h1.set (j:=6) hfz (.slice va' ys.length vcap')).set (j:=2) hfb (I p);have tS2:=((tS1.below k1').set (j:=6) hFt (.slice va' ys.length vcap')).chg (z:=w.heap.size+1) (fun _=>hFtb) ((Chg.refl _ _).set 2 (I p));have hz2:w.heap.size+2≤((w1.setCell ⟨g,6,none⟩ (.slice va' ys.length vcap')).setCell ⟨w.heap.size+1,2,none⟩ (I p)).heap.size:=by have:=k1'.size;simp [World.setCell];omega
  (try simp only [List.set_cons_zero,List.set_cons_succ] at oG oB);clear HH og g6 hf6 ob1 b2 bf2 c6 c10 d2 e2 k1 k1' hF1 o1 oz ob hS1 tS1 h1 k0 hO hS tS;generalize ((w1.setCell ⟨g,6,none⟩ (.slice va' ys.length vcap')).setCell ⟨w.heap.size+1,2,none⟩ (I p))=W2 at *;have gcO:=oG;have gcfA:=gcO.f;have gc0:=gcO.c0;have gc1:=gcO.c1;have gc2:=gcO.c2;have gc3:=gcO.c3;have gc4:=gcO.c4;have gc5:=gcO.c5;have gc6:=gcO.c6;have gc7:=gcO.c7;have gc8:=gcO.c8;have gc9:=gcO.c9;have gc10:=gcO.c10;have gc11:=gcO.c11;clear gcO;have bcO:=oB;have bcA:=bcO.s7;clear bcO;clear R gc0 gc1 gc2 gc3 gc4 gc5 gc6 gc10 gc11 gcfA;have hge:0≤t-p-(f+q):=hr
  go_wp2_with (go_at_call 119;refine (C.out _).mono ?_;rintro e w' ⟨rfl,rfl⟩)
  have oG3:=oG.other (a:=⟨w.heap.size+1,3,none⟩) (Ne.symm hne) (I (f+q));have oB3:=oB.set 3 (I (f+q));have oZ3:=oZ.other (a:=⟨w.heap.size+1,3,none⟩) (by show w.heap.size+1≠w.heap.size;omega) (I (f+q));have cG3:=cG.setNew (w.heap.size+1) 3 (by omega) (I (f+q));have hY3:=hY.set (j:=3) hfb (I (f+q));have tS3:=tS2.chg (z:=w.heap.size+1) (fun _=>hFtb) ((Chg.refl _ _).set 3 (I (f+q)));have hz3:w.heap.size+2≤(W2.setCell ⟨w.heap.size+1,3,none⟩ (I (f+q))).heap.size:=by simp [World.setCell];omega
  (try simp only [List.set_cons_zero,List.set_cons_succ] at oB3);clear gc7 gc8 gc9 bcA oG oB oZ cG hY tS2 hz2;generalize (W2.setCell ⟨w.heap.size+1,3,none⟩ (I (f+q)))=W3 at *;have g7:W3.cell? ⟨g,7,none⟩=some (.slice ta ts.length tcap):=oG3.cell 7 (by simp);have g4:W3.cell? ⟨g,4,none⟩=some (I y5):=oG3.cell 4 (by simp);refine AnyC.begin 11 (fun w'=>w'.cell? ⟨g,7,none⟩=some (.slice ta ts.length tcap)∧w'.cell? ⟨g,4,none⟩=some (I y5)) (by kernel_rfl) ?_;have HH:(fun w'=>w'.cell? ⟨g,7,none⟩=some (.slice ta ts.length tcap)∧w'.cell? ⟨g,4,none⟩=some (I y5)) W3.drew:=⟨g7,g4⟩;refine AnyC.tk 0 ?_ HH ?_ ?_;rotate_left
  · (intro w hSw;(try dsimp only at hSw);first | (go_simp;done) | (go_simp;with_reducible rfl))
  (try simp only [Act.put,List.setIfInBounds_toArray]);refine AnyC.tk 1 ?_ HH ?_ ?_;rotate_left
  · (intro w hSw;(try dsimp only at hSw);first | (go_simp;done) | (go_simp;with_reducible rfl))
  (try simp only [Act.put]);refine AnyC.tk 2 ?_ HH ?_ ?_;rotate_left
  · (intro w hSw;(try dsimp only at hSw);first | (go_simp;done) | (go_simp;with_reducible rfl))
  (try simp only [Act.put]);refine AnyC.tk 3 ?_ HH ?_ ?_;rotate_left
  · (intro w hSw;(try dsimp only at hSw);first | (go_simp;done) | (go_simp;with_reducible rfl))
  (try simp only [Act.put]);refine AnyC.tk 4 ?_ HH ?_ ?_;rotate_left
  · (intro w hSw;(try dsimp only at hSw);first | (go_simp;done) | (go_simp;with_reducible rfl))
  (try simp only [Act.put]);refine AnyC.tk 5 ?_ HH ?_ ?_;rotate_left
  · (intro w hSw;(try dsimp only at hSw);first | (go_simp;done) | (go_simp;with_reducible rfl))
  (try simp only [Act.put]);refine AnyC.tk 6 ?_ HH ?_ ?_;rotate_left
  · (intro w hSw;(try dsimp only at hSw);first | (go_simp;done) | (go_simp;with_reducible rfl))
  (try simp only [Act.put]);refine AnyC.tk 7 ?_ HH ?_ ?_;rotate_left
  · (intro w hSw;(try dsimp only at hSw);first | (go_simp;done) | (go_simp;with_reducible rfl))
  (try simp only [Act.put]);refine AnyC.tk 8 ?_ HH ?_ ?_;rotate_left
  · (intro w hSw;(try dsimp only at hSw);first | (go_simp;done) | (go_simp;with_reducible rfl))
  (try simp only [Act.put]);refine AnyC.tk 9 ?_ HH ?_ ?_;rotate_left
  · (intro w hSw;(try dsimp only at hSw);first | (go_simp;done) | (go_simp;with_reducible rfl))
  (try simp only [Act.put]);refine AnyC.tk 10 ?_ HH ?_ ?_;rotate_left
  · (intro w hSw;(try dsimp only at hSw);first | (go_simp;done) | (go_simp;with_reducible rfl))
  (try simp only [Act.put]);refine AnyC.one (i:=11) (by kernel_rfl) (by rfl) (fun K hK=>?_);go_simp;(with_reducible refine (M.out _ ?_).mono ?_)
  · exact tS3
  rintro e w3 ⟨rfl,k3⟩;have k3':Below W3.heap.size W3 w3:=⟨k3.os,k3.tape,k3.output,k3.size,k3.block⟩;have og:=oG3.below k3';have ob:=oB3.below k3';have b6:w3.cell? ⟨w.heap.size+1,6,none⟩=some (I 0):=ob.cell 6 (by simp);have b4:w3.cell? ⟨w.heap.size+1,4,none⟩=some (I 0):=ob.cell 4 (by simp);have bf6:=ob.frozen 6;have bf4:=ob.frozen 4
  go_wp2_with fail
  refine hK.out _ _ (fun h=>absurd rfl h) ?_;clear hK K;(try simp only [Act.put]);refine AnyC.pu 12 ?_ ?_ ?_;rotate_left
  · (intro w;first | (go_simp;done) | (go_simp;with_reducible rfl))
  (try simp only [Act.put]);refine AnyC.pu 13 ?_ ?_ ?_;rotate_left
  · (intro w;first | (go_simp;done) | (go_simp;with_reducible rfl))
  (try simp only [Act.put]);refine AnyC.pu 14 ?_ ?_ ?_;rotate_left
  · (intro w;first | (go_simp;done) | (go_simp;with_reducible rfl))
  (try simp only [Act.put]);refine AnyC.pu 15 ?_ ?_ ?_;rotate_left
  · (intro w;first | (go_simp;done) | (go_simp;with_reducible rfl))
  (try simp only [Act.put]);refine AnyC.pu 16 ?_ ?_ ?_;rotate_left
  · (intro w;first | (go_simp;done) | (go_simp;with_reducible rfl))
  (try simp only [Act.put]);refine AnyC.one (i:=17) (by kernel_rfl) (by rfl) (fun K hK=>?_);go_simp;refine hK.out _ _ (fun _ h=>absurd h (by decide)) ?_;clear hK K;(try simp only [Act.put]);refine AnyC.pu 18 ?_ ?_ ?_;rotate_left
  · (intro w;first | (go_simp;done) | (go_simp;with_reducible rfl))
  (try simp only [Act.put]);refine AnyC.one (i:=19) (by kernel_rfl) (by rfl) (fun K hK=>?_);go_simp;refine hK.out _ _ (fun _ h=>absurd h (by decide)) ?_;clear hK K;(try simp only [Act.put]);refine AnyC.done (by kernel_rfl) ?_ _;have oG4:=(og.other (a:=⟨w.heap.size+1,6,none⟩) (Ne.symm hne) (I (0))).other (a:=⟨w.heap.size+1,4,none⟩) (Ne.symm hne) (I Pc);have oB4:=(ob.set 6 (I (0))).set 4 (I Pc);have oZ4:=((oZ3.below k3').other (a:=⟨w.heap.size+1,6,none⟩) (by show w.heap.size+1≠w.heap.size;omega) (I (0))).other (a:=⟨w.heap.size+1,4,none⟩) (by show w.heap.size+1≠w.heap.size;omega) (I Pc);have cG4:=((cG3.trans (Chg.of_below k3')).setNew (w.heap.size+1) 6 (by omega) (I (0))).setNew (w.heap.size+1) 4 (by omega) (I Pc);have hY4:=((hY3.below k3').set (j:=6) hfb (I (0))).set (j:=4) hfb (I Pc);have hz4:w.heap.size+2≤((w3.setCell ⟨w.heap.size+1,6,none⟩ (I (0))).setCell ⟨w.heap.size+1,4,none⟩ (I Pc)).heap.size:=by have:=k3'.size;simp [World.setCell];omega
  (try simp only [List.set_cons_zero,List.set_cons_succ] at oB4);clear HH og ob b6 b4 bf6 bf4 g7 g4 k3 k3' oG3 oB3 oZ3 cG3 hY3 tS3 hz3;generalize ((w3.setCell ⟨w.heap.size+1,6,none⟩ (I (0))).setCell ⟨w.heap.size+1,4,none⟩ (I Pc))=W4 at *;have bcO:=oB4;have bcA:=bcO.s7;clear bcO;have zcO:=oZ4;have zcA:=zcO.s7;clear zcO;clear oG4 oB4 oZ4 hY4 M;go_wp2;exact bodyPost_ret (v:=T2 (.agg #[I 0,I 0,I 0,I 0,I 0,I 0,I 0]) (I 19)) (by simp [results,Tryz.results70,go_sem, *];try omega) rfl (⟨rfl,(by repeat first | with_reducible assumption | with_reducible refine Chg.set ?_ _ _ | with_reducible refine Chg.setNew ?_ _ _ (by omega) _ | with_reducible refine Chg.drewN ?_ _ | with_reducible refine Chg.drw ?_)⟩)
theorem sell_spent (g:Nat) (y1 y2 y3 y4 y5 y6:Int) (v tv:Value) (xs ys:List ADebt) (ts:List AStep) (f b d al t p k0 q qe U Pc me:Int) (w:World) (hO:Own w g [I y1,I y2,I y3,I y4,I y5,I y6,v,tv,I f,I b,I d,I al])
    (hS:Sl w v 2 xs.length (xs.flatMap ADebt.cells)) (tS:Sl w tv 2 ts.length (ts.flatMap AStep.cells)) (hFt:Far g tv) (hFtb:Far (w.heap.size+1) tv) (hi:inB t 1 100000000=true)
    (R:Hid (∀ W,Sl W v 2 xs.length (xs.flatMap ADebt.cells)→Calls Tryz.prog 118 #[v,I t,I d] W (GrewSl3 2 ys.length (ys.flatMap ADebt.cells) p k0 W)))
    (C:Hid (∀ W,Calls Tryz.prog 119 #[I t,I b] W (Pure (T2 (I q) (I qe)) W)))
    (M:Hid (∀ W,Sl W tv 2 ts.length (ts.flatMap AStep.cells)→Calls Tryz.prog 120 #[tv,I y5,I (t-p-(f+q))] W (Grew (T3 (I U) (I Pc) (I me)) W)))
    (p0:0≤p) (p1:p≤1000000000000) (q0:0≤q) (q1:q≤1000000000000) (f0:0≤f) (f1:f≤100000) (hr:0≤t-p-(f+q)) (hU:¬ U=0) (hn:1048575 < y3):
    Calls Tryz.prog 70 #[.pointer (some ⟨g,0,none⟩),I t] w (GrewSellE g 20 w):=by
  obtain ⟨t0,t1⟩:=inB_true.1 hi;have x1:IntKind.i64.wrap (f+q)=f+q:=wrap_small _ (by omega) (by omega);have x2:IntKind.i64.wrap (t-p)=t-p:=wrap_mid _ (by omega) (by omega);have x3:IntKind.i64.wrap (t-p-(f+q))=t-p-(f+q):=wrap_mid _ (by omega) (by omega);have hgl:=hO.lt;have r1:=set_same;have r2:=set_off;have r3:=set_blk;obtain ⟨k0,oz,ob⟩:=boxes2 w [I 0,I 0,I 0,I 0,I 0,I 0,I 0] 39 [I y3,I t,I 0,I 0,I 0,I 0,I 0] 39;have o1:=hO.below k0;have hS1:=hS.below k0;have tS1:=tS.below k0;have e2:=hO.cell 2 (by simp);have d2:=(hO.alloc (.cells #[I 0,I 0,I 0,I 0,I 0,I 0,I 0] 39)).cell 2 (by simp);simp only [Nat.zero_add,List.getD_cons_zero,List.getD_cons_succ] at e2 d2;have c6:((w.alloc (.cells #[I 0,I 0,I 0,I 0,I 0,I 0,I 0] 39)).alloc (.cells #[I y3,I t,I 0,I 0,I 0,I 0,I 0] 39)).cell? ⟨g,6,none⟩=some v:=o1.cell 6 (by simp);have c10:((w.alloc (.cells #[I 0,I 0,I 0,I 0,I 0,I 0,I 0] 39)).alloc (.cells #[I y3,I t,I 0,I 0,I 0,I 0,I 0] 39)).cell? ⟨g,10,none⟩=some (I d):=o1.cell 10 (by simp);have hsz:((w.alloc (.cells #[I 0,I 0,I 0,I 0,I 0,I 0,I 0] 39)).alloc (.cells #[I y3,I t,I 0,I 0,I 0,I 0,I 0] 39)).heap.size=w.heap.size+2:=by simp
  obtain ⟨va,vcap,rfl,-⟩:=id hS;obtain ⟨ta,tcap,rfl,-⟩:=id tS;go_enter Tryz.func70,Tryz.ntmps70
  go_wp2_with (go_at_call 110;refine (awithin_any _ _ _ _).mono ?_;rintro e w' ⟨rfl,rfl⟩)
  generalize ((w.alloc (.cells #[I 0,I 0,I 0,I 0,I 0,I 0,I 0] 39)).alloc (.cells #[I y3,I t,I 0,I 0,I 0,I 0,I 0] 39))=W1 at *;refine AnyC.begin 12 (fun w'=>w'.cell? ⟨g,6,none⟩=some (.slice va xs.length vcap)∧w'.cell? ⟨g,10,none⟩=some (I d)) (by kernel_rfl) ?_;have HH:(fun w'=>w'.cell? ⟨g,6,none⟩=some (.slice va xs.length vcap)∧w'.cell? ⟨g,10,none⟩=some (I d)) W1.drew:=⟨c6,c10⟩;refine AnyC.pure (i:=0) (v:=?_) rfl (by decide) (by kernel_rfl) (by kernel_rfl) (by kernel_rfl) (fun _ _ _ h=>h) (Or.inl ⟨by rfl,?_⟩) (fun _=>HH) ?_;rotate_left
  · (intro w;first | (go_simp;done) | (go_simp;with_reducible rfl))
  (try simp only [Act.put,List.setIfInBounds_toArray]);refine AnyC.tk 1 ?_ HH ?_ ?_;rotate_left
  · (intro w hSw;(try dsimp only at hSw);first | (go_simp;done) | (go_simp;with_reducible rfl))
  (try simp only [Act.put]);refine AnyC.tk 2 ?_ HH ?_ ?_;rotate_left
  · (intro w hSw;(try dsimp only at hSw);first | (go_simp;done) | (go_simp;with_reducible rfl))
  (try simp only [Act.put]);refine AnyC.tk 3 ?_ HH ?_ ?_;rotate_left
  · (intro w hSw;(try dsimp only at hSw);first | (go_simp;done) | (go_simp;with_reducible rfl))
  (try simp only [Act.put]);refine AnyC.tk 4 ?_ HH ?_ ?_;rotate_left
  · (intro w hSw;(try dsimp only at hSw);first | (go_simp;done) | (go_simp;with_reducible rfl))
  (try simp only [Act.put]);refine AnyC.tk 5 ?_ HH ?_ ?_;rotate_left
  · (intro w hSw;(try dsimp only at hSw);first | (go_simp;done) | (go_simp;with_reducible rfl))
  (try simp only [Act.put]);refine AnyC.tk 6 ?_ HH ?_ ?_;rotate_left
  · (intro w hSw;(try dsimp only at hSw);first | (go_simp;done) | (go_simp;with_reducible rfl))
  (try simp only [Act.put]);refine AnyC.tk 7 ?_ HH ?_ ?_;rotate_left
  · (intro w hSw;(try dsimp only at hSw);first | (go_simp;done) | (go_simp;with_reducible rfl))
  (try simp only [Act.put]);refine AnyC.tk 8 ?_ HH ?_ ?_;rotate_left
  · (intro w hSw;(try dsimp only at hSw);first | (go_simp;done) | (go_simp;with_reducible rfl))
  (try simp only [Act.put]);refine AnyC.tk 9 ?_ HH ?_ ?_;rotate_left
  · (intro w hSw;(try dsimp only at hSw);first | (go_simp;done) | (go_simp;with_reducible rfl))
  (try simp only [Act.put]);refine AnyC.tk 10 ?_ HH ?_ ?_;rotate_left
  · (intro w hSw;(try dsimp only at hSw);first | (go_simp;done) | (go_simp;with_reducible rfl))
  (try simp only [Act.put]);refine AnyC.tk 11 ?_ HH ?_ ?_;rotate_left
  · (intro w hSw;(try dsimp only at hSw);first | (go_simp;done) | (go_simp;with_reducible rfl))
  (try simp only [Act.put]);refine AnyC.one (i:=12) (by kernel_rfl) (by rfl) (fun K hK=>?_);go_simp;(with_reducible refine (R.out _ ?_).mono ?_)
  · exact hS1
  rintro e w1 ⟨v',rfl,h1,k1,hF1⟩;have k1':Below W1.heap.size W1 w1:=⟨k1.os,k1.tape,k1.output,k1.size,k1.block⟩;have hF1':FarB W1.heap.size v':=hF1;have og:=o1.below k1';have hf6:=og.frozen 6;have g6:w1.cell? ⟨g,6,none⟩=some (.slice va xs.length vcap):=og.cell 6 (by simp);have ob1:=ob.below k1';have b2:w1.cell? ⟨w.heap.size+1,2,none⟩=some (I 0):=ob1.cell 2 (by simp);have bf2:=ob1.frozen 2;obtain ⟨va',vcap',rfl,-⟩:=id h1
  go_wp2_with fail
  refine hK.out _ _ (fun h=>absurd rfl h) ?_;clear hK K;(try simp only [Act.put]);refine AnyC.pu 13 ?_ ?_ ?_;rotate_left
  · (intro w;first | (go_simp;done) | (go_simp;with_reducible rfl))
  (try simp only [Act.put]);refine AnyC.pu 14 ?_ ?_ ?_;rotate_left
  · (intro w;first | (go_simp;done) | (go_simp;with_reducible rfl))
  (try simp only [Act.put]);refine AnyC.pu 15 ?_ ?_ ?_;rotate_left
  · (intro w;first | (go_simp;done) | (go_simp;with_reducible rfl))
  (try simp only [Act.put]);refine AnyC.pu 16 ?_ ?_ ?_;rotate_left
  · (intro w;first | (go_simp;done) | (go_simp;with_reducible rfl))
  (try simp only [Act.put]);refine AnyC.pu 17 ?_ ?_ ?_;rotate_left
  · (intro w;first | (go_simp;done) | (go_simp;with_reducible rfl))
  (try simp only [Act.put]);refine AnyC.pu 18 ?_ ?_ ?_;rotate_left
  · (intro w;first | (go_simp;done) | (go_simp;with_reducible rfl))
  (try simp only [Act.put]);refine AnyC.pu 19 ?_ ?_ ?_;rotate_left
  · (intro w;first | (go_simp;done) | (go_simp;with_reducible rfl))
  (try simp only [Act.put]);refine AnyC.one (i:=20) (by kernel_rfl) (by rfl) (fun K hK=>?_);go_simp;refine hK.out _ _ (fun _ h=>absurd h (by decide)) ?_;clear hK K;(try simp only [Act.put]);refine AnyC.pu 21 ?_ ?_ ?_;rotate_left
  · (intro w;first | (go_simp;done) | (go_simp;with_reducible rfl))
  (try simp only [Act.put]);refine AnyC.one (i:=22) (by kernel_rfl) (by rfl) (fun K hK=>?_);go_simp;refine hK.out _ _ (fun _ h=>absurd h (by decide)) ?_;clear hK K;(try simp only [Act.put]);refine AnyC.done (by kernel_rfl) ?_ _;have hne:g≠w.heap.size+1:=by omega
  have hfz:Far g (.slice va' ys.length vcap'):=hF1'.far (by omega);have hfb:Far (w.heap.size+1) (.slice va' ys.length vcap'):=hF1'.far (by omega);have hf0:Far w.heap.size (.slice va' ys.length vcap'):=hF1'.far (by omega);have hFB:FarB w.heap.size (.slice va' ys.length vcap'):=fun a n c e=>by have:=hF1' a n c e;omega
  have oG:=(og.set 6 (.slice va' ys.length vcap')).other (a:=⟨w.heap.size+1,2,none⟩) (Ne.symm hne) (I p);have oB:=(ob1.other (a:=⟨g,6,none⟩) hne (.slice va' ys.length vcap')).set 2 (I p);have oZ:=((oz.below k1').other (a:=⟨g,6,none⟩) (by show g≠w.heap.size;omega) (.slice va' ys.length vcap')).other (a:=⟨w.heap.size+1,2,none⟩) (by show w.heap.size+1≠w.heap.size;omega) (I p);have cG:=((((Chg.of_below k0:Chg g w W1)).trans (Chg.of_below k1')).set 6 (.slice va' ys.length vcap')).setNew (w.heap.size+1) 2 (by omega) (I p);have hY:=(h1.set (j:=6) hfz (.slice va' ys.length vcap')).set (j:=2) hfb (I p);have tS2:=((tS1.below k1').set (j:=6) hFt (.slice va' ys.length vcap')).chg (z:=w.heap.size+1) (fun _=>hFtb) ((Chg.refl _ _).set 2 (I p));have hz2:w.heap.size+2≤((w1.setCell ⟨g,6,none⟩ (.slice va' ys.length vcap')).setCell ⟨w.heap.size+1,2,none⟩ (I p)).heap.size:=by have:=k1'.size;simp [World.setCell];omega
  (try simp only [List.set_cons_zero,List.set_cons_succ] at oG oB);clear HH og g6 hf6 ob1 b2 bf2 c6 c10 d2 e2 k1 k1' hF1 o1 oz ob hS1 tS1 h1 k0 hO hS tS;generalize ((w1.setCell ⟨g,6,none⟩ (.slice va' ys.length vcap')).setCell ⟨w.heap.size+1,2,none⟩ (I p))=W2 at *;have gcO:=oG;have gcfA:=gcO.f;have gc0:=gcO.c0;have gc1:=gcO.c1;have gc2:=gcO.c2;have gc3:=gcO.c3;have gc4:=gcO.c4;have gc5:=gcO.c5;have gc6:=gcO.c6;have gc7:=gcO.c7;have gc8:=gcO.c8;have gc9:=gcO.c9;have gc10:=gcO.c10;have gc11:=gcO.c11;clear gcO;have bcO:=oB;have bcA:=bcO.s7;clear bcO;clear R gc0 gc1 gc2 gc3 gc4 gc5 gc6 gc10 gc11 gcfA;have hge:0≤t-p-(f+q):=hr
  go_wp2_with (go_at_call 119;refine (C.out _).mono ?_;rintro e w' ⟨rfl,rfl⟩)
  have oG3:=oG.other (a:=⟨w.heap.size+1,3,none⟩) (Ne.symm hne) (I (f+q));have oB3:=oB.set 3 (I (f+q));have oZ3:=oZ.other (a:=⟨w.heap.size+1,3,none⟩) (by show w.heap.size+1≠w.heap.size;omega) (I (f+q));have cG3:=cG.setNew (w.heap.size+1) 3 (by omega) (I (f+q));have hY3:=hY.set (j:=3) hfb (I (f+q));have tS3:=tS2.chg (z:=w.heap.size+1) (fun _=>hFtb) ((Chg.refl _ _).set 3 (I (f+q)));have hz3:w.heap.size+2≤(W2.setCell ⟨w.heap.size+1,3,none⟩ (I (f+q))).heap.size:=by simp [World.setCell];omega
  (try simp only [List.set_cons_zero,List.set_cons_succ] at oB3);clear gc7 gc8 gc9 bcA oG oB oZ cG hY tS2 hz2;generalize (W2.setCell ⟨w.heap.size+1,3,none⟩ (I (f+q)))=W3 at *;have g7:W3.cell? ⟨g,7,none⟩=some (.slice ta ts.length tcap):=oG3.cell 7 (by simp);have g4:W3.cell? ⟨g,4,none⟩=some (I y5):=oG3.cell 4 (by simp);refine AnyC.begin 11 (fun w'=>w'.cell? ⟨g,7,none⟩=some (.slice ta ts.length tcap)∧w'.cell? ⟨g,4,none⟩=some (I y5)) (by kernel_rfl) ?_;have HH:(fun w'=>w'.cell? ⟨g,7,none⟩=some (.slice ta ts.length tcap)∧w'.cell? ⟨g,4,none⟩=some (I y5)) W3.drew:=⟨g7,g4⟩;refine AnyC.tk 0 ?_ HH ?_ ?_;rotate_left
  · (intro w hSw;(try dsimp only at hSw);first | (go_simp;done) | (go_simp;with_reducible rfl))
  (try simp only [Act.put,List.setIfInBounds_toArray]);refine AnyC.tk 1 ?_ HH ?_ ?_;rotate_left
  · (intro w hSw;(try dsimp only at hSw);first | (go_simp;done) | (go_simp;with_reducible rfl))
  (try simp only [Act.put]);refine AnyC.tk 2 ?_ HH ?_ ?_;rotate_left
  · (intro w hSw;(try dsimp only at hSw);first | (go_simp;done) | (go_simp;with_reducible rfl))
  (try simp only [Act.put]);refine AnyC.tk 3 ?_ HH ?_ ?_;rotate_left
  · (intro w hSw;(try dsimp only at hSw);first | (go_simp;done) | (go_simp;with_reducible rfl))
  (try simp only [Act.put]);refine AnyC.tk 4 ?_ HH ?_ ?_;rotate_left
  · (intro w hSw;(try dsimp only at hSw);first | (go_simp;done) | (go_simp;with_reducible rfl))
  (try simp only [Act.put]);refine AnyC.tk 5 ?_ HH ?_ ?_;rotate_left
  · (intro w hSw;(try dsimp only at hSw);first | (go_simp;done) | (go_simp;with_reducible rfl))
  (try simp only [Act.put]);refine AnyC.tk 6 ?_ HH ?_ ?_;rotate_left
  · (intro w hSw;(try dsimp only at hSw);first | (go_simp;done) | (go_simp;with_reducible rfl))
  (try simp only [Act.put]);refine AnyC.tk 7 ?_ HH ?_ ?_;rotate_left
  · (intro w hSw;(try dsimp only at hSw);first | (go_simp;done) | (go_simp;with_reducible rfl))
  (try simp only [Act.put]);refine AnyC.tk 8 ?_ HH ?_ ?_;rotate_left
  · (intro w hSw;(try dsimp only at hSw);first | (go_simp;done) | (go_simp;with_reducible rfl))
  (try simp only [Act.put]);refine AnyC.tk 9 ?_ HH ?_ ?_;rotate_left
  · (intro w hSw;(try dsimp only at hSw);first | (go_simp;done) | (go_simp;with_reducible rfl))
  (try simp only [Act.put]);refine AnyC.tk 10 ?_ HH ?_ ?_;rotate_left
  · (intro w hSw;(try dsimp only at hSw);first | (go_simp;done) | (go_simp;with_reducible rfl))
  (try simp only [Act.put]);refine AnyC.one (i:=11) (by kernel_rfl) (by rfl) (fun K hK=>?_);go_simp;(with_reducible refine (M.out _ ?_).mono ?_)
  · exact tS3
  rintro e w3 ⟨rfl,k3⟩;have k3':Below W3.heap.size W3 w3:=⟨k3.os,k3.tape,k3.output,k3.size,k3.block⟩;have og:=oG3.below k3';have ob:=oB3.below k3';have b6:w3.cell? ⟨w.heap.size+1,6,none⟩=some (I 0):=ob.cell 6 (by simp);have b4:w3.cell? ⟨w.heap.size+1,4,none⟩=some (I 0):=ob.cell 4 (by simp);have bf6:=ob.frozen 6;have bf4:=ob.frozen 4
  go_wp2_with fail
  refine hK.out _ _ (fun h=>absurd rfl h) ?_;clear hK K;(try simp only [Act.put]);refine AnyC.pu 12 ?_ ?_ ?_;rotate_left
  · (intro w;first | (go_simp;done) | (go_simp;with_reducible rfl))
  (try simp only [Act.put]);refine AnyC.pu 13 ?_ ?_ ?_;rotate_left
  · (intro w;first | (go_simp;done) | (go_simp;with_reducible rfl))
  (try simp only [Act.put]);refine AnyC.pu 14 ?_ ?_ ?_;rotate_left
  · (intro w;first | (go_simp;done) | (go_simp;with_reducible rfl))
  (try simp only [Act.put]);refine AnyC.pu 15 ?_ ?_ ?_;rotate_left
  · (intro w;first | (go_simp;done) | (go_simp;with_reducible rfl))
  (try simp only [Act.put]);refine AnyC.pu 16 ?_ ?_ ?_;rotate_left
  · (intro w;first | (go_simp;done) | (go_simp;with_reducible rfl))
  (try simp only [Act.put]);refine AnyC.one (i:=17) (by kernel_rfl) (by rfl) (fun K hK=>?_);go_simp;refine hK.out _ _ (fun _ h=>absurd h (by decide)) ?_;clear hK K;(try simp only [Act.put]);refine AnyC.pu 18 ?_ ?_ ?_;rotate_left
  · (intro w;first | (go_simp;done) | (go_simp;with_reducible rfl))
  (try simp only [Act.put]);refine AnyC.one (i:=19) (by kernel_rfl) (by rfl) (fun K hK=>?_);go_simp;refine hK.out _ _ (fun _ h=>absurd h (by decide)) ?_;clear hK K;(try simp only [Act.put]);refine AnyC.done (by kernel_rfl) ?_ _;have oG4:=(og.other (a:=⟨w.heap.size+1,6,none⟩) (Ne.symm hne) (I (U))).other (a:=⟨w.heap.size+1,4,none⟩) (Ne.symm hne) (I Pc);have oB4:=(ob.set 6 (I (U))).set 4 (I Pc);have oZ4:=((oZ3.below k3').other (a:=⟨w.heap.size+1,6,none⟩) (by show w.heap.size+1≠w.heap.size;omega) (I (U))).other (a:=⟨w.heap.size+1,4,none⟩) (by show w.heap.size+1≠w.heap.size;omega) (I Pc);have cG4:=((cG3.trans (Chg.of_below k3')).setNew (w.heap.size+1) 6 (by omega) (I (U))).setNew (w.heap.size+1) 4 (by omega) (I Pc);have hY4:=((hY3.below k3').set (j:=6) hfb (I (U))).set (j:=4) hfb (I Pc);have hz4:w.heap.size+2≤((w3.setCell ⟨w.heap.size+1,6,none⟩ (I (U))).setCell ⟨w.heap.size+1,4,none⟩ (I Pc)).heap.size:=by have:=k3'.size;simp [World.setCell];omega
  (try simp only [List.set_cons_zero,List.set_cons_succ] at oB4);clear HH og ob b6 b4 bf6 bf4 g7 g4 k3 k3' oG3 oB3 oZ3 cG3 hY3 tS3 hz3;generalize ((w3.setCell ⟨w.heap.size+1,6,none⟩ (I (U))).setCell ⟨w.heap.size+1,4,none⟩ (I Pc))=W4 at *;have bcO:=oB4;have bcA:=bcO.s7;clear bcO;have zcO:=oZ4;have zcA:=zcO.s7;clear zcO;have gcO:=oG4;have gcfA:=gcO.f;have gc0:=gcO.c0;have gc1:=gcO.c1;have gc2:=gcO.c2;have gc3:=gcO.c3;have gc4:=gcO.c4;have gc5:=gcO.c5;have gc6:=gcO.c6;have gc7:=gcO.c7;have gc8:=gcO.c8;have gc9:=gcO.c9;have gc10:=gcO.c10;have gc11:=gcO.c11;clear gcO;clear oG4 oB4 oZ4 hY4 M;go_wp2;exact bodyPost_ret (v:=T2 (.agg #[I 0,I 0,I 0,I 0,I 0,I 0,I 0]) (I 20)) (by simp [results,Tryz.results70,go_sem, *];try omega) rfl (⟨rfl,(by repeat first | with_reducible assumption | with_reducible refine Chg.set ?_ _ _ | with_reducible refine Chg.setNew ?_ _ _ (by omega) _ | with_reducible refine Chg.drewN ?_ _ | with_reducible refine Chg.drw ?_)⟩)
end Go.Proofs.YtdjgcenjonegjaaGreat
