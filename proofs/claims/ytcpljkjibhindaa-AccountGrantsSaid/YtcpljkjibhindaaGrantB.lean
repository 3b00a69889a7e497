/- account.Grant: Grant_22 -/
import Derived.Test.YtcpljkjibhindaaGrantA
namespace Go.Proofs.Ytcpljkjibhindaa
open Go.RowKit
set_option maxRecDepth 20000

set_option maxHeartbeats 4000000 in
theorem Grant_22 (x1 x2 x3 x4 x5 x6 bo : Int) (v tv : Value) (xs ys : List ADebt) (ts : List AStep) (f b d m : Int) (w : World) (h : Sl w v 2 xs.length (xs.flatMap ADebt.cells)) (ht : Sl w tv 2 ts.length (ts.flatMap AStep.cells))
    (G : Hid (∀ W, Sl W v 2 xs.length (xs.flatMap ADebt.cells) → Sl W tv 2 ts.length (ts.flatMap AStep.cells) → Calls Try.prog 61 #[.agg #[I x1, I x2, I x3, I x4, I x5, I x6, v], .agg #[tv, I f, I b, I d, I 0]] W (GrewClerk ⟨x1, x2, x3, x4, x5, x6⟩ xs tv f b d 0 W)))
    (R : Hid (∀ W g u, Own W g (clerkC ⟨x1, x2, x3, x4, x5, x6⟩ u tv f b d 0) → Sl W u 2 xs.length (xs.flatMap ADebt.cells) → Far g u → Calls Try.prog 62 #[.pointer (some ⟨g, 0, none⟩), I m] W (fun e w' => ∃ v', e = .returned (I 0) ∧ Own w' g (clerkC ⟨x1, x2, x3, m, bo, x6⟩ v' tv f b d 0) ∧ Sl w' v' 2 ys.length (ys.flatMap ADebt.cells) ∧ Far g v' ∧ (∀ B, B ≤ W.heap.size → FarB B u → FarB B v') ∧ Chg g W w'))) :
    Calls Try.prog 40 #[.agg #[I x1, I x2, I x3, I x4, I x5, I x6, v], .agg #[tv, I f, I b, I d, I 0], I m] w (GrewAccBF ⟨0, 0, 0, 0, 0, 0⟩ [] ⟨0, 0, 0, 0, 0, 0, 0⟩ 22 w) := by
  unfold GrewAccBF
  unfold GrewClerk at G
  simp only at *
  have hb1 := boxed_below w (.cells #[I x1, I x2, I x3, I x4, I x5, I x6, v] 39)
  have hb2 := hb1.alloc hb1.size (.cells #[tv, I f, I b, I d, I 0] 55)
  have hb3 := hb2.alloc hb2.size (.cells #[I 0, I 0, I 0, I 0, I 0, I 0, .slice none 0 0] 39)
  have kB := hb3.alloc hb3.size (.cells #[I 0, I 0, I 0, I 0, I 0, I 0, I 0] 50)
  have hS := h.below kB
  have tS := ht.below kB
  have ot := ((Own.new (w := w.alloc (.cells #[I x1, I x2, I x3, I x4, I x5, I x6, v] 39)) (g := w.heap.size + 1) (by simp) [tv, I f, I b, I d, I 0] 55).alloc (.cells #[I 0, I 0, I 0, I 0, I 0, I 0, .slice none 0 0] 39)).alloc (.cells #[I 0, I 0, I 0, I 0, I 0, I 0, I 0] 50)
  have oz := (Own.new (w := (w.alloc (.cells #[I x1, I x2, I x3, I x4, I x5, I x6, v] 39)).alloc (.cells #[tv, I f, I b, I d, I 0] 55)) (g := w.heap.size + 2) (by simp) [I 0, I 0, I 0, I 0, I 0, I 0, .slice none 0 0] 39).alloc (.cells #[I 0, I 0, I 0, I 0, I 0, I 0, I 0] 50)
  have oy := Own.new (w := ((w.alloc (.cells #[I x1, I x2, I x3, I x4, I x5, I x6, v] 39)).alloc (.cells #[tv, I f, I b, I d, I 0] 55)).alloc (.cells #[I 0, I 0, I 0, I 0, I 0, I 0, .slice none 0 0] 39)) (g := w.heap.size + 3) (by simp) [I 0, I 0, I 0, I 0, I 0, I 0, I 0] 50
  clear hb1 hb2 hb3
  obtain ⟨a, cap, rfl, -⟩ := h
  obtain ⟨ta, tcap, rfl, -⟩ := ht
  go_enter Try.func40, Try.ntmps40
  go_wp2_with fail
  refine (G.out _ hS tS).mono ?_
  rintro e w1 ⟨g, u, rfl, hg, hO, hS1, hF, hFB, k1⟩
  have oz1 := oz.below k1
  have oy1 := oy.below k1
  have ot1 := ot.below k1
  have k := kB.trans (k1.mono kB.size)
  have hg2 : w.heap.size + 4 ≤ g := by have := hg; simp at this; omega
  have hk1s := k1.size
  clear k1 kB oz oy ot hS tS G hg
  go_wp2_with fail
  refine (R.out _ _ _ hO hS1 hF).mono ?_
  rintro e w2 ⟨v', rfl, hO2, hS2, hF2, hB2, cg⟩
  have hfz : Far (w.heap.size + 2) v' := (hB2 _ hk1s hFB).far (by first | (simp; done) | (simp; omega))
  have hfy : Far (w.heap.size + 3) v' := (hB2 _ hk1s hFB).far (by first | (simp; done) | (simp; omega))
  have hO3 : Own w2 g [I x1, I x2, I x3, I m, I bo, I x6, v', .slice ta ts.length tcap, I f, I b, I d, I 0] := hO2
  have kk := cg.below k (by omega) k.size
  have HFB := Lib.hid ((hB2 _ hk1s hFB).mono1 (show w.heap.size ≤ _ by first | (simp; done) | (simp; omega)))
  have hS3 := hS2
  obtain ⟨a', cap', rfl, -⟩ := hS2
  have cO := hO3
  have c0 := cO.cell 0 (by simp)
  have cf0 := cO.frozen 0
  have c1 := cO.cell 1 (by simp)
  have cf1 := cO.frozen 1
  have c2 := cO.cell 2 (by simp)
  have cf2 := cO.frozen 2
  have c3 := cO.cell 3 (by simp)
  have cf3 := cO.frozen 3
  have c4 := cO.cell 4 (by simp)
  have cf4 := cO.frozen 4
  have c5 := cO.cell 5 (by simp)
  have cf5 := cO.frozen 5
  have c6 := cO.cell 6 (by simp)
  have cf6 := cO.frozen 6
  simp only [Nat.zero_add, List.getD_cons_zero, List.getD_cons_succ] at c0 c1 c2 c3 c4 c5 c6
  clear cO
  have zO := oz1.chg cg (by omega)
  have z0 := zO.cell 0 (by simp)
  have zf0 := zO.frozen 0
  have z1 := zO.cell 1 (by simp)
  have zf1 := zO.frozen 1
  have z2 := zO.cell 2 (by simp)
  have zf2 := zO.frozen 2
  have z3 := zO.cell 3 (by simp)
  have zf3 := zO.frozen 3
  have z4 := zO.cell 4 (by simp)
  have zf4 := zO.frozen 4
  have z5 := zO.cell 5 (by simp)
  have zf5 := zO.frozen 5
  have z6 := zO.cell 6 (by simp)
  have zf6 := zO.frozen 6
  simp only [Nat.zero_add, List.getD_cons_zero, List.getD_cons_succ] at z0 z1 z2 z3 z4 z5 z6
  clear zO
  have yO := oy1.chg cg (by omega)
  have y0 := yO.cell 0 (by simp)
  have yf0 := yO.frozen 0
  have y1 := yO.cell 1 (by simp)
  have yf1 := yO.frozen 1
  have y2 := yO.cell 2 (by simp)
  have yf2 := yO.frozen 2
  have y3 := yO.cell 3 (by simp)
  have yf3 := yO.frozen 3
  have y4 := yO.cell 4 (by simp)
  have yf4 := yO.frozen 4
  have y5 := yO.cell 5 (by simp)
  have yf5 := yO.frozen 5
  have y6 := yO.cell 6 (by simp)
  have yf6 := yO.frozen 6
  simp only [Nat.zero_add, List.getD_cons_zero, List.getD_cons_succ] at y0 y1 y2 y3 y4 y5 y6
  clear yO
  have tO := ot1.chg cg (by omega)
  have t0 := tO.cell 0 (by simp)
  have tf0 := tO.frozen 0
  have t1 := tO.cell 1 (by simp)
  have tf1 := tO.frozen 1
  have t2 := tO.cell 2 (by simp)
  have tf2 := tO.frozen 2
  have t3 := tO.cell 3 (by simp)
  have tf3 := tO.frozen 3
  have t4 := tO.cell 4 (by simp)
  have tf4 := tO.frozen 4
  simp only [Nat.zero_add, List.getD_cons_zero, List.getD_cons_succ] at t0 t1 t2 t3 t4
  clear tO
  clear t0 t1 t2 t3 tf0 tf1 tf2 tf3 tf4 cf0 cf1 cf3 cf4 cf6
  have hne2 : ¬ g = w.heap.size + 2 := by omega
  have hne3 : ¬ g = w.heap.size + 3 := by omega
  have hne1 : ¬ g = w.heap.size + 1 := by omega
  have HS := Lib.hid hS3
  have HFg := Lib.hid hF2
  have HFz := Lib.hid hfz
  have HFy := Lib.hid hfy
  clear hO2 hO3 hS3 hF2 hB2 cg k oz1 oy1 ot1 hO hS1 hF hFB R hfz hfy
  have r1 := set_same
  have r2 := set_off
  have r3 := set_blk
  clear c0 c1 c3 c4 c6 cf2 cf5
  go_wp2
  exact bodyPost_ret (v := T3 (.agg #[I 0, I 0, I 0, I 0, I 0, I 0, .slice none 0 0]) (.agg #[I 0, I 0, I 0, I 0, I 0, I 0, I 0]) (I 22)) (by simp [results, Try.results40, go_sem, *]; try omega) rfl (⟨_, rfl, Sl.nil _ _, (by repeat first | with_reducible assumption | with_reducible exact Below.refl _ _ | with_reducible refine Below.setCell ?_ (by first | exact Nat.le_refl _ | exact Below.size (by assumption) | (simp; done) | (simp; omega) | omega) _ | with_reducible refine Below.alloc ?_ (by first | exact Nat.le_refl _ | exact Below.size (by assumption) | (simp; done) | (simp; omega) | omega) _ | with_reducible refine drewN_below ?_ _ | with_reducible refine Below.drew ?_), FarB.nil _ _ _⟩)

end Go.Proofs.Ytcpljkjibhindaa
