/- ref.Granted: 0 -/
import Derived.Test.YtcpljkjibhindaaGrantA
import Derived.Test.YtcpljkjibhindaaAcctRolled
namespace Go.Proofs.Ytcpljkjibhindaa
open Go.RowKit
set_option maxRecDepth 20000

set_option maxHeartbeats 4000000 in
theorem Granted_ok (x1 x2 x3 x4 x5 x6 bo f b d al m : Int) (v tv : Value) (xs ys : List ADebt) (ts : List AStep) (w : World) (h : Sl w v 2 xs.length (xs.flatMap ADebt.cells)) (ht : Sl w tv 2 ts.length (ts.flatMap AStep.cells))
    (M : Hid (∀ W, Sl W v 2 xs.length (xs.flatMap ADebt.cells) → Calls Try.prog 59 #[.agg #[I x1, I x2, I x3, I x4, I x5, I x6, v]] W (Grew (.bool true) W)))
    (F : Hid (∀ W, Sl W tv 2 ts.length (ts.flatMap AStep.cells) → Calls Try.prog 36 #[.agg #[tv, I f, I b, I d, I al]] W (Grew (I 0) W)))
    (R : Hid (∀ W, Sl W v 2 xs.length (xs.flatMap ADebt.cells) → Calls Try.prog 39 #[.agg #[I x1, I x2, I x3, I x4, I x5, I x6, v], I m] W (GrewAccF ⟨x1, x2, x3, m, bo, x6⟩ ys 0 W))) (q1 : ¬ al = 0) (q2 : ¬ x6 = m) (q3 : ¬ x3 = 1048576) (q0 : 1 ≤ x3) (q4 : x3 ≤ 1048576) :
    Calls Try.prog 41 #[.agg #[I x1, I x2, I x3, I x4, I x5, I x6, v], .agg #[tv, I f, I b, I d, I al], I m] w (GrewAccB ⟨x1, x2, x3 + 1, m, bo, m⟩ ys ⟨x3, 0, 0, 0, 0, 0, al⟩ 0 w) := by
  unfold GrewAccB
  (try unfold GrewAccF at *)
  simp only at *
  have hb1 := boxed_below w (.cells #[I x1, I x2, I x3, I x4, I x5, I x6, v] 39)
  have hb2 := hb1.alloc hb1.size (.cells #[tv, I f, I b, I d, I al] 55)
  have hb3 := hb2.alloc hb2.size (.cells #[I 0, I 0, I 0, I 0, I 0, I 0, .slice none 0 0] 39)
  have kB := hb3.alloc hb3.size (.cells #[I 0, I 0, I 0, I 0, I 0, I 0, I 0] 50)
  have hS := h.below kB
  have oa := (((Own.new (w := w) rfl [I x1, I x2, I x3, I x4, I x5, I x6, v] 39).alloc (.cells #[tv, I f, I b, I d, I al] 55)).alloc (.cells #[I 0, I 0, I 0, I 0, I 0, I 0, .slice none 0 0] 39)).alloc (.cells #[I 0, I 0, I 0, I 0, I 0, I 0, I 0] 50)
  have ot := ((Own.new (w := w.alloc (.cells #[I x1, I x2, I x3, I x4, I x5, I x6, v] 39)) (g := w.heap.size + 1) (by simp) [tv, I f, I b, I d, I al] 55).alloc (.cells #[I 0, I 0, I 0, I 0, I 0, I 0, .slice none 0 0] 39)).alloc (.cells #[I 0, I 0, I 0, I 0, I 0, I 0, I 0] 50)
  have oz := (Own.new (w := (w.alloc (.cells #[I x1, I x2, I x3, I x4, I x5, I x6, v] 39)).alloc (.cells #[tv, I f, I b, I d, I al] 55)) (g := w.heap.size + 2) (by simp) [I 0, I 0, I 0, I 0, I 0, I 0, .slice none 0 0] 39).alloc (.cells #[I 0, I 0, I 0, I 0, I 0, I 0, I 0] 50)
  have oy := Own.new (w := ((w.alloc (.cells #[I x1, I x2, I x3, I x4, I x5, I x6, v] 39)).alloc (.cells #[tv, I f, I b, I d, I al] 55)).alloc (.cells #[I 0, I 0, I 0, I 0, I 0, I 0, .slice none 0 0] 39)) (g := w.heap.size + 3) (by simp) [I 0, I 0, I 0, I 0, I 0, I 0, I 0] 50
  clear hb1 hb2 hb3
  have h' := h
  have ht' := ht
  obtain ⟨a, cap, rfl, -⟩ := h
  obtain ⟨ta, tcap, rfl, -⟩ := ht
  go_enter Try.func41, Try.ntmps41
  go_wp2_with fail
  refine (M.out _ hS).mono ?_
  rintro e w1 ⟨rfl, k1⟩
  have oa1 := oa.below k1
  have ot1 := ot.below k1
  have oz1 := oz.below k1
  have oy1 := oy.below k1
  have kk1 := kB.trans (k1.mono kB.size)
  have hs1 : w.heap.size + 4 ≤ w1.heap.size := by have := k1.size; simp at this; omega
  have tS1 := ht'.below kk1
  clear oa ot oz oy kB k1 hS
  have r1 := set_same
  have r2 := set_off
  have r3 := set_blk
  have aO := oa1
  have a0 := aO.cell 0 (by simp)
  have af0 := aO.frozen 0
  have a1 := aO.cell 1 (by simp)
  have af1 := aO.frozen 1
  have a2 := aO.cell 2 (by simp)
  have af2 := aO.frozen 2
  have a3 := aO.cell 3 (by simp)
  have af3 := aO.frozen 3
  have a4 := aO.cell 4 (by simp)
  have af4 := aO.frozen 4
  have a5 := aO.cell 5 (by simp)
  have af5 := aO.frozen 5
  have a6 := aO.cell 6 (by simp)
  have af6 := aO.frozen 6
  simp only [Nat.zero_add, List.getD_cons_zero, List.getD_cons_succ] at a0 a1 a2 a3 a4 a5 a6
  clear aO
  have tO := ot1
  have t0 := tO.cell 0 (by simp)
  have tf0 := tO.frozen 0
  have t1 := tO.cell 1 (by simp)
  have tf1 := tO.frozen 1
  have t2 := tO.cell 2 (by simp)
  have tf2 := tO.frozen 2
  have t3 := tO.cell 3 (by simp)
  have tf3 := tO.frozen 3
  have t4 := tO.cell 4 (by simp)
  have tf4 := tO.frozen 4
  simp only [Nat.zero_add, List.getD_cons_zero, List.getD_cons_succ] at t0 t1 t2 t3 t4
  clear tO
  have zO := oz1
  have z0 := zO.cell 0 (by simp)
  have zf0 := zO.frozen 0
  have z1 := zO.cell 1 (by simp)
  have zf1 := zO.frozen 1
  have z2 := zO.cell 2 (by simp)
  have zf2 := zO.frozen 2
  have z3 := zO.cell 3 (by simp)
  have zf3 := zO.frozen 3
  have z4 := zO.cell 4 (by simp)
  have zf4 := zO.frozen 4
  have z5 := zO.cell 5 (by simp)
  have zf5 := zO.frozen 5
  have z6 := zO.cell 6 (by simp)
  have zf6 := zO.frozen 6
  simp only [Nat.zero_add, List.getD_cons_zero, List.getD_cons_succ] at z0 z1 z2 z3 z4 z5 z6
  clear zO
  have yO := oy1
  have y0 := yO.cell 0 (by simp)
  have yf0 := yO.frozen 0
  have y1 := yO.cell 1 (by simp)
  have yf1 := yO.frozen 1
  have y2 := yO.cell 2 (by simp)
  have yf2 := yO.frozen 2
  have y3 := yO.cell 3 (by simp)
  have yf3 := yO.frozen 3
  have y4 := yO.cell 4 (by simp)
  have yf4 := yO.frozen 4
  have y5 := yO.cell 5 (by simp)
  have yf5 := yO.frozen 5
  have y6 := yO.cell 6 (by simp)
  have yf6 := yO.frozen 6
  simp only [Nat.zero_add, List.getD_cons_zero, List.getD_cons_succ] at y0 y1 y2 y3 y4 y5 y6
  clear yO
  go_wp2_with fail
  refine (F.out _ tS1).mono ?_
  rintro e w2 ⟨rfl, k2⟩
  have oa2 := oa1.below k2
  have ot2 := ot1.below k2
  have oz2 := oz1.below k2
  have oy2 := oy1.below k2
  have kk2 := kk1.trans (k2.mono kk1.size)
  have hS2 := h'.below kk2
  have hs2 : w.heap.size + 4 ≤ w2.heap.size := by have := k2.size; omega
  clear a0 a1 a2 a3 a4 a5 a6 af0 af1 af2 af3 af4 af5 af6 t0 t1 t2 t3 t4 tf0 tf1 tf2 tf3 tf4 z0 z1 z2 z3 z4 z5 z6 zf0 zf1 zf2 zf3 zf4 zf5 zf6 y0 y1 y2 y3 y4 y5 y6 yf0 yf1 yf2 yf3 yf4 yf5 yf6
  clear oa1 ot1 oz1 oy1 kk1 k2 tS1
  have aO := oa2
  have a0 := aO.cell 0 (by simp)
  have af0 := aO.frozen 0
  have a1 := aO.cell 1 (by simp)
  have af1 := aO.frozen 1
  have a2 := aO.cell 2 (by simp)
  have af2 := aO.frozen 2
  have a3 := aO.cell 3 (by simp)
  have af3 := aO.frozen 3
  have a4 := aO.cell 4 (by simp)
  have af4 := aO.frozen 4
  have a5 := aO.cell 5 (by simp)
  have af5 := aO.frozen 5
  have a6 := aO.cell 6 (by simp)
  have af6 := aO.frozen 6
  simp only [Nat.zero_add, List.getD_cons_zero, List.getD_cons_succ] at a0 a1 a2 a3 a4 a5 a6
  clear aO
  have tO := ot2
  have t0 := tO.cell 0 (by simp)
  have tf0 := tO.frozen 0
  have t1 := tO.cell 1 (by simp)
  have tf1 := tO.frozen 1
  have t2 := tO.cell 2 (by simp)
  have tf2 := tO.frozen 2
  have t3 := tO.cell 3 (by simp)
  have tf3 := tO.frozen 3
  have t4 := tO.cell 4 (by simp)
  have tf4 := tO.frozen 4
  simp only [Nat.zero_add, List.getD_cons_zero, List.getD_cons_succ] at t0 t1 t2 t3 t4
  clear tO
  have zO := oz2
  have z0 := zO.cell 0 (by simp)
  have zf0 := zO.frozen 0
  have z1 := zO.cell 1 (by simp)
  have zf1 := zO.frozen 1
  have z2 := zO.cell 2 (by simp)
  have zf2 := zO.frozen 2
  have z3 := zO.cell 3 (by simp)
  have zf3 := zO.frozen 3
  have z4 := zO.cell 4 (by simp)
  have zf4 := zO.frozen 4
  have z5 := zO.cell 5 (by simp)
  have zf5 := zO.frozen 5
  have z6 := zO.cell 6 (by simp)
  have zf6 := zO.frozen 6
  simp only [Nat.zero_add, List.getD_cons_zero, List.getD_cons_succ] at z0 z1 z2 z3 z4 z5 z6
  clear zO
  have yO := oy2
  have y0 := yO.cell 0 (by simp)
  have yf0 := yO.frozen 0
  have y1 := yO.cell 1 (by simp)
  have yf1 := yO.frozen 1
  have y2 := yO.cell 2 (by simp)
  have yf2 := yO.frozen 2
  have y3 := yO.cell 3 (by simp)
  have yf3 := yO.frozen 3
  have y4 := yO.cell 4 (by simp)
  have yf4 := yO.frozen 4
  have y5 := yO.cell 5 (by simp)
  have yf5 := yO.frozen 5
  have y6 := yO.cell 6 (by simp)
  have yf6 := yO.frozen 6
  simp only [Nat.zero_add, List.getD_cons_zero, List.getD_cons_succ] at y0 y1 y2 y3 y4 y5 y6
  clear yO
  go_wp2_with fail
  refine (R.out _ hS2).mono ?_
  rintro e w3 ⟨u, rfl, hSu, k3, hFu⟩
  have hs3 : w.heap.size + 4 ≤ w3.heap.size := by have := k3.size; omega
  have hSu' := hSu
  obtain ⟨a', cap', rfl, -⟩ := hSu'
  have kA := boxed_below w3 (.cells #[I x1, I x2, I x3, I m, I bo, I x6, .slice a' ys.length cap'] 39)
  have oa3 := oa2.below k3
  have ot3 := ot2.below k3
  have oz3 := oz2.below k3
  have oy3 := oy2.below k3
  have kw3 := kk2.trans (k3.mono kk2.size)
  have kk3 := kw3.trans (kA.mono kw3.size)
  clear a0 a1 a2 a3 a4 a5 a6 af0 af1 af2 af3 af4 af5 af6 t0 t1 t2 t3 t4 tf0 tf1 tf2 tf3 tf4 z0 z1 z2 z3 z4 z5 z6 zf0 zf1 zf2 zf3 zf4 zf5 zf6 y0 y1 y2 y3 y4 y5 y6 yf0 yf1 yf2 yf3 yf4 yf5 yf6
  clear oa2 ot2 oz2 oy2 kk2 k3 kk3 hS2
  have aO := oa3
  have a0 := aO.cell 0 (by simp)
  have af0 := aO.frozen 0
  have a1 := aO.cell 1 (by simp)
  have af1 := aO.frozen 1
  have a2 := aO.cell 2 (by simp)
  have af2 := aO.frozen 2
  have a3 := aO.cell 3 (by simp)
  have af3 := aO.frozen 3
  have a4 := aO.cell 4 (by simp)
  have af4 := aO.frozen 4
  have a5 := aO.cell 5 (by simp)
  have af5 := aO.frozen 5
  have a6 := aO.cell 6 (by simp)
  have af6 := aO.frozen 6
  simp only [Nat.zero_add, List.getD_cons_zero, List.getD_cons_succ] at a0 a1 a2 a3 a4 a5 a6
  clear aO
  have tO := ot3
  have t0 := tO.cell 0 (by simp)
  have tf0 := tO.frozen 0
  have t1 := tO.cell 1 (by simp)
  have tf1 := tO.frozen 1
  have t2 := tO.cell 2 (by simp)
  have tf2 := tO.frozen 2
  have t3 := tO.cell 3 (by simp)
  have tf3 := tO.frozen 3
  have t4 := tO.cell 4 (by simp)
  have tf4 := tO.frozen 4
  simp only [Nat.zero_add, List.getD_cons_zero, List.getD_cons_succ] at t0 t1 t2 t3 t4
  clear tO
  have zO := oz3
  have z0 := zO.cell 0 (by simp)
  have zf0 := zO.frozen 0
  have z1 := zO.cell 1 (by simp)
  have zf1 := zO.frozen 1
  have z2 := zO.cell 2 (by simp)
  have zf2 := zO.frozen 2
  have z3 := zO.cell 3 (by simp)
  have zf3 := zO.frozen 3
  have z4 := zO.cell 4 (by simp)
  have zf4 := zO.frozen 4
  have z5 := zO.cell 5 (by simp)
  have zf5 := zO.frozen 5
  have z6 := zO.cell 6 (by simp)
  have zf6 := zO.frozen 6
  simp only [Nat.zero_add, List.getD_cons_zero, List.getD_cons_succ] at z0 z1 z2 z3 z4 z5 z6
  clear zO
  have yO := oy3
  have y0 := yO.cell 0 (by simp)
  have yf0 := yO.frozen 0
  have y1 := yO.cell 1 (by simp)
  have yf1 := yO.frozen 1
  have y2 := yO.cell 2 (by simp)
  have yf2 := yO.frozen 2
  have y3 := yO.cell 3 (by simp)
  have yf3 := yO.frozen 3
  have y4 := yO.cell 4 (by simp)
  have yf4 := yO.frozen 4
  have y5 := yO.cell 5 (by simp)
  have yf5 := yO.frozen 5
  have y6 := yO.cell 6 (by simp)
  have yf6 := yO.frozen 6
  simp only [Nat.zero_add, List.getD_cons_zero, List.getD_cons_succ] at y0 y1 y2 y3 y4 y5 y6
  clear yO
  have ra : ∀ (o : Obj) (g j : Nat), g < w3.heap.size → (w3.alloc o).cell? ⟨g, j, none⟩ = w3.cell? ⟨g, j, none⟩ := fun o g j h => (boxed_below w3 o).cell (p := ⟨g, j, none⟩) h
  have rb : ∀ (o : Obj) (g j : Nat), g < w3.heap.size → (w3.alloc o).frozen? ⟨g, j, none⟩ = w3.frozen? ⟨g, j, none⟩ := fun o g j h => (boxed_below w3 o).frozen (p := ⟨g, j, none⟩) h
  have hl0 : w.heap.size < w3.heap.size := by omega
  have hl1 : w.heap.size + 1 < w3.heap.size := by omega
  have hl2 : w.heap.size + 2 < w3.heap.size := by omega
  have hl3 : w.heap.size + 3 < w3.heap.size := by omega
  have hn0 : ¬ w.heap.size = w3.heap.size := by omega
  have hn1 : ¬ w.heap.size + 1 = w3.heap.size := by omega
  have hn2 : ¬ w.heap.size + 2 = w3.heap.size := by omega
  have hn3 : ¬ w.heap.size + 3 = w3.heap.size := by omega
  have hn4 : ¬ w3.heap.size = w.heap.size + 2 := by omega
  have hn5 : ¬ w3.heap.size = w.heap.size + 3 := by omega
  have hn6 : ¬ w3.heap.size = w.heap.size := by omega
  have hn7 : ¬ w3.heap.size = w.heap.size + 1 := by omega
  have hwx : IntKind.i64.wrap (x3 + 1) = x3 + 1 := wrap_small _ (by omega) (by omega)
  have HS := Lib.hid (hSu)
  have hF2 : Far (w.heap.size + 2) (.slice a' ys.length cap') := hFu.far (by omega)
  have hF3 : Far (w.heap.size + 3) (.slice a' ys.length cap') := hFu.far (by omega)
  have HF := Lib.hid (And.intro hF2 hF3)
  clear hF2 hF3 hFu hSu
  go_wp2
  go_region
  all_goals
    go_wp2
    obtain ⟨hf2, hf3⟩ := HF.out
    exact bodyPost_ret (v := T3 (.agg #[I x1, I x2, I (x3 + 1), I m, I bo, I m, .slice a' ys.length cap']) (.agg #[I x3, I 0, I 0, I 0, I 0, I 0, I al]) (I 0)) (by simp [results, Try.results41, go_sem, *]; try omega) rfl (⟨_, rfl, (by repeat (first | with_reducible refine Sl.set ?_ (by assumption) _ | with_reducible refine Sl.drew ?_ | with_reducible refine Sl.below ?_ (boxed_below _ _) | with_reducible exact HS.out)), (by repeat first | with_reducible assumption | with_reducible exact Below.refl _ _ | with_reducible refine Below.setCell ?_ (by first | exact Nat.le_refl _ | exact Below.size (by assumption) | (simp; done) | (simp; omega) | omega) _ | with_reducible refine Below.alloc ?_ (by first | exact Nat.le_refl _ | exact Below.size (by assumption) | (simp; done) | (simp; omega) | omega) _ | with_reducible refine drewN_below ?_ _ | with_reducible refine Below.drew ?_)⟩)
end Go.Proofs.Ytcpljkjibhindaa
