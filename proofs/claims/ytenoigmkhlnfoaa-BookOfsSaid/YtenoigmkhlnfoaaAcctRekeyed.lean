/- ref.Rekeyed -/
import Derived.Test.YtenoigmkhlnfoaaPk08
import Derived.Deep.RegionHeld3
namespace Go.Proofs.Ytenoigmkhlnfoaa
set_option linter.unusedSimpArgs false
set_option linter.unusedVariables false
open Go.RowKit
set_option maxRecDepth 20000
set_option maxHeartbeats 6000000 in
theorem Rekeyed_f (x : AAcc) (v : Value) (xs : List ADebt) (w : World) (h : Sl w v 2 xs.length (xs.flatMap ADebt.cells)) :
    Calls Try.prog 65 #[.agg #[I x.meter, I x.rev, I x.next, I x.month, I x.bought, I x.free, v]] w (GrewAccBF (rekeyX x xs) (rekeyL x xs) (rekeyB x xs) (rekeyE x xs) w) := by
  have M := Lib.hid (fun W (hW : Sl W v 2 xs.length (xs.flatMap ADebt.cells)) => AccountMay_any x v xs W hW)
  have C := Lib.hid (fun W (hW : Sl W v 2 xs.length (xs.flatMap ADebt.cells)) h8 => AccountCopy_any x v xs W hW h8)
  obtain ⟨x1, x2, x3, x4, x5, x6⟩ := x
  simp only [GrewAccO] at *
  have hb1 := boxed_below w (.cells #[I x1, I x2, I x3, I x4, I x5, I x6, v] 79)
  have hb2 := hb1.alloc hb1.size (.cells #[I 0, I 0, I 0, I 0, I 0, I 0, .slice none 0 0] 79)
  have hb := hb2.alloc hb2.size (.cells #[I 0, I 0, I 0, I 0, I 0, I 0, I 0] 70)
  have h1 := h.below hb
  have h' := h
  obtain ⟨a, cap, rfl, -⟩ := h'
  clear hb1 hb2
  cases c0 : accMay ⟨x1, x2, x3, x4, x5, x6⟩ xs
  · obtain ⟨q1, q2, q3, q4⟩ := rekey_err (x := ⟨x1, x2, x3, x4, x5, x6⟩) (xs := xs) 5 (by unfold rekeyE; rw [c0]; simp []) (by decide)
    rw [q1, q2, q3, q4]
    clear q1 q2 q3 q4
    rw [c0] at M
    clear c0 h C
    go_enter Try.func65, Try.ntmps65
    go_wp2_with fail
    refine (M.out _ h1).mono ?_
    rintro e w1 ⟨rfl, k1⟩
    have oc := (((Own.new (w := w) rfl [I x1, I x2, I x3, I x4, I x5, I x6, .slice a xs.length cap] 79).alloc (.cells #[I 0, I 0, I 0, I 0, I 0, I 0, .slice none 0 0] 79)).alloc (.cells #[I 0, I 0, I 0, I 0, I 0, I 0, I 0] 70)).below k1
    have oz := ((Own.new (w := (w.alloc (.cells #[I x1, I x2, I x3, I x4, I x5, I x6, .slice a xs.length cap] 79))) (g := w.heap.size + 1) (by simp) [I 0, I 0, I 0, I 0, I 0, I 0, .slice none 0 0] 79).alloc (.cells #[I 0, I 0, I 0, I 0, I 0, I 0, I 0] 70)).below k1
    have oy := (Own.new (w := (w.alloc (.cells #[I x1, I x2, I x3, I x4, I x5, I x6, .slice a xs.length cap] 79)).alloc (.cells #[I 0, I 0, I 0, I 0, I 0, I 0, .slice none 0 0] 79)) (g := w.heap.size + 2) (by simp) [I 0, I 0, I 0, I 0, I 0, I 0, I 0] 70).below k1
    have cO := oc
    obtain ⟨⟨c0, cf0⟩, ⟨c1, cf1⟩, ⟨c2, cf2⟩, ⟨c3, cf3⟩, ⟨c4, cf4⟩, ⟨c5, cf5⟩, ⟨c6, cf6⟩, -⟩ := cO.a7
    simp only [Nat.zero_add, List.getD_cons_zero, List.getD_cons_succ] at c0 c1 c2 c3 c4 c5 c6
    clear cO
    have yO := oy
    obtain ⟨⟨y0, yf0⟩, ⟨y1, yf1⟩, ⟨y2, yf2⟩, ⟨y3, yf3⟩, ⟨y4, yf4⟩, ⟨y5, yf5⟩, ⟨y6, yf6⟩, -⟩ := yO.a7
    simp only [Nat.zero_add, List.getD_cons_zero, List.getD_cons_succ] at y0 y1 y2 y3 y4 y5 y6
    clear yO
    have zO := oz
    obtain ⟨⟨z0, zf0⟩, ⟨z1, zf1⟩, ⟨z2, zf2⟩, ⟨z3, zf3⟩, ⟨z4, zf4⟩, ⟨z5, zf5⟩, ⟨z6, zf6⟩, -⟩ := zO.a7
    simp only [Nat.zero_add, List.getD_cons_zero, List.getD_cons_succ] at z0 z1 z2 z3 z4 z5 z6
    clear zO
    have k := hb.trans (k1.mono hb.size)
    have hzw : w.heap.size + 3 ≤ w1.heap.size := by have := k1.size; simp at this; omega
    clear k1 hb h1
    have r1 := set_same
    have r2 := set_off
    have r3 := set_blk
    go_wp2
    exact bodyPost_ret (v := T3 (.agg #[I 0, I 0, I 0, I 0, I 0, I 0, .slice none 0 0]) (.agg #[I 0, I 0, I 0, I 0, I 0, I 0, I 0]) (I 5)) (by simp [results, Try.results65, go_sem, *]; try omega) rfl (⟨_, rfl, Sl.nil _ _, (by repeat first | with_reducible assumption | with_reducible exact Below.refl _ _ | with_reducible refine Below.setCell ?_ (by first | exact Nat.le_refl _ | exact Below.size (by assumption) | (simp; done) | (simp; omega) | omega) _ | with_reducible refine Below.alloc ?_ (by first | exact Nat.le_refl _ | exact Below.size (by assumption) | (simp; done) | (simp; omega) | omega) _ | with_reducible refine drewN_below ?_ _ | with_reducible refine Below.drew ?_), FarB.nil _ _ _⟩)
  · have h8 := accMay_len c0
    obtain ⟨-, -, b3, b4, b5, b6, -⟩ := accMay_bd c0
    simp only at b3 b4 b5 b6
    by_cases c1 : x2 = 15
    · obtain ⟨q1, q2, q3, q4⟩ := rekey_err (x := ⟨x1, x2, x3, x4, x5, x6⟩) (xs := xs) 24 (by unfold rekeyE; rw [c0]; simp [c1]) (by decide)
      rw [q1, q2, q3, q4]
      clear q1 q2 q3 q4
      have c1b : 15 ≤ x2 := by omega
      rw [c0] at M
      clear c0 h h8 c1 C
      go_enter Try.func65, Try.ntmps65
      go_wp2_with fail
      refine (M.out _ h1).mono ?_
      rintro e w1 ⟨rfl, k1⟩
      have oc := (((Own.new (w := w) rfl [I x1, I x2, I x3, I x4, I x5, I x6, .slice a xs.length cap] 79).alloc (.cells #[I 0, I 0, I 0, I 0, I 0, I 0, .slice none 0 0] 79)).alloc (.cells #[I 0, I 0, I 0, I 0, I 0, I 0, I 0] 70)).below k1
      have oz := ((Own.new (w := (w.alloc (.cells #[I x1, I x2, I x3, I x4, I x5, I x6, .slice a xs.length cap] 79))) (g := w.heap.size + 1) (by simp) [I 0, I 0, I 0, I 0, I 0, I 0, .slice none 0 0] 79).alloc (.cells #[I 0, I 0, I 0, I 0, I 0, I 0, I 0] 70)).below k1
      have oy := (Own.new (w := (w.alloc (.cells #[I x1, I x2, I x3, I x4, I x5, I x6, .slice a xs.length cap] 79)).alloc (.cells #[I 0, I 0, I 0, I 0, I 0, I 0, .slice none 0 0] 79)) (g := w.heap.size + 2) (by simp) [I 0, I 0, I 0, I 0, I 0, I 0, I 0] 70).below k1
      have cO := oc
      obtain ⟨⟨c0, cf0⟩, ⟨c1, cf1⟩, ⟨c2, cf2⟩, ⟨c3, cf3⟩, ⟨c4, cf4⟩, ⟨c5, cf5⟩, ⟨c6, cf6⟩, -⟩ := cO.a7
      simp only [Nat.zero_add, List.getD_cons_zero, List.getD_cons_succ] at c0 c1 c2 c3 c4 c5 c6
      clear cO
      have yO := oy
      obtain ⟨⟨y0, yf0⟩, ⟨y1, yf1⟩, ⟨y2, yf2⟩, ⟨y3, yf3⟩, ⟨y4, yf4⟩, ⟨y5, yf5⟩, ⟨y6, yf6⟩, -⟩ := yO.a7
      simp only [Nat.zero_add, List.getD_cons_zero, List.getD_cons_succ] at y0 y1 y2 y3 y4 y5 y6
      clear yO
      have zO := oz
      obtain ⟨⟨z0, zf0⟩, ⟨z1, zf1⟩, ⟨z2, zf2⟩, ⟨z3, zf3⟩, ⟨z4, zf4⟩, ⟨z5, zf5⟩, ⟨z6, zf6⟩, -⟩ := zO.a7
      simp only [Nat.zero_add, List.getD_cons_zero, List.getD_cons_succ] at z0 z1 z2 z3 z4 z5 z6
      clear zO
      have k := hb.trans (k1.mono hb.size)
      have hzw : w.heap.size + 3 ≤ w1.heap.size := by have := k1.size; simp at this; omega
      clear k1 hb h1
      have r1 := set_same
      have r2 := set_off
      have r3 := set_blk
      go_wp2
      exact bodyPost_ret (v := T3 (.agg #[I 0, I 0, I 0, I 0, I 0, I 0, .slice none 0 0]) (.agg #[I 0, I 0, I 0, I 0, I 0, I 0, I 0]) (I 24)) (by simp [results, Try.results65, go_sem, *]; try omega) rfl (⟨_, rfl, Sl.nil _ _, (by repeat first | with_reducible assumption | with_reducible exact Below.refl _ _ | with_reducible refine Below.setCell ?_ (by first | exact Nat.le_refl _ | exact Below.size (by assumption) | (simp; done) | (simp; omega) | omega) _ | with_reducible refine Below.alloc ?_ (by first | exact Nat.le_refl _ | exact Below.size (by assumption) | (simp; done) | (simp; omega) | omega) _ | with_reducible refine drewN_below ?_ _ | with_reducible refine Below.drew ?_), FarB.nil _ _ _⟩)
    have c1b : ¬ 15 ≤ x2 := by omega
    by_cases c2 : x3 = 1048576
    · obtain ⟨q1, q2, q3, q4⟩ := rekey_err (x := ⟨x1, x2, x3, x4, x5, x6⟩) (xs := xs) 20 (by unfold rekeyE; rw [c0]; simp [c1, c2]) (by decide)
      rw [q1, q2, q3, q4]
      clear q1 q2 q3 q4
      have c2b : (x3 == 1048576) = true := by simp [c2]
      rw [c0] at M
      clear c0 h h8 c1 c2 C
      go_enter Try.func65, Try.ntmps65
      go_wp2_with fail
      refine (M.out _ h1).mono ?_
      rintro e w1 ⟨rfl, k1⟩
      have oc := (((Own.new (w := w) rfl [I x1, I x2, I x3, I x4, I x5, I x6, .slice a xs.length cap] 79).alloc (.cells #[I 0, I 0, I 0, I 0, I 0, I 0, .slice none 0 0] 79)).alloc (.cells #[I 0, I 0, I 0, I 0, I 0, I 0, I 0] 70)).below k1
      have oz := ((Own.new (w := (w.alloc (.cells #[I x1, I x2, I x3, I x4, I x5, I x6, .slice a xs.length cap] 79))) (g := w.heap.size + 1) (by simp) [I 0, I 0, I 0, I 0, I 0, I 0, .slice none 0 0] 79).alloc (.cells #[I 0, I 0, I 0, I 0, I 0, I 0, I 0] 70)).below k1
      have oy := (Own.new (w := (w.alloc (.cells #[I x1, I x2, I x3, I x4, I x5, I x6, .slice a xs.length cap] 79)).alloc (.cells #[I 0, I 0, I 0, I 0, I 0, I 0, .slice none 0 0] 79)) (g := w.heap.size + 2) (by simp) [I 0, I 0, I 0, I 0, I 0, I 0, I 0] 70).below k1
      have cO := oc
      obtain ⟨⟨c0, cf0⟩, ⟨c1, cf1⟩, ⟨c2, cf2⟩, ⟨c3, cf3⟩, ⟨c4, cf4⟩, ⟨c5, cf5⟩, ⟨c6, cf6⟩, -⟩ := cO.a7
      simp only [Nat.zero_add, List.getD_cons_zero, List.getD_cons_succ] at c0 c1 c2 c3 c4 c5 c6
      clear cO
      have yO := oy
      obtain ⟨⟨y0, yf0⟩, ⟨y1, yf1⟩, ⟨y2, yf2⟩, ⟨y3, yf3⟩, ⟨y4, yf4⟩, ⟨y5, yf5⟩, ⟨y6, yf6⟩, -⟩ := yO.a7
      simp only [Nat.zero_add, List.getD_cons_zero, List.getD_cons_succ] at y0 y1 y2 y3 y4 y5 y6
      clear yO
      have zO := oz
      obtain ⟨⟨z0, zf0⟩, ⟨z1, zf1⟩, ⟨z2, zf2⟩, ⟨z3, zf3⟩, ⟨z4, zf4⟩, ⟨z5, zf5⟩, ⟨z6, zf6⟩, -⟩ := zO.a7
      simp only [Nat.zero_add, List.getD_cons_zero, List.getD_cons_succ] at z0 z1 z2 z3 z4 z5 z6
      clear zO
      have k := hb.trans (k1.mono hb.size)
      have hzw : w.heap.size + 3 ≤ w1.heap.size := by have := k1.size; simp at this; omega
      clear k1 hb h1
      have r1 := set_same
      have r2 := set_off
      have r3 := set_blk
      go_wp2
      exact bodyPost_ret (v := T3 (.agg #[I 0, I 0, I 0, I 0, I 0, I 0, .slice none 0 0]) (.agg #[I 0, I 0, I 0, I 0, I 0, I 0, I 0]) (I 20)) (by simp [results, Try.results65, go_sem, *]; try omega) rfl (⟨_, rfl, Sl.nil _ _, (by repeat first | with_reducible assumption | with_reducible exact Below.refl _ _ | with_reducible refine Below.setCell ?_ (by first | exact Nat.le_refl _ | exact Below.size (by assumption) | (simp; done) | (simp; omega) | omega) _ | with_reducible refine Below.alloc ?_ (by first | exact Nat.le_refl _ | exact Below.size (by assumption) | (simp; done) | (simp; omega) | omega) _ | with_reducible refine drewN_below ?_ _ | with_reducible refine Below.drew ?_), FarB.nil _ _ _⟩)
    have c2b : (x3 == 1048576) = false := by simp [c2]
    obtain ⟨q1, q2, q3, q4⟩ := rekey_ok (x := ⟨x1, x2, x3, x4, x5, x6⟩) (xs := xs) (by unfold rekeyE; rw [c0]; simp [c1, c2])
    rw [q1, q2, q3, q4]
    clear q1 q2 q3 q4
    rw [c0] at M
    clear c0 c1 c2
    go_enter Try.func65, Try.ntmps65
    go_wp2_with fail
    refine (M.out _ h1).mono ?_
    rintro e w1 ⟨rfl, k1⟩
    have oc := (((Own.new (w := w) rfl [I x1, I x2, I x3, I x4, I x5, I x6, .slice a xs.length cap] 79).alloc (.cells #[I 0, I 0, I 0, I 0, I 0, I 0, .slice none 0 0] 79)).alloc (.cells #[I 0, I 0, I 0, I 0, I 0, I 0, I 0] 70)).below k1
    have oz := ((Own.new (w := (w.alloc (.cells #[I x1, I x2, I x3, I x4, I x5, I x6, .slice a xs.length cap] 79))) (g := w.heap.size + 1) (by simp) [I 0, I 0, I 0, I 0, I 0, I 0, .slice none 0 0] 79).alloc (.cells #[I 0, I 0, I 0, I 0, I 0, I 0, I 0] 70)).below k1
    have oy := (Own.new (w := (w.alloc (.cells #[I x1, I x2, I x3, I x4, I x5, I x6, .slice a xs.length cap] 79)).alloc (.cells #[I 0, I 0, I 0, I 0, I 0, I 0, .slice none 0 0] 79)) (g := w.heap.size + 2) (by simp) [I 0, I 0, I 0, I 0, I 0, I 0, I 0] 70).below k1
    have cO := oc
    obtain ⟨⟨c0, cf0⟩, ⟨c1, cf1⟩, ⟨c2, cf2⟩, ⟨c3, cf3⟩, ⟨c4, cf4⟩, ⟨c5, cf5⟩, ⟨c6, cf6⟩, -⟩ := cO.a7
    simp only [Nat.zero_add, List.getD_cons_zero, List.getD_cons_succ] at c0 c1 c2 c3 c4 c5 c6
    clear cO
    have yO := oy
    obtain ⟨⟨y0, yf0⟩, ⟨y1, yf1⟩, ⟨y2, yf2⟩, ⟨y3, yf3⟩, ⟨y4, yf4⟩, ⟨y5, yf5⟩, ⟨y6, yf6⟩, -⟩ := yO.a7
    simp only [Nat.zero_add, List.getD_cons_zero, List.getD_cons_succ] at y0 y1 y2 y3 y4 y5 y6
    clear yO
    have zO := oz
    obtain ⟨⟨z0, zf0⟩, ⟨z1, zf1⟩, ⟨z2, zf2⟩, ⟨z3, zf3⟩, ⟨z4, zf4⟩, ⟨z5, zf5⟩, ⟨z6, zf6⟩, -⟩ := zO.a7
    simp only [Nat.zero_add, List.getD_cons_zero, List.getD_cons_succ] at z0 z1 z2 z3 z4 z5 z6
    clear zO
    have k := hb.trans (k1.mono hb.size)
    have hzw : w.heap.size + 3 ≤ w1.heap.size := by have := k1.size; simp at this; omega
    clear k1 hb h1
    have r1 := set_same
    have r2 := set_off
    have r3 := set_blk
    have h2 := Lib.hid (h.below k)
    clear h M
    go_wp2_with fail
    refine (C.out _ h2.out h8).mono ?_
    rintro e w2 ⟨v', rfl, hown, k2⟩
    have hS := Sl.of_owns hown (by omega)
    obtain ⟨a2, cap2, rfl, -⟩ := hS
    have hsz := k2.size
    have hlt := hown.lt
    have kk := k.trans (k2.mono k.size)
    clear C c0 c1 c2 c3 c4 c5 c6 cf0 cf1 cf2 cf3 cf4 cf5 cf6 z0 z1 z2 z3 z4 z5 z6 zf0 zf1 zf2 zf3 zf4 zf5 zf6 y0 y1 y2 y3 y4 y5 y6 yf0 yf1 yf2 yf3 yf4 yf5 yf6
    have cO := oc.below k2
    obtain ⟨⟨c0, cf0⟩, ⟨c1, cf1⟩, ⟨c2, cf2⟩, ⟨c3, cf3⟩, ⟨c4, cf4⟩, ⟨c5, cf5⟩, ⟨c6, cf6⟩, -⟩ := cO.a7
    simp only [Nat.zero_add, List.getD_cons_zero, List.getD_cons_succ] at c0 c1 c2 c3 c4 c5 c6
    clear cO
    have zO := oz.below k2
    obtain ⟨⟨z0, zf0⟩, ⟨z1, zf1⟩, ⟨z2, zf2⟩, ⟨z3, zf3⟩, ⟨z4, zf4⟩, ⟨z5, zf5⟩, ⟨z6, zf6⟩, -⟩ := zO.a7
    simp only [Nat.zero_add, List.getD_cons_zero, List.getD_cons_succ] at z0 z1 z2 z3 z4 z5 z6
    clear zO
    have yO := oy.below k2
    obtain ⟨⟨y0, yf0⟩, ⟨y1, yf1⟩, ⟨y2, yf2⟩, ⟨y3, yf3⟩, ⟨y4, yf4⟩, ⟨y5, yf5⟩, ⟨y6, yf6⟩, -⟩ := yO.a7
    simp only [Nat.zero_add, List.getD_cons_zero, List.getD_cons_succ] at y0 y1 y2 y3 y4 y5 y6
    clear yO
    have hfA : Far w.heap.size (.slice a2 xs.length cap2) := fun a n c e => by cases e; have := (hlt _ rfl).1; omega
    have hfB : Far (w.heap.size + 1) (.slice a2 xs.length cap2) := fun a n c e => by cases e; have := (hlt _ rfl).1; omega
    have hfC : Far (w.heap.size + 1 + 1) (.slice a2 xs.length cap2) := fun a n c e => by cases e; have := (hlt _ rfl).1; omega
    have hfD : Far w2.heap.size (.slice a2 xs.length cap2) := fun a n c e => by cases e; have := (hlt _ rfl).2; omega
    have HFB := Lib.hid (show FarB w.heap.size (.slice a2 xs.length cap2) from fun a n c e => by cases e; have := (hlt _ rfl).1; omega)
    have HS := Lib.hid (Sl.of_owns hown (show xs.length ≤ 281474976710656 by omega))
    have n0 : w.heap.size < w2.heap.size := by omega
    have n1 : w.heap.size + 1 < w2.heap.size := by omega
    have n2 : w.heap.size + 1 + 1 < w2.heap.size := by omega
    have m0 : ¬ w.heap.size = w2.heap.size := by omega
    have m1 : ¬ w.heap.size + 1 = w2.heap.size := by omega
    have m2 : ¬ w.heap.size + 1 + 1 = w2.heap.size := by omega
    clear oc oz oy k k2 hown hlt
    go_wp2
    go_region
    all_goals
      go_wp2
      exact bodyPost_ret (v := T3 (.agg #[I x1, I (x2 + 1), I (x3 + 1), I x4, I x5, I x6, .slice a2 xs.length cap2]) (.agg #[I x3, I 0, I 0, I 0, I 0, I 0, I 0]) (I 0)) (by simp [results, Try.results65, go_sem, *]; try omega) rfl (⟨_, rfl, (by repeat (first | with_reducible exact HS.out | with_reducible refine Sl.set ?_ (by assumption) _ | with_reducible refine Sl.drew ?_ | with_reducible refine Sl.below ?_ (boxed_below _ _))), (by repeat first | with_reducible assumption | with_reducible exact Below.refl _ _ | with_reducible refine Below.setCell ?_ (by first | exact Nat.le_refl _ | exact Below.size (by assumption) | (simp; done) | (simp; omega) | omega) _ | with_reducible refine Below.alloc ?_ (by first | exact Nat.le_refl _ | exact Below.size (by assumption) | (simp; done) | (simp; omega) | omega) _ | with_reducible refine drewN_below ?_ _ | with_reducible refine Below.drew ?_), HFB.out⟩)
end Go.Proofs.Ytenoigmkhlnfoaa
