/- ref.Owes -/
import Derived.Test.YtenoigmkhlnfoaaAcctOwe
import Derived.Test.YtenoigmkhlnfoaaPk05
namespace Go.Proofs.Ytenoigmkhlnfoaa
set_option linter.unusedSimpArgs false
set_option linter.unusedVariables false
open Go.RowKit
set_option maxRecDepth 20000

set_option maxHeartbeats 2000000 in
theorem Owes_f (x : AAcc) (v : Value) (xs : List ADebt) (d : ADebt) (w : World) (h : Sl w v 2 xs.length (xs.flatMap ADebt.cells)) :
    Calls Try.prog 56 #[.agg #[I x.meter, I x.rev, I x.next, I x.month, I x.bought, I x.free, v], .agg #[I d.owed, I d.bp]] w (GrewAccF (oweX x xs d) (oweL x xs d) (oweE x xs d) w) := by
  obtain ⟨i0, hi, hz0, hz1, hz2⟩ := info_parts info_debts
  have M := Lib.hid (fun W (hW : Sl W v 2 xs.length (xs.flatMap ADebt.cells)) => AccountMay_any x v xs W hW)
  have C := Lib.hid (fun W (hW : Sl W v 2 xs.length (xs.flatMap ADebt.cells)) h8 => AccountCopy_any x v xs W hW h8)
  obtain ⟨x1, x2, x3, x4, x5, x6⟩ := x
  obtain ⟨d1, d2⟩ := d
  simp only [GrewAccO] at *
  have hb1 := boxed_below w (.cells #[I x1, I x2, I x3, I x4, I x5, I x6, v] 79)
  have hb2 := hb1.alloc hb1.size (.cells #[I d1, I d2] 60)
  have hb := hb2.alloc hb2.size (.cells #[I 0, I 0, I 0, I 0, I 0, I 0, .slice none 0 0] 79)
  have h1 := h.below hb
  have h' := h
  obtain ⟨a, cap, rfl, -⟩ := h'
  clear hb1 hb2
  cases c0 : accMay ⟨x1, x2, x3, x4, x5, x6⟩ xs
  · obtain ⟨q1, q2, q3⟩ := owe_err (x := ⟨x1, x2, x3, x4, x5, x6⟩) (xs := xs) (d := ⟨d1, d2⟩) 5 (by simp [oweE, c0]) (by decide)
    rw [q1, q2, q3]
    clear q1 q2 q3
    rw [c0] at M
    clear c0 h C
    go_enter Try.func56, Try.ntmps56
    go_wp2_with fail
    refine (M.out _ h1).mono ?_
    rintro e w1 ⟨rfl, k1⟩
    have oc := (((Own.new (w := w) rfl [I x1, I x2, I x3, I x4, I x5, I x6, .slice a xs.length cap] 79).alloc (.cells #[I d1, I d2] 60)).alloc (.cells #[I 0, I 0, I 0, I 0, I 0, I 0, .slice none 0 0] 79)).below k1
    have op := ((Own.new (w := w.alloc (.cells #[I x1, I x2, I x3, I x4, I x5, I x6, .slice a xs.length cap] 79)) (g := w.heap.size + 1) (by simp) [I d1, I d2] 60).alloc (.cells #[I 0, I 0, I 0, I 0, I 0, I 0, .slice none 0 0] 79)).below k1
    have oz := (Own.new (w := (w.alloc (.cells #[I x1, I x2, I x3, I x4, I x5, I x6, .slice a xs.length cap] 79)).alloc (.cells #[I d1, I d2] 60)) (g := w.heap.size + 2) (by simp) [I 0, I 0, I 0, I 0, I 0, I 0, .slice none 0 0] 79).below k1
    have cO := oc
    obtain ⟨⟨c0, cf0⟩, ⟨c1, cf1⟩, ⟨c2, cf2⟩, ⟨c3, cf3⟩, ⟨c4, cf4⟩, ⟨c5, cf5⟩, ⟨c6, cf6⟩, -⟩ := cO.a7
    simp only [Nat.zero_add, List.getD_cons_zero, List.getD_cons_succ] at c0 c1 c2 c3 c4 c5 c6
    clear cO
    have pO := op
    obtain ⟨⟨p0, pf0⟩, ⟨p1, pf1⟩, -⟩ := pO.a2
    simp only [Nat.zero_add, List.getD_cons_zero, List.getD_cons_succ] at p0 p1
    clear pO
    have zO := oz
    obtain ⟨⟨z0, zf0⟩, ⟨z1, zf1⟩, ⟨z2, zf2⟩, ⟨z3, zf3⟩, ⟨z4, zf4⟩, ⟨z5, zf5⟩, ⟨z6, zf6⟩, -⟩ := zO.a7
    simp only [Nat.zero_add, List.getD_cons_zero, List.getD_cons_succ] at z0 z1 z2 z3 z4 z5 z6
    clear zO
    have k := hb.trans (k1.mono hb.size)
    have hzw : w.heap.size + 3 ≤ w1.heap.size := by have := k1.size; simp at this; omega
    clear k1 hb h1
    have r1 := set_same
    have r2 := set_off
    have r3 := set_blk
    go_wp2_with (go_at_call 43; refine (In_any _ _ _ _).mono ?_; rintro e w' ⟨rfl, rfl⟩)
    exact bodyPost_ret (v := T2 (.agg #[I 0, I 0, I 0, I 0, I 0, I 0, .slice none 0 0]) (I 5)) (by simp [results, Try.results56, go_sem, *]; try omega) rfl (⟨_, rfl, Sl.nil _ _, (by repeat first | with_reducible assumption | with_reducible exact Below.refl _ _ | with_reducible refine Below.setCell ?_ (by first | exact Nat.le_refl _ | exact Below.size (by assumption) | (simp; done) | (simp; omega) | omega) _ | with_reducible refine Below.alloc ?_ (by first | exact Nat.le_refl _ | exact Below.size (by assumption) | (simp; done) | (simp; omega) | omega) _ | with_reducible refine drewN_below ?_ _ | with_reducible refine Below.drew ?_), FarB.nil _ _ _⟩)
  · have h8 := accMay_len c0
    cases c1 : inB d1 1 1000000000
    · obtain ⟨q1, q2, q3⟩ := owe_err (x := ⟨x1, x2, x3, x4, x5, x6⟩) (xs := xs) (d := ⟨d1, d2⟩) 2 (by simp [oweE, c0, c1]) (by decide)
      rw [q1, q2, q3]
      clear q1 q2 q3
      rw [c0] at M
      clear c0 h h8 C
      go_enter Try.func56, Try.ntmps56
      go_wp2_with fail
      refine (M.out _ h1).mono ?_
      rintro e w1 ⟨rfl, k1⟩
      have oc := (((Own.new (w := w) rfl [I x1, I x2, I x3, I x4, I x5, I x6, .slice a xs.length cap] 79).alloc (.cells #[I d1, I d2] 60)).alloc (.cells #[I 0, I 0, I 0, I 0, I 0, I 0, .slice none 0 0] 79)).below k1
      have op := ((Own.new (w := w.alloc (.cells #[I x1, I x2, I x3, I x4, I x5, I x6, .slice a xs.length cap] 79)) (g := w.heap.size + 1) (by simp) [I d1, I d2] 60).alloc (.cells #[I 0, I 0, I 0, I 0, I 0, I 0, .slice none 0 0] 79)).below k1
      have oz := (Own.new (w := (w.alloc (.cells #[I x1, I x2, I x3, I x4, I x5, I x6, .slice a xs.length cap] 79)).alloc (.cells #[I d1, I d2] 60)) (g := w.heap.size + 2) (by simp) [I 0, I 0, I 0, I 0, I 0, I 0, .slice none 0 0] 79).below k1
      have cO := oc
      obtain ⟨⟨c0, cf0⟩, ⟨c1, cf1⟩, ⟨c2, cf2⟩, ⟨c3, cf3⟩, ⟨c4, cf4⟩, ⟨c5, cf5⟩, ⟨c6, cf6⟩, -⟩ := cO.a7
      simp only [Nat.zero_add, List.getD_cons_zero, List.getD_cons_succ] at c0 c1 c2 c3 c4 c5 c6
      clear cO
      have pO := op
      obtain ⟨⟨p0, pf0⟩, ⟨p1, pf1⟩, -⟩ := pO.a2
      simp only [Nat.zero_add, List.getD_cons_zero, List.getD_cons_succ] at p0 p1
      clear pO
      have zO := oz
      obtain ⟨⟨z0, zf0⟩, ⟨z1, zf1⟩, ⟨z2, zf2⟩, ⟨z3, zf3⟩, ⟨z4, zf4⟩, ⟨z5, zf5⟩, ⟨z6, zf6⟩, -⟩ := zO.a7
      simp only [Nat.zero_add, List.getD_cons_zero, List.getD_cons_succ] at z0 z1 z2 z3 z4 z5 z6
      clear zO
      have k := hb.trans (k1.mono hb.size)
      have hzw : w.heap.size + 3 ≤ w1.heap.size := by have := k1.size; simp at this; omega
      clear k1 hb h1
      have r1 := set_same
      have r2 := set_off
      have r3 := set_blk
      go_wp2_with (go_at_call 43; refine (In_any _ _ _ _).mono ?_; rintro e w' ⟨rfl, rfl⟩)
      exact bodyPost_ret (v := T2 (.agg #[I 0, I 0, I 0, I 0, I 0, I 0, .slice none 0 0]) (I 2)) (by simp [results, Try.results56, go_sem, *]; try omega) rfl (⟨_, rfl, Sl.nil _ _, (by repeat first | with_reducible assumption | with_reducible exact Below.refl _ _ | with_reducible refine Below.setCell ?_ (by first | exact Nat.le_refl _ | exact Below.size (by assumption) | (simp; done) | (simp; omega) | omega) _ | with_reducible refine Below.alloc ?_ (by first | exact Nat.le_refl _ | exact Below.size (by assumption) | (simp; done) | (simp; omega) | omega) _ | with_reducible refine drewN_below ?_ _ | with_reducible refine Below.drew ?_), FarB.nil _ _ _⟩)
    cases c2 : inB d2 0 10000
    · obtain ⟨q1, q2, q3⟩ := owe_err (x := ⟨x1, x2, x3, x4, x5, x6⟩) (xs := xs) (d := ⟨d1, d2⟩) 2 (by simp [oweE, c0, c1, c2]) (by decide)
      rw [q1, q2, q3]
      clear q1 q2 q3
      rw [c0] at M
      clear c0 h h8 C
      go_enter Try.func56, Try.ntmps56
      go_wp2_with fail
      refine (M.out _ h1).mono ?_
      rintro e w1 ⟨rfl, k1⟩
      have oc := (((Own.new (w := w) rfl [I x1, I x2, I x3, I x4, I x5, I x6, .slice a xs.length cap] 79).alloc (.cells #[I d1, I d2] 60)).alloc (.cells #[I 0, I 0, I 0, I 0, I 0, I 0, .slice none 0 0] 79)).below k1
      have op := ((Own.new (w := w.alloc (.cells #[I x1, I x2, I x3, I x4, I x5, I x6, .slice a xs.length cap] 79)) (g := w.heap.size + 1) (by simp) [I d1, I d2] 60).alloc (.cells #[I 0, I 0, I 0, I 0, I 0, I 0, .slice none 0 0] 79)).below k1
      have oz := (Own.new (w := (w.alloc (.cells #[I x1, I x2, I x3, I x4, I x5, I x6, .slice a xs.length cap] 79)).alloc (.cells #[I d1, I d2] 60)) (g := w.heap.size + 2) (by simp) [I 0, I 0, I 0, I 0, I 0, I 0, .slice none 0 0] 79).below k1
      have cO := oc
      obtain ⟨⟨c0, cf0⟩, ⟨c1, cf1⟩, ⟨c2, cf2⟩, ⟨c3, cf3⟩, ⟨c4, cf4⟩, ⟨c5, cf5⟩, ⟨c6, cf6⟩, -⟩ := cO.a7
      simp only [Nat.zero_add, List.getD_cons_zero, List.getD_cons_succ] at c0 c1 c2 c3 c4 c5 c6
      clear cO
      have pO := op
      obtain ⟨⟨p0, pf0⟩, ⟨p1, pf1⟩, -⟩ := pO.a2
      simp only [Nat.zero_add, List.getD_cons_zero, List.getD_cons_succ] at p0 p1
      clear pO
      have zO := oz
      obtain ⟨⟨z0, zf0⟩, ⟨z1, zf1⟩, ⟨z2, zf2⟩, ⟨z3, zf3⟩, ⟨z4, zf4⟩, ⟨z5, zf5⟩, ⟨z6, zf6⟩, -⟩ := zO.a7
      simp only [Nat.zero_add, List.getD_cons_zero, List.getD_cons_succ] at z0 z1 z2 z3 z4 z5 z6
      clear zO
      have k := hb.trans (k1.mono hb.size)
      have hzw : w.heap.size + 3 ≤ w1.heap.size := by have := k1.size; simp at this; omega
      clear k1 hb h1
      have r1 := set_same
      have r2 := set_off
      have r3 := set_blk
      go_wp2_with (go_at_call 43; refine (In_any _ _ _ _).mono ?_; rintro e w' ⟨rfl, rfl⟩)
      exact bodyPost_ret (v := T2 (.agg #[I 0, I 0, I 0, I 0, I 0, I 0, .slice none 0 0]) (I 2)) (by simp [results, Try.results56, go_sem, *]; try omega) rfl (⟨_, rfl, Sl.nil _ _, (by repeat first | with_reducible assumption | with_reducible exact Below.refl _ _ | with_reducible refine Below.setCell ?_ (by first | exact Nat.le_refl _ | exact Below.size (by assumption) | (simp; done) | (simp; omega) | omega) _ | with_reducible refine Below.alloc ?_ (by first | exact Nat.le_refl _ | exact Below.size (by assumption) | (simp; done) | (simp; omega) | omega) _ | with_reducible refine drewN_below ?_ _ | with_reducible refine Below.drew ?_), FarB.nil _ _ _⟩)
    by_cases c3 : xs.length = 8
    · obtain ⟨q1, q2, q3⟩ := owe_err (x := ⟨x1, x2, x3, x4, x5, x6⟩) (xs := xs) (d := ⟨d1, d2⟩) 16 (by simp [oweE, c0, c1, c2, c3]) (by decide)
      rw [q1, q2, q3]
      clear q1 q2 q3
      have c3b : (8 : Int) ≤ (xs.length : Int) := by omega
      rw [c0] at M
      clear c0 h h8 c3 C
      go_enter Try.func56, Try.ntmps56
      go_wp2_with fail
      refine (M.out _ h1).mono ?_
      rintro e w1 ⟨rfl, k1⟩
      have oc := (((Own.new (w := w) rfl [I x1, I x2, I x3, I x4, I x5, I x6, .slice a xs.length cap] 79).alloc (.cells #[I d1, I d2] 60)).alloc (.cells #[I 0, I 0, I 0, I 0, I 0, I 0, .slice none 0 0] 79)).below k1
      have op := ((Own.new (w := w.alloc (.cells #[I x1, I x2, I x3, I x4, I x5, I x6, .slice a xs.length cap] 79)) (g := w.heap.size + 1) (by simp) [I d1, I d2] 60).alloc (.cells #[I 0, I 0, I 0, I 0, I 0, I 0, .slice none 0 0] 79)).below k1
      have oz := (Own.new (w := (w.alloc (.cells #[I x1, I x2, I x3, I x4, I x5, I x6, .slice a xs.length cap] 79)).alloc (.cells #[I d1, I d2] 60)) (g := w.heap.size + 2) (by simp) [I 0, I 0, I 0, I 0, I 0, I 0, .slice none 0 0] 79).below k1
      have cO := oc
      obtain ⟨⟨c0, cf0⟩, ⟨c1, cf1⟩, ⟨c2, cf2⟩, ⟨c3, cf3⟩, ⟨c4, cf4⟩, ⟨c5, cf5⟩, ⟨c6, cf6⟩, -⟩ := cO.a7
      simp only [Nat.zero_add, List.getD_cons_zero, List.getD_cons_succ] at c0 c1 c2 c3 c4 c5 c6
      clear cO
      have pO := op
      obtain ⟨⟨p0, pf0⟩, ⟨p1, pf1⟩, -⟩ := pO.a2
      simp only [Nat.zero_add, List.getD_cons_zero, List.getD_cons_succ] at p0 p1
      clear pO
      have zO := oz
      obtain ⟨⟨z0, zf0⟩, ⟨z1, zf1⟩, ⟨z2, zf2⟩, ⟨z3, zf3⟩, ⟨z4, zf4⟩, ⟨z5, zf5⟩, ⟨z6, zf6⟩, -⟩ := zO.a7
      simp only [Nat.zero_add, List.getD_cons_zero, List.getD_cons_succ] at z0 z1 z2 z3 z4 z5 z6
      clear zO
      have k := hb.trans (k1.mono hb.size)
      have hzw : w.heap.size + 3 ≤ w1.heap.size := by have := k1.size; simp at this; omega
      clear k1 hb h1
      have r1 := set_same
      have r2 := set_off
      have r3 := set_blk
      go_wp2_with (go_at_call 43; refine (In_any _ _ _ _).mono ?_; rintro e w' ⟨rfl, rfl⟩)
      exact bodyPost_ret (v := T2 (.agg #[I 0, I 0, I 0, I 0, I 0, I 0, .slice none 0 0]) (I 16)) (by simp [results, Try.results56, go_sem, *]; try omega) rfl (⟨_, rfl, Sl.nil _ _, (by repeat first | with_reducible assumption | with_reducible exact Below.refl _ _ | with_reducible refine Below.setCell ?_ (by first | exact Nat.le_refl _ | exact Below.size (by assumption) | (simp; done) | (simp; omega) | omega) _ | with_reducible refine Below.alloc ?_ (by first | exact Nat.le_refl _ | exact Below.size (by assumption) | (simp; done) | (simp; omega) | omega) _ | with_reducible refine drewN_below ?_ _ | with_reducible refine Below.drew ?_), FarB.nil _ _ _⟩)
    · obtain ⟨q1, q2, q3⟩ := owe_ok (x := ⟨x1, x2, x3, x4, x5, x6⟩) (xs := xs) (d := ⟨d1, d2⟩) (by simp [oweE, c0, c1, c2, c3])
      rw [q1, q2, q3]
      clear q1 q2 q3
      have c3b : ¬ (8 : Int) ≤ (xs.length : Int) := by omega
      rw [c0] at M
      clear c0 c3
      go_enter Try.func56, Try.ntmps56
      go_wp2_with fail
      refine (M.out _ h1).mono ?_
      rintro e w1 ⟨rfl, k1⟩
      have oc := (((Own.new (w := w) rfl [I x1, I x2, I x3, I x4, I x5, I x6, .slice a xs.length cap] 79).alloc (.cells #[I d1, I d2] 60)).alloc (.cells #[I 0, I 0, I 0, I 0, I 0, I 0, .slice none 0 0] 79)).below k1
      have op := ((Own.new (w := w.alloc (.cells #[I x1, I x2, I x3, I x4, I x5, I x6, .slice a xs.length cap] 79)) (g := w.heap.size + 1) (by simp) [I d1, I d2] 60).alloc (.cells #[I 0, I 0, I 0, I 0, I 0, I 0, .slice none 0 0] 79)).below k1
      have oz := (Own.new (w := (w.alloc (.cells #[I x1, I x2, I x3, I x4, I x5, I x6, .slice a xs.length cap] 79)).alloc (.cells #[I d1, I d2] 60)) (g := w.heap.size + 2) (by simp) [I 0, I 0, I 0, I 0, I 0, I 0, .slice none 0 0] 79).below k1
      have cO := oc
      obtain ⟨⟨c0, cf0⟩, ⟨c1, cf1⟩, ⟨c2, cf2⟩, ⟨c3, cf3⟩, ⟨c4, cf4⟩, ⟨c5, cf5⟩, ⟨c6, cf6⟩, -⟩ := cO.a7
      simp only [Nat.zero_add, List.getD_cons_zero, List.getD_cons_succ] at c0 c1 c2 c3 c4 c5 c6
      clear cO
      have pO := op
      obtain ⟨⟨p0, pf0⟩, ⟨p1, pf1⟩, -⟩ := pO.a2
      simp only [Nat.zero_add, List.getD_cons_zero, List.getD_cons_succ] at p0 p1
      clear pO
      have zO := oz
      obtain ⟨⟨z0, zf0⟩, ⟨z1, zf1⟩, ⟨z2, zf2⟩, ⟨z3, zf3⟩, ⟨z4, zf4⟩, ⟨z5, zf5⟩, ⟨z6, zf6⟩, -⟩ := zO.a7
      simp only [Nat.zero_add, List.getD_cons_zero, List.getD_cons_succ] at z0 z1 z2 z3 z4 z5 z6
      clear zO
      have k := hb.trans (k1.mono hb.size)
      have hzw : w.heap.size + 3 ≤ w1.heap.size := by have := k1.size; simp at this; omega
      clear k1 hb h1
      have r1 := set_same
      have r2 := set_off
      have r3 := set_blk
      have h2 := Lib.hid (h.below k)
      clear h
      go_wp2_with (go_at_call 43; refine (In_any _ _ _ _).mono ?_; rintro e w' ⟨rfl, rfl⟩)
      refine (C.out _ h2.out h8).mono ?_
      rintro e w2 ⟨v', rfl, hown, k2⟩
      have hS := Sl.of_owns hown (by omega)
      obtain ⟨a2, cap2, rfl, -⟩ := hS
      have hsz := k2.size
      have hlt := hown.lt
      have qO := op.below k2
      obtain ⟨⟨q0, qf0⟩, ⟨q1, qf1⟩, -⟩ := qO.a2
      simp only [Nat.zero_add, List.getD_cons_zero, List.getD_cons_succ] at q0 q1
      clear qO
      have oz2 := oz.below k2
      have kk := k.trans (k2.mono k.size)
      have hne : ∀ j, (Value.slice a2 xs.length cap2).ownBlock = some j → w1.heap.size + 2 ≤ j ∧ j < w2.heap.size := fun j hj => hlt j hj
      have Hne := Lib.hid hne
      have Hown := Lib.hid hown
      clear hne hlt hown C M h2 op oz oc k k2 c0 c1 c2 c3 c4 c5 c6 cf0 cf1 cf2 cf3 cf4 cf5 cf6 z0 z1 z2 z3 z4 z5 z6 zf0 zf1 zf2 zf3 zf4 zf5 zf6 p0 p1 pf0 pf1
      have n1 : ¬ w.heap.size + 1 = w2.heap.size := by omega
      have n2 : w.heap.size + 1 < w2.heap.size := by omega
      go_wp2_with
        (at_builtin
         refine wpList_append_lies _ rfl _ _ 77 rfl (w1.heap.size + 2) 60 i0 (.agg #[.int .i64 0, .int .i64 0]) 2 16 Try.underlying77 hi hz0 hz1 hz2 rfl (by decide) (.slice a2 xs.length cap2) xs.length (xs.flatMap ADebt.cells) rfl ((Hown.out.alloc _).alloc _) ⟨w2.heap.size + 1, 0, none⟩ 1 1 [I d1, I d2] rfl rfl (news_own (Own.new (by simp) [I d1, I d2] 60)) (oneCells_lit rfl) (by omega) (by unfold maxLen; omega) (by omega) (by simp; omega) (w2.heap.size + 2) (by simp) ?_
         intro g3 cap3 w3 hown3 hgrow3 hat3 hlt3
         have ob := Own.grown ((Own.new (w := w2) rfl [I x1, I x2, I x3, I x4, I x5, I x6, .slice a2 xs.length cap2] 79).alloc (.cells #[I d1, I d2] 60)) hgrow3 (fun h => by have := (Hne.out _ h.symm).2; omega)
         have oz3 := Own.grown ((oz2.alloc (.cells #[I x1, I x2, I x3, I x4, I x5, I x6, .slice a2 xs.length cap2] 79)).alloc (.cells #[I d1, I d2] 60)) hgrow3 (fun h => by have := (Hne.out _ h.symm).1; omega)
         have bO := ob
         obtain ⟨⟨b0, bf0⟩, ⟨b1, bf1⟩, ⟨b2, bf2⟩, ⟨b3, bf3⟩, ⟨b4, bf4⟩, ⟨b5, bf5⟩, ⟨b6, bf6⟩, -⟩ := bO.a7
         simp only [Nat.zero_add, List.getD_cons_zero, List.getD_cons_succ] at b0 b1 b2 b3 b4 b5 b6
         clear bO
         have zO := oz3
         obtain ⟨⟨z0, zf0⟩, ⟨z1, zf1⟩, ⟨z2, zf2⟩, ⟨z3, zf3⟩, ⟨z4, zf4⟩, ⟨z5, zf5⟩, ⟨z6, zf6⟩, -⟩ := zO.a7
         simp only [Nat.zero_add, List.getD_cons_zero, List.getD_cons_succ] at z0 z1 z2 z3 z4 z5 z6
         clear zO
         have kB : Below w.heap.size w w3 := Below.grown (B := w.heap.size) (by repeat first | with_reducible assumption | with_reducible exact Below.refl _ _ | with_reducible refine Below.setCell ?_ (by first | exact Nat.le_refl _ | exact Below.size (by assumption) | (simp; done) | (simp; omega) | omega) _ | with_reducible refine Below.alloc ?_ (by first | exact Nat.le_refl _ | exact Below.size (by assumption) | (simp; done) | (simp; omega) | omega) _ | with_reducible refine drewN_below ?_ _ | with_reducible refine Below.drew ?_) hgrow3 (by simp; omega) (fun j hj => by have := (Hne.out _ hj).1; omega)
         have hfA : Far w2.heap.size (.slice (some ⟨g3, 0, none⟩) (xs.length + 1) cap3) := Far.lit (by rcases hat3 with h | h; (have := Hne.out _ h; omega); omega)
         have hfB : Far (w.heap.size + 2) (.slice (some ⟨g3, 0, none⟩) (xs.length + 1) cap3) := Far.lit (by rcases hat3 with h | h; (have := Hne.out _ h; omega); omega)
         have hzB := kB.size
         have HFB := Lib.hid (show FarB w.heap.size (.slice (some ⟨g3, 0, none⟩) (xs.length + 1) cap3) from FarB.lit (by rcases hat3 with h | h; (have := Hne.out _ h; omega); omega))
         have hb1 : w2.heap.size < w3.heap.size := ob.lt
         have HS : Hid (Sl w3 (.slice (some ⟨g3, 0, none⟩) (xs.length + 1) cap3) 2 (xs ++ [(⟨d1, d2⟩ : ADebt)]).length ((xs ++ [(⟨d1, d2⟩ : ADebt)]).flatMap ADebt.cells)) := Sl.of_owns' (base := w1.heap.size + 2) (e := 60) (n' := xs.length + 1) (by rw [List.flatMap_append]; exact hown3) (by simp) (by simp; omega)
         have n3 : ¬ w.heap.size + 2 = w2.heap.size := by omega
         have n4 : ¬ w2.heap.size = w.heap.size + 2 := by omega
         clear ob oz3 hat3 hown3 hgrow3)
      exact bodyPost_ret (v := T2 (.agg #[I x1, I x2, I x3, I x4, I x5, I x6, .slice (some ⟨g3, 0, none⟩) (xs.length + 1) cap3]) (I 0)) (by simp [results, Try.results56, go_sem, *]; try omega) rfl (⟨_, rfl, (by repeat (first | with_reducible exact HS.out | refine Sl.set ?_ (by assumption) _)), (by repeat first | with_reducible assumption | with_reducible exact Below.refl _ _ | with_reducible refine Below.setCell ?_ (by first | exact Nat.le_refl _ | exact Below.size (by assumption) | (simp; done) | (simp; omega) | omega) _ | with_reducible refine Below.alloc ?_ (by first | exact Nat.le_refl _ | exact Below.size (by assumption) | (simp; done) | (simp; omega) | omega) _ | with_reducible refine drewN_below ?_ _ | with_reducible refine Below.drew ?_), HFB.out⟩)
end Go.Proofs.Ytenoigmkhlnfoaa
