/- ref.Rolled -/
import Derived.Test.YtcpljkjibhindaaAcctRoll
import Derived.Test.YtcpljkjibhindaaAcctCopied
namespace Go.Proofs.Ytcpljkjibhindaa
open Go.RowKit
set_option maxRecDepth 20000
/-- .. its debts nowhere below what was there -/
def GrewAccF (x : AAcc) (xs : List ADebt) (k : Int) (w : World) (e : Ending) (w' : World) : Prop :=
  ∃ v, e = .returned (T2 (.agg #[I x.meter, I x.rev, I x.next, I x.month, I x.bought, I x.free, v]) (I k)) ∧ Sl w' v 2 xs.length (xs.flatMap ADebt.cells) ∧ Below w.heap.size w w' ∧ FarB w.heap.size v
theorem FarB.mono {B C : Nat} {v : Value} (h : FarB B v) (hC : C ≤ B) : FarB C v := fun a n c e => Nat.le_trans hC (h a n c e)
set_option maxHeartbeats 6000000 in
theorem RolledF_any (x : AAcc) (v : Value) (xs : List ADebt) (m : Int) (w : World) (h : Sl w v 2 xs.length (xs.flatMap ADebt.cells)) :
    Calls Try.prog 39 #[.agg #[I x.meter, I x.rev, I x.next, I x.month, I x.bought, I x.free, v], I m] w (GrewAccF (rolledX x xs m) (rolledL x xs m) (rolledE x xs m) w) := by
  have M := Lib.hid (fun W (hW : Sl W v 2 xs.length (xs.flatMap ADebt.cells)) => AccountMay_any x v xs W hW)
  have C := Lib.hid (fun W (hW : Sl W v 2 xs.length (xs.flatMap ADebt.cells)) h8 => AccountCopy_any x v xs W hW h8)
  have A := Lib.hid (fun W (hW : Sl W v 2 xs.length (xs.flatMap ADebt.cells)) => AgedF_any v xs (m - x.month) W hW)
  obtain ⟨x1, x2, x3, x4, x5, x6⟩ := x
  simp only at *
  have hb1 := boxed_below w (.cells #[I x1, I x2, I x3, I x4, I x5, I x6, v] 39)
  have hb := hb1.alloc hb1.size (.cells #[I 0, I 0, I 0, I 0, I 0, I 0, .slice none 0 0] 39)
  have h1 := h.below hb
  have h' := h
  obtain ⟨a, cap, rfl, -⟩ := h'
  clear hb1
  cases c0 : accMay ⟨x1, x2, x3, x4, x5, x6⟩ xs
  · have hE : rolledE ⟨x1, x2, x3, x4, x5, x6⟩ xs m = 5 := by (simp [rolledE, c0])
    obtain ⟨q1, q2⟩ := rolled_err (x := ⟨x1, x2, x3, x4, x5, x6⟩) (xs := xs) (m := m) (by rw [hE]; decide)
    rw [q1, q2, hE]
    clear q1 q2 hE
    rw [c0] at M
    clear c0 h C A
    go_enter Try.func39, Try.ntmps39
    go_wp2_with fail
    refine (M.out _ h1).mono ?_
    rintro e w1 ⟨rfl, k1⟩
    have oc := ((Own.new (w := w) rfl [I x1, I x2, I x3, I x4, I x5, I x6, .slice a xs.length cap] 39).alloc (.cells #[I 0, I 0, I 0, I 0, I 0, I 0, .slice none 0 0] 39)).below k1
    have oz := (Own.new (w := (w.alloc (.cells #[I x1, I x2, I x3, I x4, I x5, I x6, .slice a xs.length cap] 39))) (g := w.heap.size + 1) (by simp) [I 0, I 0, I 0, I 0, I 0, I 0, .slice none 0 0] 39).below k1
    have cO := oc
    have c0 := cO.cell 0 (by simp)
    have cf0 := cO.frozen 0
    have c1 := cO.cell 1 (by simp)
    have cf1 := cO.frozen 1
    have c2 := cO.cell 2 (by simp)
    have cf2 := cO.frozen 2
    have c3 := cO.cell 3 (by simp)
    have cf3 := cO.frozen 3
    have c4 := cO.cell 4 (by simp)
    have cf4 := cO.frozen 4
    have c5 := cO.cell 5 (by simp)
    have cf5 := cO.frozen 5
    have c6 := cO.cell 6 (by simp)
    have cf6 := cO.frozen 6
    simp only [Nat.zero_add, List.getD_cons_zero, List.getD_cons_succ] at c0 c1 c2 c3 c4 c5 c6
    clear cO
    have zO := oz
    have z0 := zO.cell 0 (by simp)
    have zf0 := zO.frozen 0
    have z1 := zO.cell 1 (by simp)
    have zf1 := zO.frozen 1
    have z2 := zO.cell 2 (by simp)
    have zf2 := zO.frozen 2
    have z3 := zO.cell 3 (by simp)
    have zf3 := zO.frozen 3
    have z4 := zO.cell 4 (by simp)
    have zf4 := zO.frozen 4
    have z5 := zO.cell 5 (by simp)
    have zf5 := zO.frozen 5
    have z6 := zO.cell 6 (by simp)
    have zf6 := zO.frozen 6
    simp only [Nat.zero_add, List.getD_cons_zero, List.getD_cons_succ] at z0 z1 z2 z3 z4 z5 z6
    clear zO
    have k := hb.trans (k1.mono hb.size)
    have hzw : w.heap.size + 2 ≤ w1.heap.size := by have := k1.size; simp at this; omega
    clear k1 hb h1
    have r1 := set_same
    have r2 := set_off
    have r3 := set_blk
    go_wp2_with (go_at_call 49; refine (In_any _ _ _ _).mono ?_; rintro e w' ⟨rfl, rfl⟩)
    exact bodyPost_ret (v := T2 (.agg #[I 0, I 0, I 0, I 0, I 0, I 0, .slice none 0 0]) (I 5)) (by simp [results, Try.results39, go_sem, *]; try omega) rfl (⟨_, rfl, Sl.nil _ _, (by repeat first | with_reducible assumption | with_reducible exact Below.refl _ _ | with_reducible refine Below.setCell ?_ (by first | exact Nat.le_refl _ | exact Below.size (by assumption) | (simp; done) | (simp; omega) | omega) _ | with_reducible refine Below.alloc ?_ (by first | exact Nat.le_refl _ | exact Below.size (by assumption) | (simp; done) | (simp; omega) | omega) _ | with_reducible refine drewN_below ?_ _ | with_reducible refine Below.drew ?_), FarB.nil _ _ _⟩)
  · have h8 := accMay_len c0
    have hdebt := accMay_debt c0
    obtain ⟨-, -, -, -, -, -, b7, b8, -⟩ := accMay_bd c0
    simp only at b7 b8
    cases c1 : inB m 0 2399
    · have hE : rolledE ⟨x1, x2, x3, x4, x5, x6⟩ xs m = 2 := by (simp [rolledE, rollE, c0, c1])
      obtain ⟨q1, q2⟩ := rolled_err (x := ⟨x1, x2, x3, x4, x5, x6⟩) (xs := xs) (m := m) (by rw [hE]; decide)
      rw [q1, q2, hE]
      clear q1 q2 hE
      rw [c0] at M
      clear c0 h h8 C A
      go_enter Try.func39, Try.ntmps39
      go_wp2_with fail
      refine (M.out _ h1).mono ?_
      rintro e w1 ⟨rfl, k1⟩
      have oc := ((Own.new (w := w) rfl [I x1, I x2, I x3, I x4, I x5, I x6, .slice a xs.length cap] 39).alloc (.cells #[I 0, I 0, I 0, I 0, I 0, I 0, .slice none 0 0] 39)).below k1
      have oz := (Own.new (w := (w.alloc (.cells #[I x1, I x2, I x3, I x4, I x5, I x6, .slice a xs.length cap] 39))) (g := w.heap.size + 1) (by simp) [I 0, I 0, I 0, I 0, I 0, I 0, .slice none 0 0] 39).below k1
      have cO := oc
      have c0 := cO.cell 0 (by simp)
      have cf0 := cO.frozen 0
      have c1 := cO.cell 1 (by simp)
      have cf1 := cO.frozen 1
      have c2 := cO.cell 2 (by simp)
      have cf2 := cO.frozen 2
      have c3 := cO.cell 3 (by simp)
      have cf3 := cO.frozen 3
      have c4 := cO.cell 4 (by simp)
      have cf4 := cO.frozen 4
      have c5 := cO.cell 5 (by simp)
      have cf5 := cO.frozen 5
      have c6 := cO.cell 6 (by simp)
      have cf6 := cO.frozen 6
      simp only [Nat.zero_add, List.getD_cons_zero, List.getD_cons_succ] at c0 c1 c2 c3 c4 c5 c6
      clear cO
      have zO := oz
      have z0 := zO.cell 0 (by simp)
      have zf0 := zO.frozen 0
      have z1 := zO.cell 1 (by simp)
      have zf1 := zO.frozen 1
      have z2 := zO.cell 2 (by simp)
      have zf2 := zO.frozen 2
      have z3 := zO.cell 3 (by simp)
      have zf3 := zO.frozen 3
      have z4 := zO.cell 4 (by simp)
      have zf4 := zO.frozen 4
      have z5 := zO.cell 5 (by simp)
      have zf5 := zO.frozen 5
      have z6 := zO.cell 6 (by simp)
      have zf6 := zO.frozen 6
      simp only [Nat.zero_add, List.getD_cons_zero, List.getD_cons_succ] at z0 z1 z2 z3 z4 z5 z6
      clear zO
      have k := hb.trans (k1.mono hb.size)
      have hzw : w.heap.size + 2 ≤ w1.heap.size := by have := k1.size; simp at this; omega
      clear k1 hb h1
      have r1 := set_same
      have r2 := set_off
      have r3 := set_blk
      go_wp2_with (go_at_call 49; refine (In_any _ _ _ _).mono ?_; rintro e w' ⟨rfl, rfl⟩)
      exact bodyPost_ret (v := T2 (.agg #[I 0, I 0, I 0, I 0, I 0, I 0, .slice none 0 0]) (I 2)) (by simp [results, Try.results39, go_sem, *]; try omega) rfl (⟨_, rfl, Sl.nil _ _, (by repeat first | with_reducible assumption | with_reducible exact Below.refl _ _ | with_reducible refine Below.setCell ?_ (by first | exact Nat.le_refl _ | exact Below.size (by assumption) | (simp; done) | (simp; omega) | omega) _ | with_reducible refine Below.alloc ?_ (by first | exact Nat.le_refl _ | exact Below.size (by assumption) | (simp; done) | (simp; omega) | omega) _ | with_reducible refine drewN_below ?_ _ | with_reducible refine Below.drew ?_), FarB.nil _ _ _⟩)
    by_cases c2 : m < x4
    · have hE : rolledE ⟨x1, x2, x3, x4, x5, x6⟩ xs m = 23 := by (simp [rolledE, rollE, c0, c1, c2])
      obtain ⟨q1, q2⟩ := rolled_err (x := ⟨x1, x2, x3, x4, x5, x6⟩) (xs := xs) (m := m) (by rw [hE]; decide)
      rw [q1, q2, hE]
      clear q1 q2 hE
      rw [c0] at M
      clear c0 h h8 C A
      go_enter Try.func39, Try.ntmps39
      go_wp2_with fail
      refine (M.out _ h1).mono ?_
      rintro e w1 ⟨rfl, k1⟩
      have oc := ((Own.new (w := w) rfl [I x1, I x2, I x3, I x4, I x5, I x6, .slice a xs.length cap] 39).alloc (.cells #[I 0, I 0, I 0, I 0, I 0, I 0, .slice none 0 0] 39)).below k1
      have oz := (Own.new (w := (w.alloc (.cells #[I x1, I x2, I x3, I x4, I x5, I x6, .slice a xs.length cap] 39))) (g := w.heap.size + 1) (by simp) [I 0, I 0, I 0, I 0, I 0, I 0, .slice none 0 0] 39).below k1
      have cO := oc
      have c0 := cO.cell 0 (by simp)
      have cf0 := cO.frozen 0
      have c1 := cO.cell 1 (by simp)
      have cf1 := cO.frozen 1
      have c2 := cO.cell 2 (by simp)
      have cf2 := cO.frozen 2
      have c3 := cO.cell 3 (by simp)
      have cf3 := cO.frozen 3
      have c4 := cO.cell 4 (by simp)
      have cf4 := cO.frozen 4
      have c5 := cO.cell 5 (by simp)
      have cf5 := cO.frozen 5
      have c6 := cO.cell 6 (by simp)
      have cf6 := cO.frozen 6
      simp only [Nat.zero_add, List.getD_cons_zero, List.getD_cons_succ] at c0 c1 c2 c3 c4 c5 c6
      clear cO
      have zO := oz
      have z0 := zO.cell 0 (by simp)
      have zf0 := zO.frozen 0
      have z1 := zO.cell 1 (by simp)
      have zf1 := zO.frozen 1
      have z2 := zO.cell 2 (by simp)
      have zf2 := zO.frozen 2
      have z3 := zO.cell 3 (by simp)
      have zf3 := zO.frozen 3
      have z4 := zO.cell 4 (by simp)
      have zf4 := zO.frozen 4
      have z5 := zO.cell 5 (by simp)
      have zf5 := zO.frozen 5
      have z6 := zO.cell 6 (by simp)
      have zf6 := zO.frozen 6
      simp only [Nat.zero_add, List.getD_cons_zero, List.getD_cons_succ] at z0 z1 z2 z3 z4 z5 z6
      clear zO
      have k := hb.trans (k1.mono hb.size)
      have hzw : w.heap.size + 2 ≤ w1.heap.size := by have := k1.size; simp at this; omega
      clear k1 hb h1
      have r1 := set_same
      have r2 := set_off
      have r3 := set_blk
      go_wp2_with (go_at_call 49; refine (In_any _ _ _ _).mono ?_; rintro e w' ⟨rfl, rfl⟩)
      exact bodyPost_ret (v := T2 (.agg #[I 0, I 0, I 0, I 0, I 0, I 0, .slice none 0 0]) (I 23)) (by simp [results, Try.results39, go_sem, *]; try omega) rfl (⟨_, rfl, Sl.nil _ _, (by repeat first | with_reducible assumption | with_reducible exact Below.refl _ _ | with_reducible refine Below.setCell ?_ (by first | exact Nat.le_refl _ | exact Below.size (by assumption) | (simp; done) | (simp; omega) | omega) _ | with_reducible refine Below.alloc ?_ (by first | exact Nat.le_refl _ | exact Below.size (by assumption) | (simp; done) | (simp; omega) | omega) _ | with_reducible refine drewN_below ?_ _ | with_reducible refine Below.drew ?_), FarB.nil _ _ _⟩)
    have hE : rolledE ⟨x1, x2, x3, x4, x5, x6⟩ xs m = 0 := by simp [rolledE, rollE, c0, c1, c2]
    obtain ⟨q1, q2⟩ := rolled_ok hE
    obtain ⟨m0, m1⟩ := inB_true.1 c1
    rw [q1, q2, hE]
    rw [c0] at M
    clear q1 q2 hE c0
    have hS := h
    by_cases c3 : m = x4
    · have c3' := c3.symm
      subst c3'
      have e1 : rollX ⟨x1, x2, x3, x4, x5, x6⟩ x4 = ⟨x1, x2, x3, x4, x5, x6⟩ := by simp [rollX]
      have e2 : rollL ⟨x1, x2, x3, x4, x5, x6⟩ xs x4 = xs := by simp [rollL]
      rw [e1, e2]
      clear e1 e2 h A
      go_enter Try.func39, Try.ntmps39
      go_wp2_with fail
      refine (M.out _ h1).mono ?_
      rintro e w1 ⟨rfl, k1⟩
      have oc := ((Own.new (w := w) rfl [I x1, I x2, I x3, I x4, I x5, I x6, .slice a xs.length cap] 39).alloc (.cells #[I 0, I 0, I 0, I 0, I 0, I 0, .slice none 0 0] 39)).below k1
      have oz := (Own.new (w := (w.alloc (.cells #[I x1, I x2, I x3, I x4, I x5, I x6, .slice a xs.length cap] 39))) (g := w.heap.size + 1) (by simp) [I 0, I 0, I 0, I 0, I 0, I 0, .slice none 0 0] 39).below k1
      have cO := oc
      have c0 := cO.cell 0 (by simp)
      have cf0 := cO.frozen 0
      have c1 := cO.cell 1 (by simp)
      have cf1 := cO.frozen 1
      have c2 := cO.cell 2 (by simp)
      have cf2 := cO.frozen 2
      have c3 := cO.cell 3 (by simp)
      have cf3 := cO.frozen 3
      have c4 := cO.cell 4 (by simp)
      have cf4 := cO.frozen 4
      have c5 := cO.cell 5 (by simp)
      have cf5 := cO.frozen 5
      have c6 := cO.cell 6 (by simp)
      have cf6 := cO.frozen 6
      simp only [Nat.zero_add, List.getD_cons_zero, List.getD_cons_succ] at c0 c1 c2 c3 c4 c5 c6
      clear cO
      have zO := oz
      have z0 := zO.cell 0 (by simp)
      have zf0 := zO.frozen 0
      have z1 := zO.cell 1 (by simp)
      have zf1 := zO.frozen 1
      have z2 := zO.cell 2 (by simp)
      have zf2 := zO.frozen 2
      have z3 := zO.cell 3 (by simp)
      have zf3 := zO.frozen 3
      have z4 := zO.cell 4 (by simp)
      have zf4 := zO.frozen 4
      have z5 := zO.cell 5 (by simp)
      have zf5 := zO.frozen 5
      have z6 := zO.cell 6 (by simp)
      have zf6 := zO.frozen 6
      simp only [Nat.zero_add, List.getD_cons_zero, List.getD_cons_succ] at z0 z1 z2 z3 z4 z5 z6
      clear zO
      have k := hb.trans (k1.mono hb.size)
      have hzw : w.heap.size + 2 ≤ w1.heap.size := by have := k1.size; simp at this; omega
      clear k1 hb h1
      have r1 := set_same
      have r2 := set_off
      have r3 := set_blk
      have HSk := Lib.hid (hS.below k)
      go_wp2_with (first | (go_at_call 49; refine (In_any _ _ _ _).mono ?_; rintro e w' ⟨rfl, rfl⟩) | fail)
      refine (C.out _ HSk.out h8).mono ?_
      rintro e w2 ⟨u, rfl, hown, k2⟩
      have hSu := Sl.of_owns hown (by omega)
      have hFu := FarB.of_owns hown
      have hSu' := hSu
      obtain ⟨a2, cap2, rfl, -⟩ := hSu'
      have kA := boxed_below w2 (.cells #[I x1, I x2, I x3, I x4, I x5, I x6, .slice a2 xs.length cap2] 39)
      have oc2 := (oc.below k2).below kA
      have oz2 := (oz.below k2).below kA
      have on2 := Own.new (w := w2) rfl [I x1, I x2, I x3, I x4, I x5, I x6, .slice a2 xs.length cap2] 39
      have kk := k.trans (k2.mono k.size)
      have kk2 := kk.trans (kA.mono kk.size)
      have hz2 : w.heap.size + 2 ≤ w2.heap.size := by have := k2.size; omega
      have hSA := hS.below kk2
      have HSu := Lib.hid (hSu.below kA)
      have hFA : Far (w.heap.size + 1) (.slice a2 xs.length cap2) := hFu.far (by omega)
      have HF := Lib.hid hFA
      have HFB := Lib.hid (hFu.mono (show w.heap.size ≤ w1.heap.size + 2 by omega))
      clear hown hSu hFu hFA kA kk k k2 oc oz hS HSk c0 c1 c2 c3 c4 c5 c6 cf0 cf1 cf2 cf3 cf4 cf5 cf6 z0 z1 z2 z3 z4 z5 z6 zf0 zf1 zf2 zf3 zf4 zf5 zf6
      have cO := oc2
      have c0 := cO.cell 0 (by simp)
      have cf0 := cO.frozen 0
      have c1 := cO.cell 1 (by simp)
      have cf1 := cO.frozen 1
      have c2 := cO.cell 2 (by simp)
      have cf2 := cO.frozen 2
      have c3 := cO.cell 3 (by simp)
      have cf3 := cO.frozen 3
      have c4 := cO.cell 4 (by simp)
      have cf4 := cO.frozen 4
      have c5 := cO.cell 5 (by simp)
      have cf5 := cO.frozen 5
      have c6 := cO.cell 6 (by simp)
      have cf6 := cO.frozen 6
      simp only [Nat.zero_add, List.getD_cons_zero, List.getD_cons_succ] at c0 c1 c2 c3 c4 c5 c6
      clear cO
      have zO := oz2
      have z0 := zO.cell 0 (by simp)
      have zf0 := zO.frozen 0
      have z1 := zO.cell 1 (by simp)
      have zf1 := zO.frozen 1
      have z2 := zO.cell 2 (by simp)
      have zf2 := zO.frozen 2
      have z3 := zO.cell 3 (by simp)
      have zf3 := zO.frozen 3
      have z4 := zO.cell 4 (by simp)
      have zf4 := zO.frozen 4
      have z5 := zO.cell 5 (by simp)
      have zf5 := zO.frozen 5
      have z6 := zO.cell 6 (by simp)
      have zf6 := zO.frozen 6
      simp only [Nat.zero_add, List.getD_cons_zero, List.getD_cons_succ] at z0 z1 z2 z3 z4 z5 z6
      clear zO
      have pO := on2
      have p0 := pO.cell 0 (by simp)
      have pf0 := pO.frozen 0
      have p1 := pO.cell 1 (by simp)
      have pf1 := pO.frozen 1
      have p2 := pO.cell 2 (by simp)
      have pf2 := pO.frozen 2
      have p3 := pO.cell 3 (by simp)
      have pf3 := pO.frozen 3
      have p4 := pO.cell 4 (by simp)
      have pf4 := pO.frozen 4
      have p5 := pO.cell 5 (by simp)
      have pf5 := pO.frozen 5
      have p6 := pO.cell 6 (by simp)
      have pf6 := pO.frozen 6
      simp only [Nat.zero_add, List.getD_cons_zero, List.getD_cons_succ] at p0 p1 p2 p3 p4 p5 p6
      clear pO
      have hne0 : ¬ w.heap.size = w2.heap.size := by omega
      have hne1 : ¬ w.heap.size + 1 = w2.heap.size := by omega
      have hne2 : ¬ w2.heap.size = w.heap.size + 1 := by omega
      go_wp2
      exact bodyPost_ret (v := T2 (.agg #[I x1, I x2, I x3, I x4, I x5, I x6, .slice a2 xs.length cap2]) (I 0)) (by simp [results, Try.results39, go_sem, *]; try omega) rfl (⟨_, rfl, ((((((HSu.out.set HF.out _).set HF.out _).set HF.out _).set HF.out _).set HF.out _).set HF.out _).set HF.out _, (by repeat first | with_reducible assumption | with_reducible exact Below.refl _ _ | with_reducible refine Below.setCell ?_ (by first | exact Nat.le_refl _ | exact Below.size (by assumption) | (simp; done) | (simp; omega) | omega) _ | with_reducible refine Below.alloc ?_ (by first | exact Nat.le_refl _ | exact Below.size (by assumption) | (simp; done) | (simp; omega) | omega) _ | with_reducible refine drewN_below ?_ _ | with_reducible refine Below.drew ?_), HFB.out⟩)
    · have e1 : rollX ⟨x1, x2, x3, x4, x5, x6⟩ m = ⟨x1, x2, x3, m, 0, x6⟩ := by simp [rollX, c3]
      have e2 : rollL ⟨x1, x2, x3, x4, x5, x6⟩ xs m = ageL xs (m - x4) := by simp [rollL, c3]
      have hA0 : ageE xs (m - x4) = 0 := by
        unfold ageE
        rw [if_pos hdebt, if_pos (inB_true.2 ⟨by omega, by omega⟩)]
      rw [e1, e2]
      rw [hA0] at A
      have hwr : IntKind.i64.wrap (m - x4) = m - x4 := wrap_small _ (by omega) (by omega)
      clear e1 e2 h hA0
      generalize ageL xs (m - x4) = ys at *
      go_enter Try.func39, Try.ntmps39
      go_wp2_with fail
      refine (M.out _ h1).mono ?_
      rintro e w1 ⟨rfl, k1⟩
      have oc := ((Own.new (w := w) rfl [I x1, I x2, I x3, I x4, I x5, I x6, .slice a xs.length cap] 39).alloc (.cells #[I 0, I 0, I 0, I 0, I 0, I 0, .slice none 0 0] 39)).below k1
      have oz := (Own.new (w := (w.alloc (.cells #[I x1, I x2, I x3, I x4, I x5, I x6, .slice a xs.length cap] 39))) (g := w.heap.size + 1) (by simp) [I 0, I 0, I 0, I 0, I 0, I 0, .slice none 0 0] 39).below k1
      have cO := oc
      have c0 := cO.cell 0 (by simp)
      have cf0 := cO.frozen 0
      have c1 := cO.cell 1 (by simp)
      have cf1 := cO.frozen 1
      have c2 := cO.cell 2 (by simp)
      have cf2 := cO.frozen 2
      have c3 := cO.cell 3 (by simp)
      have cf3 := cO.frozen 3
      have c4 := cO.cell 4 (by simp)
      have cf4 := cO.frozen 4
      have c5 := cO.cell 5 (by simp)
      have cf5 := cO.frozen 5
      have c6 := cO.cell 6 (by simp)
      have cf6 := cO.frozen 6
      simp only [Nat.zero_add, List.getD_cons_zero, List.getD_cons_succ] at c0 c1 c2 c3 c4 c5 c6
      clear cO
      have zO := oz
      have z0 := zO.cell 0 (by simp)
      have zf0 := zO.frozen 0
      have z1 := zO.cell 1 (by simp)
      have zf1 := zO.frozen 1
      have z2 := zO.cell 2 (by simp)
      have zf2 := zO.frozen 2
      have z3 := zO.cell 3 (by simp)
      have zf3 := zO.frozen 3
      have z4 := zO.cell 4 (by simp)
      have zf4 := zO.frozen 4
      have z5 := zO.cell 5 (by simp)
      have zf5 := zO.frozen 5
      have z6 := zO.cell 6 (by simp)
      have zf6 := zO.frozen 6
      simp only [Nat.zero_add, List.getD_cons_zero, List.getD_cons_succ] at z0 z1 z2 z3 z4 z5 z6
      clear zO
      have k := hb.trans (k1.mono hb.size)
      have hzw : w.heap.size + 2 ≤ w1.heap.size := by have := k1.size; simp at this; omega
      clear k1 hb h1
      have r1 := set_same
      have r2 := set_off
      have r3 := set_blk
      have HSk := Lib.hid (hS.below k)
      go_wp2_with (first | (go_at_call 49; refine (In_any _ _ _ _).mono ?_; rintro e w' ⟨rfl, rfl⟩) | fail)
      refine (C.out _ HSk.out h8).mono ?_
      rintro e w2 ⟨u, rfl, hown, k2⟩
      have hSu := Sl.of_owns hown (by omega)
      have hFu := FarB.of_owns hown
      have hSu' := hSu
      obtain ⟨a2, cap2, rfl, -⟩ := hSu'
      have kA := boxed_below w2 (.cells #[I x1, I x2, I x3, I x4, I x5, I x6, .slice a2 xs.length cap2] 39)
      have oc2 := (oc.below k2).below kA
      have oz2 := (oz.below k2).below kA
      have on2 := Own.new (w := w2) rfl [I x1, I x2, I x3, I x4, I x5, I x6, .slice a2 xs.length cap2] 39
      have kk := k.trans (k2.mono k.size)
      have kk2 := kk.trans (kA.mono kk.size)
      have hz2 : w.heap.size + 2 ≤ w2.heap.size := by have := k2.size; omega
      have hSA := hS.below kk2
      have HSu := Lib.hid (hSu.below kA)
      have hFA : Far (w.heap.size + 1) (.slice a2 xs.length cap2) := hFu.far (by omega)
      have HF := Lib.hid hFA
      have HFB := Lib.hid (hFu.mono (show w.heap.size ≤ w1.heap.size + 2 by omega))
      clear hown hSu hFu hFA kA kk k k2 oc oz hS HSk c0 c1 c2 c3 c4 c5 c6 cf0 cf1 cf2 cf3 cf4 cf5 cf6 z0 z1 z2 z3 z4 z5 z6 zf0 zf1 zf2 zf3 zf4 zf5 zf6
      have cO := oc2
      have c0 := cO.cell 0 (by simp)
      have cf0 := cO.frozen 0
      have c1 := cO.cell 1 (by simp)
      have cf1 := cO.frozen 1
      have c2 := cO.cell 2 (by simp)
      have cf2 := cO.frozen 2
      have c3 := cO.cell 3 (by simp)
      have cf3 := cO.frozen 3
      have c4 := cO.cell 4 (by simp)
      have cf4 := cO.frozen 4
      have c5 := cO.cell 5 (by simp)
      have cf5 := cO.frozen 5
      have c6 := cO.cell 6 (by simp)
      have cf6 := cO.frozen 6
      simp only [Nat.zero_add, List.getD_cons_zero, List.getD_cons_succ] at c0 c1 c2 c3 c4 c5 c6
      clear cO
      have hne0 : ¬ w.heap.size = w2.heap.size := by omega
      have hne1 : ¬ w.heap.size + 1 = w2.heap.size := by omega
      have hne2 : ¬ w2.heap.size = w.heap.size + 1 := by omega
      go_wp2_with fail
      refine (A.out _ hSA).mono ?_
      rintro e w3 ⟨l, rfl, hSl, k3, hFl⟩
      have hSl' := hSl
      obtain ⟨a3, cap3, rfl, -⟩ := hSl'
      have HSl := Lib.hid hSl
      have HFo := Lib.hid (show Far w2.heap.size (.slice a3 ys.length cap3) from hFl.far (by simp))
      have HFB2 := Lib.hid (hFl.mono (show w.heap.size ≤ _ from kk2.size))
      have HFz := Lib.hid (show Far (w.heap.size + 1) (.slice a3 ys.length cap3) from hFl.far (by simp; omega))
      have kk3 := kk2.trans (k3.mono kk2.size)
      have hz3 : w2.heap.size < w3.heap.size := (on2.below k3).lt
      have zO := oz2.below k3
      have z0 := zO.cell 0 (by simp)
      have zf0 := zO.frozen 0
      have z1 := zO.cell 1 (by simp)
      have zf1 := zO.frozen 1
      have z2 := zO.cell 2 (by simp)
      have zf2 := zO.frozen 2
      have z3 := zO.cell 3 (by simp)
      have zf3 := zO.frozen 3
      have z4 := zO.cell 4 (by simp)
      have zf4 := zO.frozen 4
      have z5 := zO.cell 5 (by simp)
      have zf5 := zO.frozen 5
      have z6 := zO.cell 6 (by simp)
      have zf6 := zO.frozen 6
      simp only [Nat.zero_add, List.getD_cons_zero, List.getD_cons_succ] at z0 z1 z2 z3 z4 z5 z6
      clear zO
      have pO := on2.below k3
      have p0 := pO.cell 0 (by simp)
      have pf0 := pO.frozen 0
      have p1 := pO.cell 1 (by simp)
      have pf1 := pO.frozen 1
      have p2 := pO.cell 2 (by simp)
      have pf2 := pO.frozen 2
      have p3 := pO.cell 3 (by simp)
      have pf3 := pO.frozen 3
      have p4 := pO.cell 4 (by simp)
      have pf4 := pO.frozen 4
      have p5 := pO.cell 5 (by simp)
      have pf5 := pO.frozen 5
      have p6 := pO.cell 6 (by simp)
      have pf6 := pO.frozen 6
      simp only [Nat.zero_add, List.getD_cons_zero, List.getD_cons_succ] at p0 p1 p2 p3 p4 p5 p6
      clear pO
      clear c0 c1 c2 c3 c4 c5 c6 cf0 cf1 cf2 cf3 cf4 cf5 cf6 oc2 oz2 on2 k3 hFl hSl kk2 hSA HSu HF
      go_wp2
      exact bodyPost_ret (v := T2 (.agg #[I x1, I x2, I x3, I m, I 0, I x6, .slice a3 ys.length cap3]) (I 0)) (by simp [results, Try.results39, go_sem, *]; try omega) rfl (⟨_, rfl, (((((((((HSl.out.set HFo.out _).set HFo.out _).set HFo.out _).set HFz.out _).set HFz.out _).set HFz.out _).set HFz.out _).set HFz.out _).set HFz.out _).set HFz.out _, (by repeat first | with_reducible assumption | with_reducible exact Below.refl _ _ | with_reducible refine Below.setCell ?_ (by first | exact Nat.le_refl _ | exact Below.size (by assumption) | (simp; done) | (simp; omega) | omega) _ | with_reducible refine Below.alloc ?_ (by first | exact Nat.le_refl _ | exact Below.size (by assumption) | (simp; done) | (simp; omega) | omega) _ | with_reducible refine drewN_below ?_ _ | with_reducible refine Below.drew ?_), HFB2.out⟩)
theorem Rolled_any (x : AAcc) (v : Value) (xs : List ADebt) (m : Int) (w : World) (h : Sl w v 2 xs.length (xs.flatMap ADebt.cells)) :
    Calls Try.prog 39 #[.agg #[I x.meter, I x.rev, I x.next, I x.month, I x.bought, I x.free, v], I m] w (GrewAcc (rolledX x xs m) (rolledL x xs m) (rolledE x xs m) w) :=
  (RolledF_any x v xs m w h).mono fun _ _ ⟨v, he, hs, hk, _⟩ => ⟨v, he, hs, hk⟩
end Go.Proofs.Ytcpljkjibhindaa
