/- account.Roll -/
import Derived.Test.YtcpljkjibhindaaRoll
namespace Go.Proofs.Ytcpljkjibhindaa
open Go.RowKit
set_option maxRecDepth 20000

def rolledE (x : AAcc) (xs : List ADebt) (m : Int) : Int := if accMay x xs then rollE x m else 5
def rolledX (x : AAcc) (xs : List ADebt) (m : Int) : AAcc := if rolledE x xs m = 0 then rollX x m else ⟨0, 0, 0, 0, 0, 0⟩
def rolledL (x : AAcc) (xs : List ADebt) (m : Int) : List ADebt := if rolledE x xs m = 0 then rollL x xs m else []
theorem rolled_err {x : AAcc} {xs : List ADebt} {m : Int} (h : rolledE x xs m ≠ 0) : rolledX x xs m = ⟨0, 0, 0, 0, 0, 0⟩ ∧ rolledL x xs m = [] := by simp [rolledX, rolledL, h]
theorem rolled_ok {x : AAcc} {xs : List ADebt} {m : Int} (h : rolledE x xs m = 0) : rolledX x xs m = rollX x m ∧ rolledL x xs m = rollL x xs m := by simp [rolledX, rolledL, h]
theorem open_lit (x : AAcc) (xs : List ADebt) : openErr x xs [⟨10000000, 1⟩] 0 0 0 0 = if accMay x xs then 0 else 5 := by
  unfold openErr
  have : termsE [⟨10000000, 1⟩] 0 0 0 0 = 0 := by decide
  rw [this]
set_option maxHeartbeats 4000000 in
theorem Roll_any (x : AAcc) (v : Value) (xs : List ADebt) (m : Int) (w : World) (h : Sl w v 2 xs.length (xs.flatMap ADebt.cells)) :
    Calls Try.prog 38 #[.agg #[I x.meter, I x.rev, I x.next, I x.month, I x.bought, I x.free, v], I m] w (GrewAcc (rolledX x xs m) (rolledL x xs m) (rolledE x xs m) w) := by
  have hol := open_lit x xs
  cases c0 : accMay x xs
  · have hE : rolledE x xs m = 5 := by simp [rolledE, c0]
    obtain ⟨e1, e2⟩ := rolled_err (x := x) (xs := xs) (m := m) (by rw [hE]; decide)
    rw [e1, e2, hE]
    rw [c0] at hol
    simp only [Bool.false_eq_true, if_false] at hol
    clear e1 e2 hE c0
    have B := Lib.hid (fun W tv hS tS => open_bad x v tv xs [⟨10000000, 1⟩] 0 0 0 0 W hS tS (by rw [hol]; decide))
    rw [hol] at B
    clear hol
    obtain ⟨x1, x2, x3, x4, x5, x6⟩ := x
    simp only [GrewAcc] at *
    have hb1 := boxed_below w (.cells #[I x1, I x2, I x3, I x4, I x5, I x6, v] 39)
    have hb2 := hb1.alloc hb1.size (.cells #[I 0, I 0, I 0, I 0, I 0, I 0, .slice none 0 0] 39)
    have kB := hb2.alloc hb2.size (.cells #[I 10000000, I 1] 78)
    have hS := h.below kB
    have oz := (Own.new (w := w.alloc (.cells #[I x1, I x2, I x3, I x4, I x5, I x6, v] 39)) (g := w.heap.size + 1) (by simp) [I 0, I 0, I 0, I 0, I 0, I 0, .slice none 0 0] 39).alloc (.cells #[I 10000000, I 1] 78)
    have tS : Sl (((w.alloc (.cells #[I x1, I x2, I x3, I x4, I x5, I x6, v] 39)).alloc (.cells #[I 0, I 0, I 0, I 0, I 0, I 0, .slice none 0 0] 39)).alloc (.cells #[I 10000000, I 1] 78)) (.slice (some ⟨w.heap.size + 1 + 1, 0, none⟩) 1 1) 2 ([⟨10000000, 1⟩] : List AStep).length (([⟨10000000, 1⟩] : List AStep).flatMap AStep.cells) := by
      have h2 := Sl.of_owns (owns_lit ((w.alloc (.cells #[I x1, I x2, I x3, I x4, I x5, I x6, v] 39)).alloc (.cells #[I 0, I 0, I 0, I 0, I 0, I 0, .slice none 0 0] 39)) [I 10000000, I 1] 78 2 1 rfl (by unfold maxLen; omega)) (by omega)
      rw [World.size_alloc, World.size_alloc] at h2
      exact h2
    clear hb1 hb2
    obtain ⟨a, cap, rfl, -⟩ := h
    go_enter Try.func38, Try.ntmps38
    go_wp2_with fail
    refine (B.out _ _ hS tS).mono ?_
    rintro e w1 ⟨rfl, k1⟩
    have zO := oz.below k1
    have z0 := zO.cell 0 (by simp)
    have zf0 := zO.frozen 0
    have z1 := zO.cell 1 (by simp)
    have zf1 := zO.frozen 1
    have z2 := zO.cell 2 (by simp)
    have zf2 := zO.frozen 2
    have z3 := zO.cell 3 (by simp)
    have zf3 := zO.frozen 3
    have z4 := zO.cell 4 (by simp)
    have zf4 := zO.frozen 4
    have z5 := zO.cell 5 (by simp)
    have zf5 := zO.frozen 5
    have z6 := zO.cell 6 (by simp)
    have zf6 := zO.frozen 6
    simp only [Nat.zero_add, List.getD_cons_zero, List.getD_cons_succ] at z0 z1 z2 z3 z4 z5 z6
    clear zO
    have k := kB.trans (k1.mono kB.size)
    clear k1 kB oz hS tS B
    have r1 := set_same
    have r2 := set_off
    have r3 := set_blk
    go_wp2
    exact bodyPost_ret (v := T2 (.agg #[I 0, I 0, I 0, I 0, I 0, I 0, .slice none 0 0]) (I 5)) (by simp [results, Try.results38, go_sem, *]; try omega) rfl (⟨_, rfl, Sl.nil _ _, (by repeat first | with_reducible assumption | with_reducible exact Below.refl _ _ | with_reducible refine Below.setCell ?_ (by first | exact Nat.le_refl _ | exact Below.size (by assumption) | (simp; done) | (simp; omega) | omega) _ | with_reducible refine Below.alloc ?_ (by first | exact Nat.le_refl _ | exact Below.size (by assumption) | (simp; done) | (simp; omega) | omega) _ | with_reducible refine drewN_below ?_ _ | with_reducible refine Below.drew ?_)⟩)
  · rw [c0] at hol
    simp only [if_true] at hol
    have G := Lib.hid (fun W tv hS tS => open_good x v tv xs [⟨10000000, 1⟩] 0 0 0 0 W hS tS hol)
    clear hol
    by_cases hE : rollE x m = 0
    · have hE2 : rolledE x xs m = 0 := by simp [rolledE, c0, hE]
      obtain ⟨e1, e2⟩ := rolled_ok hE2
      rw [e1, e2, hE2]
      have R := Lib.hid (fun W g u tv hO hS hF => roll_good g x u tv xs 0 0 0 0 m W hO hS hF c0 hE)
      clear e1 e2 hE2 hE c0
      unfold GrewRoll at R
      generalize rollX x m = y at *
      generalize rollL x xs m = ys at *
      obtain ⟨x1, x2, x3, x4, x5, x6⟩ := x
      obtain ⟨y1, y2, y3, y4, y5, y6⟩ := y
      simp only [GrewAcc, GrewClerk] at *
      have hb1 := boxed_below w (.cells #[I x1, I x2, I x3, I x4, I x5, I x6, v] 39)
      have hb2 := hb1.alloc hb1.size (.cells #[I 0, I 0, I 0, I 0, I 0, I 0, .slice none 0 0] 39)
      have kB := hb2.alloc hb2.size (.cells #[I 10000000, I 1] 78)
      have hS := h.below kB
      have oz := (Own.new (w := w.alloc (.cells #[I x1, I x2, I x3, I x4, I x5, I x6, v] 39)) (g := w.heap.size + 1) (by simp) [I 0, I 0, I 0, I 0, I 0, I 0, .slice none 0 0] 39).alloc (.cells #[I 10000000, I 1] 78)
      have tS : Sl (((w.alloc (.cells #[I x1, I x2, I x3, I x4, I x5, I x6, v] 39)).alloc (.cells #[I 0, I 0, I 0, I 0, I 0, I 0, .slice none 0 0] 39)).alloc (.cells #[I 10000000, I 1] 78)) (.slice (some ⟨w.heap.size + 1 + 1, 0, none⟩) 1 1) 2 ([⟨10000000, 1⟩] : List AStep).length (([⟨10000000, 1⟩] : List AStep).flatMap AStep.cells) := by
        have h2 := Sl.of_owns (owns_lit ((w.alloc (.cells #[I x1, I x2, I x3, I x4, I x5, I x6, v] 39)).alloc (.cells #[I 0, I 0, I 0, I 0, I 0, I 0, .slice none 0 0] 39)) [I 10000000, I 1] 78 2 1 rfl (by unfold maxLen; omega)) (by omega)
        rw [World.size_alloc, World.size_alloc] at h2
        exact h2
      clear hb1 hb2
      obtain ⟨a, cap, rfl, -⟩ := h
      go_enter Try.func38, Try.ntmps38
      go_wp2_with fail
      refine (G.out _ _ hS tS).mono ?_
      rintro e w1 ⟨g, u, rfl, hg, hO, hS1, hF, hFB, k1⟩
      have oz1 := oz.below k1
      have k := kB.trans (k1.mono kB.size)
      have hg2 : w.heap.size + 3 ≤ g := by have := hg; simp at this; omega
      have hB1 := hFB
      have hk1s := k1.size
      clear k1 kB oz hS tS G hg
      go_wp2_with fail
      refine (R.out _ _ _ _ hO hS1 hF).mono ?_
      rintro e w2 ⟨v', rfl, hO2, hS2, hF2, hB2, cg⟩
      have hfar : Far (w.heap.size + 1) v' := (hB2 _ hk1s hFB).far (by first | (simp; done) | (simp; omega))
      have hO3 : Own w2 g [I y1, I y2, I y3, I y4, I y5, I y6, v', .slice (some ⟨w.heap.size + 1 + 1, 0, none⟩) 1 1, I 0, I 0, I 0, I 0] := hO2
      have kk := cg.below k (by omega) k.size
      have zO := oz1.chg cg (by omega)
      have z0 := zO.cell 0 (by simp)
      have zf0 := zO.frozen 0
      have z1 := zO.cell 1 (by simp)
      have zf1 := zO.frozen 1
      have z2 := zO.cell 2 (by simp)
      have zf2 := zO.frozen 2
      have z3 := zO.cell 3 (by simp)
      have zf3 := zO.frozen 3
      have z4 := zO.cell 4 (by simp)
      have zf4 := zO.frozen 4
      have z5 := zO.cell 5 (by simp)
      have zf5 := zO.frozen 5
      have z6 := zO.cell 6 (by simp)
      have zf6 := zO.frozen 6
      simp only [Nat.zero_add, List.getD_cons_zero, List.getD_cons_succ] at z0 z1 z2 z3 z4 z5 z6
      clear zO
      have hS3 := hS2
      obtain ⟨a', cap', rfl, -⟩ := hS2
      have cO := hO3
      have c0 := cO.cell 0 (by simp)
      have cf0 := cO.frozen 0
      have c1 := cO.cell 1 (by simp)
      have cf1 := cO.frozen 1
      have c2 := cO.cell 2 (by simp)
      have cf2 := cO.frozen 2
      have c3 := cO.cell 3 (by simp)
      have cf3 := cO.frozen 3
      have c4 := cO.cell 4 (by simp)
      have cf4 := cO.frozen 4
      have c5 := cO.cell 5 (by simp)
      have cf5 := cO.frozen 5
      have c6 := cO.cell 6 (by simp)
      have cf6 := cO.frozen 6
      simp only [Nat.zero_add, List.getD_cons_zero, List.getD_cons_succ] at c0 c1 c2 c3 c4 c5 c6
      clear cO
      have hne : ¬ g = w.heap.size + 1 := by omega
      have HS := Lib.hid hS3
      have HF := Lib.hid hfar
      clear hO2 hO3 hS3 hF2 hB2 cg k oz1 hO hS1 hF hFB R hB1 hfar
      have r1 := set_same
      have r2 := set_off
      have r3 := set_blk
      go_wp2
      exact bodyPost_ret (v := T2 (.agg #[I y1, I y2, I y3, I y4, I y5, I y6, .slice a' ys.length cap']) (I 0)) (by simp [results, Try.results38, go_sem, *]; try omega) rfl (⟨_, rfl, ((((((HS.out.set HF.out _).set HF.out _).set HF.out _).set HF.out _).set HF.out _).set HF.out _).set HF.out _, (by repeat first | with_reducible assumption | with_reducible exact Below.refl _ _ | with_reducible refine Below.setCell ?_ (by first | exact Nat.le_refl _ | exact Below.size (by assumption) | (simp; done) | (simp; omega) | omega) _ | with_reducible refine Below.alloc ?_ (by first | exact Nat.le_refl _ | exact Below.size (by assumption) | (simp; done) | (simp; omega) | omega) _ | with_reducible refine drewN_below ?_ _ | with_reducible refine Below.drew ?_)⟩)
    · have hE2 : rolledE x xs m = rollE x m := by simp [rolledE, c0]
      obtain ⟨e1, e2⟩ := rolled_err (x := x) (xs := xs) (m := m) (by rw [hE2]; exact hE)
      rw [e1, e2, hE2]
      have R := Lib.hid (fun W g u tv hO => roll_bad g x u tv 0 0 0 0 m W hO hE)
      clear e1 e2 hE2 c0
      generalize rollE x m = E at *
      obtain ⟨x1, x2, x3, x4, x5, x6⟩ := x
      simp only [GrewAcc, GrewClerk] at *
      have hb1 := boxed_below w (.cells #[I x1, I x2, I x3, I x4, I x5, I x6, v] 39)
      have hb2 := hb1.alloc hb1.size (.cells #[I 0, I 0, I 0, I 0, I 0, I 0, .slice none 0 0] 39)
      have kB := hb2.alloc hb2.size (.cells #[I 10000000, I 1] 78)
      have hS := h.below kB
      have oz := (Own.new (w := w.alloc (.cells #[I x1, I x2, I x3, I x4, I x5, I x6, v] 39)) (g := w.heap.size + 1) (by simp) [I 0, I 0, I 0, I 0, I 0, I 0, .slice none 0 0] 39).alloc (.cells #[I 10000000, I 1] 78)
      have tS : Sl (((w.alloc (.cells #[I x1, I x2, I x3, I x4, I x5, I x6, v] 39)).alloc (.cells #[I 0, I 0, I 0, I 0, I 0, I 0, .slice none 0 0] 39)).alloc (.cells #[I 10000000, I 1] 78)) (.slice (some ⟨w.heap.size + 1 + 1, 0, none⟩) 1 1) 2 ([⟨10000000, 1⟩] : List AStep).length (([⟨10000000, 1⟩] : List AStep).flatMap AStep.cells) := by
        have h2 := Sl.of_owns (owns_lit ((w.alloc (.cells #[I x1, I x2, I x3, I x4, I x5, I x6, v] 39)).alloc (.cells #[I 0, I 0, I 0, I 0, I 0, I 0, .slice none 0 0] 39)) [I 10000000, I 1] 78 2 1 rfl (by unfold maxLen; omega)) (by omega)
        rw [World.size_alloc, World.size_alloc] at h2
        exact h2
      clear hb1 hb2
      obtain ⟨a, cap, rfl, -⟩ := h
      go_enter Try.func38, Try.ntmps38
      go_wp2_with fail
      refine (G.out _ _ hS tS).mono ?_
      rintro e w1 ⟨g, u, rfl, hg, hO, hS1, hF, hFB, k1⟩
      have oz1 := oz.below k1
      have k := kB.trans (k1.mono kB.size)
      clear k1 kB oz hS tS G hS1 hF hFB hg
      go_wp2_with fail
      refine (R.out _ _ _ _ hO).mono ?_
      rintro e w2 ⟨rfl, k2⟩
      have zO := oz1.below k2
      have z0 := zO.cell 0 (by simp)
      have zf0 := zO.frozen 0
      have z1 := zO.cell 1 (by simp)
      have zf1 := zO.frozen 1
      have z2 := zO.cell 2 (by simp)
      have zf2 := zO.frozen 2
      have z3 := zO.cell 3 (by simp)
      have zf3 := zO.frozen 3
      have z4 := zO.cell 4 (by simp)
      have zf4 := zO.frozen 4
      have z5 := zO.cell 5 (by simp)
      have zf5 := zO.frozen 5
      have z6 := zO.cell 6 (by simp)
      have zf6 := zO.frozen 6
      simp only [Nat.zero_add, List.getD_cons_zero, List.getD_cons_succ] at z0 z1 z2 z3 z4 z5 z6
      clear zO
      have kk := k.trans (k2.mono k.size)
      clear k2 k oz1 hO R
      have r1 := set_same
      have r2 := set_off
      have r3 := set_blk
      go_wp2
      exact bodyPost_ret (v := T2 (.agg #[I 0, I 0, I 0, I 0, I 0, I 0, .slice none 0 0]) (I E)) (by simp [results, Try.results38, go_sem, *]; try omega) rfl (⟨_, rfl, Sl.nil _ _, (by repeat first | with_reducible assumption | with_reducible exact Below.refl _ _ | with_reducible refine Below.setCell ?_ (by first | exact Nat.le_refl _ | exact Below.size (by assumption) | (simp; done) | (simp; omega) | omega) _ | with_reducible refine Below.alloc ?_ (by first | exact Nat.le_refl _ | exact Below.size (by assumption) | (simp; done) | (simp; omega) | omega) _ | with_reducible refine drewN_below ?_ _ | with_reducible refine Below.drew ?_)⟩)
end Go.Proofs.Ytcpljkjibhindaa
