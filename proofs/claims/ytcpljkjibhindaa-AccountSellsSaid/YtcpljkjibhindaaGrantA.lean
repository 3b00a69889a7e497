/- account.Grant: what it answers; what fails early -/
import Derived.Test.YtcpljkjibhindaaAcctRoll
namespace Go.Proofs.Ytcpljkjibhindaa
open Go.RowKit
set_option maxRecDepth 20000

def grantE (x : AAcc) (xs : List ADebt) (ts : List AStep) (f b d al m : Int) : Int :=
  if openErr x xs ts f b d al = 0 then (if rollE x m = 0 then (if al = 0 then 22 else if x.free = m then 21 else if x.next = 1048576 then 20 else 0) else rollE x m) else openErr x xs ts f b d al
def grantX (x : AAcc) (m : Int) (E : Int) : AAcc := if E = 0 then ⟨x.meter, x.rev, x.next + 1, m, (rollX x m).bought, m⟩ else ⟨0, 0, 0, 0, 0, 0⟩
def grantL (x : AAcc) (xs : List ADebt) (m E : Int) : List ADebt := if E = 0 then rollL x xs m else []
def grantB (x : AAcc) (al E : Int) : ABill := if E = 0 then ⟨x.next, 0, 0, 0, 0, 0, al⟩ else ⟨0, 0, 0, 0, 0, 0, 0⟩
/-- .. its debts nowhere below what was there -/
def GrewAccBF (x : AAcc) (xs : List ADebt) (b : ABill) (k : Int) (w : World) (e : Ending) (w' : World) : Prop :=
  ∃ v, e = .returned (T3 (.agg #[I x.meter, I x.rev, I x.next, I x.month, I x.bought, I x.free, v]) (.agg #[I b.id, I b.tender, I b.debt, I b.fee, I b.price, I b.change, I b.units]) (I k)) ∧ Sl w' v 2 xs.length (xs.flatMap ADebt.cells) ∧ Below w.heap.size w w' ∧ FarB w.heap.size v
theorem FarB.mono1 {B C : Nat} {v : Value} (h : FarB B v) (hC : C ≤ B) : FarB C v := fun a n c e => Nat.le_trans hC (h a n c e)
theorem grant_err (x : AAcc) (xs : List ADebt) (m al : Int) {E : Int} (h : E ≠ 0) : grantX x m E = ⟨0, 0, 0, 0, 0, 0⟩ ∧ grantL x xs m E = [] ∧ grantB x al E = ⟨0, 0, 0, 0, 0, 0, 0⟩ := by simp [grantX, grantL, grantB, h]

set_option maxHeartbeats 4000000 in
theorem Grant_roll (x1 x2 x3 x4 x5 x6 : Int) (v tv : Value) (xs : List ADebt) (ts : List AStep) (f b d al m E : Int) (w : World) (h : Sl w v 2 xs.length (xs.flatMap ADebt.cells)) (ht : Sl w tv 2 ts.length (ts.flatMap AStep.cells))
    (G : Hid (∀ W, Sl W v 2 xs.length (xs.flatMap ADebt.cells) → Sl W tv 2 ts.length (ts.flatMap AStep.cells) → Calls Try.prog 61 #[.agg #[I x1, I x2, I x3, I x4, I x5, I x6, v], .agg #[tv, I f, I b, I d, I al]] W (GrewClerk ⟨x1, x2, x3, x4, x5, x6⟩ xs tv f b d al W)))
    (R : Hid (∀ W g u, Own W g (clerkC ⟨x1, x2, x3, x4, x5, x6⟩ u tv f b d al) → Calls Try.prog 62 #[.pointer (some ⟨g, 0, none⟩), I m] W (Grew (I E) W))) (hE0 : ¬ E = 0) :
    Calls Try.prog 40 #[.agg #[I x1, I x2, I x3, I x4, I x5, I x6, v], .agg #[tv, I f, I b, I d, I al], I m] w (GrewAccBF ⟨0, 0, 0, 0, 0, 0⟩ [] ⟨0, 0, 0, 0, 0, 0, 0⟩ E w) := by
  unfold GrewAccBF
  unfold GrewClerk at G
  simp only at *
  have hb1 := boxed_below w (.cells #[I x1, I x2, I x3, I x4, I x5, I x6, v] 39)
  have hb2 := hb1.alloc hb1.size (.cells #[tv, I f, I b, I d, I al] 55)
  have hb3 := hb2.alloc hb2.size (.cells #[I 0, I 0, I 0, I 0, I 0, I 0, .slice none 0 0] 39)
  have kB := hb3.alloc hb3.size (.cells #[I 0, I 0, I 0, I 0, I 0, I 0, I 0] 50)
  have hS := h.below kB
  have tS := ht.below kB
  have ot := ((Own.new (w := w.alloc (.cells #[I x1, I x2, I x3, I x4, I x5, I x6, v] 39)) (g := w.heap.size + 1) (by simp) [tv, I f, I b, I d, I al] 55).alloc (.cells #[I 0, I 0, I 0, I 0, I 0, I 0, .slice none 0 0] 39)).alloc (.cells #[I 0, I 0, I 0, I 0, I 0, I 0, I 0] 50)
  have oz := (Own.new (w := (w.alloc (.cells #[I x1, I x2, I x3, I x4, I x5, I x6, v] 39)).alloc (.cells #[tv, I f, I b, I d, I al] 55)) (g := w.heap.size + 2) (by simp) [I 0, I 0, I 0, I 0, I 0, I 0, .slice none 0 0] 39).alloc (.cells #[I 0, I 0, I 0, I 0, I 0, I 0, I 0] 50)
  have oy := Own.new (w := ((w.alloc (.cells #[I x1, I x2, I x3, I x4, I x5, I x6, v] 39)).alloc (.cells #[tv, I f, I b, I d, I al] 55)).alloc (.cells #[I 0, I 0, I 0, I 0, I 0, I 0, .slice none 0 0] 39)) (g := w.heap.size + 3) (by simp) [I 0, I 0, I 0, I 0, I 0, I 0, I 0] 50
  clear hb1 hb2 hb3
  obtain ⟨a, cap, rfl, -⟩ := h
  obtain ⟨ta, tcap, rfl, -⟩ := ht
  go_enter Try.func40, Try.ntmps40
  go_wp2_with fail
  refine (G.out _ hS tS).mono ?_
  rintro e w1 ⟨g, u, rfl, hg, hO, hS1, hF, hFB, k1⟩
  have oz1 := oz.below k1
  have oy1 := oy.below k1
  have k := kB.trans (k1.mono kB.size)
  clear k1 kB oz oy ot hS tS G hS1 hF hFB hg
  go_wp2_with fail
  refine (R.out _ _ _ hO).mono ?_
  rintro e w2 ⟨rfl, k2⟩
  have zO := oz1.below k2
  have z0 := zO.cell 0 (by simp)
  have zf0 := zO.frozen 0
  have z1 := zO.cell 1 (by simp)
  have zf1 := zO.frozen 1
  have z2 := zO.cell 2 (by simp)
  have zf2 := zO.frozen 2
  have z3 := zO.cell 3 (by simp)
  have zf3 := zO.frozen 3
  have z4 := zO.cell 4 (by simp)
  have zf4 := zO.frozen 4
  have z5 := zO.cell 5 (by simp)
  have zf5 := zO.frozen 5
  have z6 := zO.cell 6 (by simp)
  have zf6 := zO.frozen 6
  simp only [Nat.zero_add, List.getD_cons_zero, List.getD_cons_succ] at z0 z1 z2 z3 z4 z5 z6
  clear zO
  have yO := oy1.below k2
  have y0 := yO.cell 0 (by simp)
  have yf0 := yO.frozen 0
  have y1 := yO.cell 1 (by simp)
  have yf1 := yO.frozen 1
  have y2 := yO.cell 2 (by simp)
  have yf2 := yO.frozen 2
  have y3 := yO.cell 3 (by simp)
  have yf3 := yO.frozen 3
  have y4 := yO.cell 4 (by simp)
  have yf4 := yO.frozen 4
  have y5 := yO.cell 5 (by simp)
  have yf5 := yO.frozen 5
  have y6 := yO.cell 6 (by simp)
  have yf6 := yO.frozen 6
  simp only [Nat.zero_add, List.getD_cons_zero, List.getD_cons_succ] at y0 y1 y2 y3 y4 y5 y6
  clear yO
  have kk := k.trans (k2.mono k.size)
  clear k2 k oz1 oy1 hO R
  have r1 := set_same
  have r2 := set_off
  have r3 := set_blk
  go_wp2
  exact bodyPost_ret (v := T3 (.agg #[I 0, I 0, I 0, I 0, I 0, I 0, .slice none 0 0]) (.agg #[I 0, I 0, I 0, I 0, I 0, I 0, I 0]) (I E)) (by simp [results, Try.results40, go_sem, *]; try omega) rfl (⟨_, rfl, Sl.nil _ _, (by repeat first | with_reducible assumption | with_reducible exact Below.refl _ _ | with_reducible refine Below.setCell ?_ (by first | exact Nat.le_refl _ | exact Below.size (by assumption) | (simp; done) | (simp; omega) | omega) _ | with_reducible refine Below.alloc ?_ (by first | exact Nat.le_refl _ | exact Below.size (by assumption) | (simp; done) | (simp; omega) | omega) _ | with_reducible refine drewN_below ?_ _ | with_reducible refine Below.drew ?_), FarB.nil _ _ _⟩)
set_option maxHeartbeats 4000000 in
theorem Grant_open (x1 x2 x3 x4 x5 x6 : Int) (v tv : Value) (xs : List ADebt) (ts : List AStep) (f b d al m E : Int) (w : World) (h : Sl w v 2 xs.length (xs.flatMap ADebt.cells)) (ht : Sl w tv 2 ts.length (ts.flatMap AStep.cells))
    (B : Hid (∀ W, Sl W v 2 xs.length (xs.flatMap ADebt.cells) → Sl W tv 2 ts.length (ts.flatMap AStep.cells) → Calls Try.prog 61 #[.agg #[I x1, I x2, I x3, I x4, I x5, I x6, v], .agg #[tv, I f, I b, I d, I al]] W (Grew (T2 (.pointer none) (I E)) W))) (hE0 : ¬ E = 0) :
    Calls Try.prog 40 #[.agg #[I x1, I x2, I x3, I x4, I x5, I x6, v], .agg #[tv, I f, I b, I d, I al], I m] w (GrewAccBF ⟨0, 0, 0, 0, 0, 0⟩ [] ⟨0, 0, 0, 0, 0, 0, 0⟩ E w) := by
  unfold GrewAccBF
  simp only at *
  have hb1 := boxed_below w (.cells #[I x1, I x2, I x3, I x4, I x5, I x6, v] 39)
  have hb2 := hb1.alloc hb1.size (.cells #[tv, I f, I b, I d, I al] 55)
  have hb3 := hb2.alloc hb2.size (.cells #[I 0, I 0, I 0, I 0, I 0, I 0, .slice none 0 0] 39)
  have kB := hb3.alloc hb3.size (.cells #[I 0, I 0, I 0, I 0, I 0, I 0, I 0] 50)
  have hS := h.below kB
  have tS := ht.below kB
  have ot := ((Own.new (w := w.alloc (.cells #[I x1, I x2, I x3, I x4, I x5, I x6, v] 39)) (g := w.heap.size + 1) (by simp) [tv, I f, I b, I d, I al] 55).alloc (.cells #[I 0, I 0, I 0, I 0, I 0, I 0, .slice none 0 0] 39)).alloc (.cells #[I 0, I 0, I 0, I 0, I 0, I 0, I 0] 50)
  have oz := (Own.new (w := (w.alloc (.cells #[I x1, I x2, I x3, I x4, I x5, I x6, v] 39)).alloc (.cells #[tv, I f, I b, I d, I al] 55)) (g := w.heap.size + 2) (by simp) [I 0, I 0, I 0, I 0, I 0, I 0, .slice none 0 0] 39).alloc (.cells #[I 0, I 0, I 0, I 0, I 0, I 0, I 0] 50)
  have oy := Own.new (w := ((w.alloc (.cells #[I x1, I x2, I x3, I x4, I x5, I x6, v] 39)).alloc (.cells #[tv, I f, I b, I d, I al] 55)).alloc (.cells #[I 0, I 0, I 0, I 0, I 0, I 0, .slice none 0 0] 39)) (g := w.heap.size + 3) (by simp) [I 0, I 0, I 0, I 0, I 0, I 0, I 0] 50
  clear hb1 hb2 hb3
  obtain ⟨a, cap, rfl, -⟩ := h
  obtain ⟨ta, tcap, rfl, -⟩ := ht
  go_enter Try.func40, Try.ntmps40
  go_wp2_with fail
  refine (B.out _ hS tS).mono ?_
  rintro e w1 ⟨rfl, k1⟩
  have zO := oz.below k1
  have z0 := zO.cell 0 (by simp)
  have zf0 := zO.frozen 0
  have z1 := zO.cell 1 (by simp)
  have zf1 := zO.frozen 1
  have z2 := zO.cell 2 (by simp)
  have zf2 := zO.frozen 2
  have z3 := zO.cell 3 (by simp)
  have zf3 := zO.frozen 3
  have z4 := zO.cell 4 (by simp)
  have zf4 := zO.frozen 4
  have z5 := zO.cell 5 (by simp)
  have zf5 := zO.frozen 5
  have z6 := zO.cell 6 (by simp)
  have zf6 := zO.frozen 6
  simp only [Nat.zero_add, List.getD_cons_zero, List.getD_cons_succ] at z0 z1 z2 z3 z4 z5 z6
  clear zO
  have yO := oy.below k1
  have y0 := yO.cell 0 (by simp)
  have yf0 := yO.frozen 0
  have y1 := yO.cell 1 (by simp)
  have yf1 := yO.frozen 1
  have y2 := yO.cell 2 (by simp)
  have yf2 := yO.frozen 2
  have y3 := yO.cell 3 (by simp)
  have yf3 := yO.frozen 3
  have y4 := yO.cell 4 (by simp)
  have yf4 := yO.frozen 4
  have y5 := yO.cell 5 (by simp)
  have yf5 := yO.frozen 5
  have y6 := yO.cell 6 (by simp)
  have yf6 := yO.frozen 6
  simp only [Nat.zero_add, List.getD_cons_zero, List.getD_cons_succ] at y0 y1 y2 y3 y4 y5 y6
  clear yO
  have k := kB.trans (k1.mono kB.size)
  clear k1 kB oz oy ot hS tS B
  have r1 := set_same
  have r2 := set_off
  have r3 := set_blk
  go_wp2
  exact bodyPost_ret (v := T3 (.agg #[I 0, I 0, I 0, I 0, I 0, I 0, .slice none 0 0]) (.agg #[I 0, I 0, I 0, I 0, I 0, I 0, I 0]) (I E)) (by simp [results, Try.results40, go_sem, *]; try omega) rfl (⟨_, rfl, Sl.nil _ _, (by repeat first | with_reducible assumption | with_reducible exact Below.refl _ _ | with_reducible refine Below.setCell ?_ (by first | exact Nat.le_refl _ | exact Below.size (by assumption) | (simp; done) | (simp; omega) | omega) _ | with_reducible refine Below.alloc ?_ (by first | exact Nat.le_refl _ | exact Below.size (by assumption) | (simp; done) | (simp; omega) | omega) _ | with_reducible refine drewN_below ?_ _ | with_reducible refine Below.drew ?_), FarB.nil _ _ _⟩)
end Go.Proofs.Ytcpljkjibhindaa
