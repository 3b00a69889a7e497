/- account.Roll · account.Grant: what it answers; what fails early · cents.Part and its reference: the contracts · the share of a sale that goes to debts -/
import Derived.Test.YtenoigmkhlnfoaaRoll
import Derived.Test.YtenoigmkhlnfoaaPk02
import Derived.Test.YtenoigmkhlnfoaaPk04
namespace Go.Proofs.Ytenoigmkhlnfoaa
set_option linter.unusedSimpArgs false
set_option linter.unusedVariables false
open Go.RowKit
set_option maxRecDepth 20000

def rolledE (x : AAcc) (xs : List ADebt) (m : Int) : Int := if accMay x xs then rollE x m else 5
def rolledX (x : AAcc) (xs : List ADebt) (m : Int) : AAcc := if rolledE x xs m = 0 then rollX x m else ⟨0, 0, 0, 0, 0, 0⟩
def rolledL (x : AAcc) (xs : List ADebt) (m : Int) : List ADebt := if rolledE x xs m = 0 then rollL x xs m else []
theorem rolled_err {x : AAcc} {xs : List ADebt} {m : Int} (h : rolledE x xs m ≠ 0) : rolledX x xs m = ⟨0, 0, 0, 0, 0, 0⟩ ∧ rolledL x xs m = [] := by simp [rolledX, rolledL, h]
theorem rolled_ok {x : AAcc} {xs : List ADebt} {m : Int} (h : rolledE x xs m = 0) : rolledX x xs m = rollX x m ∧ rolledL x xs m = rollL x xs m := by simp [rolledX, rolledL, h]
end Go.Proofs.Ytenoigmkhlnfoaa
namespace Go.Proofs.Ytenoigmkhlnfoaa
set_option linter.unusedSimpArgs false
set_option linter.unusedVariables false
open Go.RowKit
set_option maxRecDepth 20000

def grantE (x : AAcc) (xs : List ADebt) (ts : List AStep) (f b d al m : Int) : Int :=
  if openErr x xs ts f b d al = 0 then (if rollE x m = 0 then (if al = 0 then 22 else if x.free = m then 21 else if x.next = 1048576 then 20 else 0) else rollE x m) else openErr x xs ts f b d al
def grantX (x : AAcc) (m : Int) (E : Int) : AAcc := if E = 0 then ⟨x.meter, x.rev, x.next + 1, m, (rollX x m).bought, m⟩ else ⟨0, 0, 0, 0, 0, 0⟩
def grantL (x : AAcc) (xs : List ADebt) (m E : Int) : List ADebt := if E = 0 then rollL x xs m else []
def grantB (x : AAcc) (al E : Int) : ABill := if E = 0 then ⟨x.next, 0, 0, 0, 0, 0, al⟩ else ⟨0, 0, 0, 0, 0, 0, 0⟩
theorem FarB.mono1 {B C : Nat} {v : Value} (h : FarB B v) (hC : C ≤ B) : FarB C v := fun a n c e => Nat.le_trans hC (h a n c e)
theorem grant_err (x : AAcc) (xs : List ADebt) (m al : Int) {E : Int} (h : E ≠ 0) : grantX x m E = ⟨0, 0, 0, 0, 0, 0⟩ ∧ grantL x xs m E = [] ∧ grantB x al E = ⟨0, 0, 0, 0, 0, 0, 0⟩ := by simp [grantX, grantL, grantB, h]

set_option maxHeartbeats 4000000 in
theorem Grant_roll (x1 x2 x3 x4 x5 x6 : Int) (v tv : Value) (xs : List ADebt) (ts : List AStep) (f b d al m E : Int) (w : World) (h : Sl w v 2 xs.length (xs.flatMap ADebt.cells)) (ht : Sl w tv 2 ts.length (ts.flatMap AStep.cells))
    (G : Hid (∀ W, Sl W v 2 xs.length (xs.flatMap ADebt.cells) → Sl W tv 2 ts.length (ts.flatMap AStep.cells) → Calls Try.prog 107 #[.agg #[I x1, I x2, I x3, I x4, I x5, I x6, v], .agg #[tv, I f, I b, I d, I al]] W (GrewClerk ⟨x1, x2, x3, x4, x5, x6⟩ xs tv f b d al W)))
    (R : Hid (∀ W g u, Own W g (clerkC ⟨x1, x2, x3, x4, x5, x6⟩ u tv f b d al) → Calls Try.prog 108 #[.pointer (some ⟨g, 0, none⟩), I m] W (Grew (I E) W))) (hE0 : ¬ E = 0) :
    Calls Try.prog 87 #[.agg #[I x1, I x2, I x3, I x4, I x5, I x6, v], .agg #[tv, I f, I b, I d, I al], I m] w (GrewAccBF ⟨0, 0, 0, 0, 0, 0⟩ [] ⟨0, 0, 0, 0, 0, 0, 0⟩ E w) := by
  unfold GrewAccBF
  unfold GrewClerk at G
  simp only at *
  have hb1 := boxed_below w (.cells #[I x1, I x2, I x3, I x4, I x5, I x6, v] 79)
  have hb2 := hb1.alloc hb1.size (.cells #[tv, I f, I b, I d, I al] 24)
  have hb3 := hb2.alloc hb2.size (.cells #[I 0, I 0, I 0, I 0, I 0, I 0, .slice none 0 0] 79)
  have kB := hb3.alloc hb3.size (.cells #[I 0, I 0, I 0, I 0, I 0, I 0, I 0] 70)
  have hS := h.below kB
  have tS := ht.below kB
  have ot := ((Own.new (w := w.alloc (.cells #[I x1, I x2, I x3, I x4, I x5, I x6, v] 79)) (g := w.heap.size + 1) (by simp) [tv, I f, I b, I d, I al] 24).alloc (.cells #[I 0, I 0, I 0, I 0, I 0, I 0, .slice none 0 0] 79)).alloc (.cells #[I 0, I 0, I 0, I 0, I 0, I 0, I 0] 70)
  have oz := (Own.new (w := (w.alloc (.cells #[I x1, I x2, I x3, I x4, I x5, I x6, v] 79)).alloc (.cells #[tv, I f, I b, I d, I al] 24)) (g := w.heap.size + 2) (by simp) [I 0, I 0, I 0, I 0, I 0, I 0, .slice none 0 0] 79).alloc (.cells #[I 0, I 0, I 0, I 0, I 0, I 0, I 0] 70)
  have oy := Own.new (w := ((w.alloc (.cells #[I x1, I x2, I x3, I x4, I x5, I x6, v] 79)).alloc (.cells #[tv, I f, I b, I d, I al] 24)).alloc (.cells #[I 0, I 0, I 0, I 0, I 0, I 0, .slice none 0 0] 79)) (g := w.heap.size + 3) (by simp) [I 0, I 0, I 0, I 0, I 0, I 0, I 0] 70
  clear hb1 hb2 hb3
  obtain ⟨a, cap, rfl, -⟩ := h
  obtain ⟨ta, tcap, rfl, -⟩ := ht
  go_enter Try.func87, Try.ntmps87
  go_wp2_with fail
  refine (G.out _ hS tS).mono ?_
  rintro e w1 ⟨g, u, rfl, hg, hO, hS1, hF, hFB, k1⟩
  have oz1 := oz.below k1
  have oy1 := oy.below k1
  have k := kB.trans (k1.mono kB.size)
  clear k1 kB oz oy ot hS tS G hS1 hF hFB hg
  go_wp2_with fail
  refine (R.out _ _ _ hO).mono ?_
  rintro e w2 ⟨rfl, k2⟩
  have zO := oz1.below k2
  obtain ⟨⟨z0, zf0⟩, ⟨z1, zf1⟩, ⟨z2, zf2⟩, ⟨z3, zf3⟩, ⟨z4, zf4⟩, ⟨z5, zf5⟩, ⟨z6, zf6⟩, -⟩ := zO.a7
  simp only [Nat.zero_add, List.getD_cons_zero, List.getD_cons_succ] at z0 z1 z2 z3 z4 z5 z6
  clear zO
  have yO := oy1.below k2
  obtain ⟨⟨y0, yf0⟩, ⟨y1, yf1⟩, ⟨y2, yf2⟩, ⟨y3, yf3⟩, ⟨y4, yf4⟩, ⟨y5, yf5⟩, ⟨y6, yf6⟩, -⟩ := yO.a7
  simp only [Nat.zero_add, List.getD_cons_zero, List.getD_cons_succ] at y0 y1 y2 y3 y4 y5 y6
  clear yO
  have kk := k.trans (k2.mono k.size)
  clear k2 k oz1 oy1 hO R
  have r1 := set_same
  have r2 := set_off
  have r3 := set_blk
  go_wp2
  exact bodyPost_ret (v := T3 (.agg #[I 0, I 0, I 0, I 0, I 0, I 0, .slice none 0 0]) (.agg #[I 0, I 0, I 0, I 0, I 0, I 0, I 0]) (I E)) (by simp [results, Try.results87, go_sem, *]; try omega) rfl (⟨_, rfl, Sl.nil _ _, (by repeat first | with_reducible assumption | with_reducible exact Below.refl _ _ | with_reducible refine Below.setCell ?_ (by first | exact Nat.le_refl _ | exact Below.size (by assumption) | (simp; done) | (simp; omega) | omega) _ | with_reducible refine Below.alloc ?_ (by first | exact Nat.le_refl _ | exact Below.size (by assumption) | (simp; done) | (simp; omega) | omega) _ | with_reducible refine drewN_below ?_ _ | with_reducible refine Below.drew ?_), FarB.nil _ _ _⟩)
set_option maxHeartbeats 4000000 in
theorem Grant_open (x1 x2 x3 x4 x5 x6 : Int) (v tv : Value) (xs : List ADebt) (ts : List AStep) (f b d al m E : Int) (w : World) (h : Sl w v 2 xs.length (xs.flatMap ADebt.cells)) (ht : Sl w tv 2 ts.length (ts.flatMap AStep.cells))
    (B : Hid (∀ W, Sl W v 2 xs.length (xs.flatMap ADebt.cells) → Sl W tv 2 ts.length (ts.flatMap AStep.cells) → Calls Try.prog 107 #[.agg #[I x1, I x2, I x3, I x4, I x5, I x6, v], .agg #[tv, I f, I b, I d, I al]] W (Grew (T2 (.pointer none) (I E)) W))) (hE0 : ¬ E = 0) :
    Calls Try.prog 87 #[.agg #[I x1, I x2, I x3, I x4, I x5, I x6, v], .agg #[tv, I f, I b, I d, I al], I m] w (GrewAccBF ⟨0, 0, 0, 0, 0, 0⟩ [] ⟨0, 0, 0, 0, 0, 0, 0⟩ E w) := by
  unfold GrewAccBF
  simp only at *
  have hb1 := boxed_below w (.cells #[I x1, I x2, I x3, I x4, I x5, I x6, v] 79)
  have hb2 := hb1.alloc hb1.size (.cells #[tv, I f, I b, I d, I al] 24)
  have hb3 := hb2.alloc hb2.size (.cells #[I 0, I 0, I 0, I 0, I 0, I 0, .slice none 0 0] 79)
  have kB := hb3.alloc hb3.size (.cells #[I 0, I 0, I 0, I 0, I 0, I 0, I 0] 70)
  have hS := h.below kB
  have tS := ht.below kB
  have ot := ((Own.new (w := w.alloc (.cells #[I x1, I x2, I x3, I x4, I x5, I x6, v] 79)) (g := w.heap.size + 1) (by simp) [tv, I f, I b, I d, I al] 24).alloc (.cells #[I 0, I 0, I 0, I 0, I 0, I 0, .slice none 0 0] 79)).alloc (.cells #[I 0, I 0, I 0, I 0, I 0, I 0, I 0] 70)
  have oz := (Own.new (w := (w.alloc (.cells #[I x1, I x2, I x3, I x4, I x5, I x6, v] 79)).alloc (.cells #[tv, I f, I b, I d, I al] 24)) (g := w.heap.size + 2) (by simp) [I 0, I 0, I 0, I 0, I 0, I 0, .slice none 0 0] 79).alloc (.cells #[I 0, I 0, I 0, I 0, I 0, I 0, I 0] 70)
  have oy := Own.new (w := ((w.alloc (.cells #[I x1, I x2, I x3, I x4, I x5, I x6, v] 79)).alloc (.cells #[tv, I f, I b, I d, I al] 24)).alloc (.cells #[I 0, I 0, I 0, I 0, I 0, I 0, .slice none 0 0] 79)) (g := w.heap.size + 3) (by simp) [I 0, I 0, I 0, I 0, I 0, I 0, I 0] 70
  clear hb1 hb2 hb3
  obtain ⟨a, cap, rfl, -⟩ := h
  obtain ⟨ta, tcap, rfl, -⟩ := ht
  go_enter Try.func87, Try.ntmps87
  go_wp2_with fail
  refine (B.out _ hS tS).mono ?_
  rintro e w1 ⟨rfl, k1⟩
  have zO := oz.below k1
  obtain ⟨⟨z0, zf0⟩, ⟨z1, zf1⟩, ⟨z2, zf2⟩, ⟨z3, zf3⟩, ⟨z4, zf4⟩, ⟨z5, zf5⟩, ⟨z6, zf6⟩, -⟩ := zO.a7
  simp only [Nat.zero_add, List.getD_cons_zero, List.getD_cons_succ] at z0 z1 z2 z3 z4 z5 z6
  clear zO
  have yO := oy.below k1
  obtain ⟨⟨y0, yf0⟩, ⟨y1, yf1⟩, ⟨y2, yf2⟩, ⟨y3, yf3⟩, ⟨y4, yf4⟩, ⟨y5, yf5⟩, ⟨y6, yf6⟩, -⟩ := yO.a7
  simp only [Nat.zero_add, List.getD_cons_zero, List.getD_cons_succ] at y0 y1 y2 y3 y4 y5 y6
  clear yO
  have k := kB.trans (k1.mono kB.size)
  clear k1 kB oz oy ot hS tS B
  have r1 := set_same
  have r2 := set_off
  have r3 := set_blk
  go_wp2
  exact bodyPost_ret (v := T3 (.agg #[I 0, I 0, I 0, I 0, I 0, I 0, .slice none 0 0]) (.agg #[I 0, I 0, I 0, I 0, I 0, I 0, I 0]) (I E)) (by simp [results, Try.results87, go_sem, *]; try omega) rfl (⟨_, rfl, Sl.nil _ _, (by repeat first | with_reducible assumption | with_reducible exact Below.refl _ _ | with_reducible refine Below.setCell ?_ (by first | exact Nat.le_refl _ | exact Below.size (by assumption) | (simp; done) | (simp; omega) | omega) _ | with_reducible refine Below.alloc ?_ (by first | exact Nat.le_refl _ | exact Below.size (by assumption) | (simp; done) | (simp; omega) | omega) _ | with_reducible refine drewN_below ?_ _ | with_reducible refine Below.drew ?_), FarB.nil _ _ _⟩)
end Go.Proofs.Ytenoigmkhlnfoaa
namespace Go.Proofs.Ytenoigmkhlnfoaa
set_option linter.unusedSimpArgs false
set_option linter.unusedVariables false
open Go.RowKit
set_option maxRecDepth 20000

theorem within_any (n low high : Int) (w : World) : Calls Try.prog 125 #[I n, I low, I high] w (Pure (.bool (inB n low high)) w) := by
  go_enter Try.func125, Try.ntmps125
  go_wp2
  all_goals
    go_ret
    refine Pure.intro ?_
    simp only [inB]
    simp [*]
    try omega

def partOk (a b : Int) : Bool := inB a 0 1000000000000 && inB b 0 10000
def partA (a b : Int) : Int := if partOk a b then a * b / 10000 else 0
def partE (a b : Int) : Int := if partOk a b then 0 else 2

theorem mul_le (a b : Int) (h0 : 0 ≤ a) (h1 : a ≤ 1000000000000) (g0 : 0 ≤ b) (g1 : b ≤ 10000) : 0 ≤ a * b ∧ a * b ≤ 10000000000000000 := by
  refine ⟨Int.mul_nonneg h0 g0, ?_⟩
  calc a * b ≤ a * 10000 := Int.mul_le_mul_of_nonneg_left g1 h0
    _ ≤ 1000000000000 * 10000 := by omega

theorem part_any (a b : Int) (w : World) : Calls Try.prog 119 #[I a, I b] w (Pure (T2 (I (partA a b)) (I (partE a b))) w) := by
  by_cases ha : inB a 0 1000000000000 = true
  · by_cases hb : inB b 0 10000 = true
    · have ha' := inB_true.1 ha
      have hb' := inB_true.1 hb
      have hm := mul_le a b ha'.1 ha'.2 hb'.1 hb'.2
      have hm0 := hm.1
      have hm1 := hm.2
      go_enter Try.func119, Try.ntmps119
      go_wp2_with (go_at_call 125; refine (within_any _ _ _ _).mono ?_; rintro e w' ⟨rfl, rfl⟩)
      go_ret2
      refine Pure.intro (eI2 ?_ ?_) <;> simp [partA, partE, partOk, ha, hb]
    · simp only [Bool.not_eq_true] at hb
      go_enter Try.func119, Try.ntmps119
      go_wp2_with (go_at_call 125; refine (within_any _ _ _ _).mono ?_; rintro e w' ⟨rfl, rfl⟩)
      go_ret2
      refine Pure.intro (eI2 ?_ ?_) <;> simp [partA, partE, partOk, ha, hb]
  · simp only [Bool.not_eq_true] at ha
    go_enter Try.func119, Try.ntmps119
    go_wp2_with (go_at_call 125; refine (within_any _ _ _ _).mono ?_; rintro e w' ⟨rfl, rfl⟩)
    go_ret2
    refine Pure.intro (eI2 ?_ ?_) <;> simp [partA, partE, partOk, ha]

theorem mul_eq (a b : Int) : a / 10000 * b + a % 10000 * b / 10000 = a * b / 10000 := by
  have h : a * b = 10000 * (a / 10000 * b) + a % 10000 * b := by
    conv => lhs; rw [← Int.mul_ediv_add_emod a 10000]
    rw [Int.add_mul, Int.mul_assoc]
  rw [h, Int.add_comm (10000 * _), Int.add_mul_ediv_left _ _ (by decide), Int.add_comm]

theorem parted_any (a b : Int) (w : World) : Calls Try.prog 91 #[I a, I b] w (Pure (T2 (I (partA a b)) (I (partE a b))) w) := by
  by_cases ha : inB a 0 1000000000000 = true
  · by_cases hb : inB b 0 10000 = true
    · have ha' := inB_true.1 ha
      have hb' := inB_true.1 hb
      obtain ⟨h0, h1⟩ := ha'
      have hm := mul_le (a / 10000) b (by omega) (by omega) hb'.1 hb'.2
      have hm0 := hm.1
      have hm1 := hm.2
      have hn := mul_le (a % 10000) b (by omega) (by omega) hb'.1 hb'.2
      have hn0 := hn.1
      have hn1 := hn.2
      go_enter Try.func91, Try.ntmps91
      go_wp2_with (go_at_call 43; refine (In_any _ _ _ _).mono ?_; rintro e w' ⟨rfl, rfl⟩)
      go_ret2
      refine Pure.intro (eI2 ?_ ?_)
      · rw [mul_eq]; simp [partA, partOk, ha, hb]
      · simp [partE, partOk, ha, hb]
    · simp only [Bool.not_eq_true] at hb
      go_enter Try.func91, Try.ntmps91
      go_wp2_with (go_at_call 43; refine (In_any _ _ _ _).mono ?_; rintro e w' ⟨rfl, rfl⟩)
      go_ret2
      refine Pure.intro (eI2 ?_ ?_) <;> simp [partA, partE, partOk, ha, hb]
  · simp only [Bool.not_eq_true] at ha
    go_enter Try.func91, Try.ntmps91
    go_wp2_with (go_at_call 43; refine (In_any _ _ _ _).mono ?_; rintro e w' ⟨rfl, rfl⟩)
    go_ret2
    refine Pure.intro (eI2 ?_ ?_) <;> simp [partA, partE, partOk, ha]


theorem partA_bd (a b : Int) : 0 ≤ partA a b ∧ partA a b ≤ 1000000000000 := by
  unfold partA
  split
  · rename_i h
    simp only [partOk, Bool.and_eq_true, inB_true] at h
    have := mul_le a b h.1.1 h.1.2 h.2.1 h.2.2
    omega
  · omega
theorem partA_le (a b : Int) (h0 : 0 ≤ a) : partA a b ≤ a := by
  unfold partA
  split
  · rename_i h
    simp only [partOk, Bool.and_eq_true, inB_true] at h
    have : a * b ≤ a * 10000 := Int.mul_le_mul_of_nonneg_left h.2.2 h0
    omega
  · omega
end Go.Proofs.Ytenoigmkhlnfoaa
namespace Go.Proofs.Ytenoigmkhlnfoaa
set_option linter.unusedSimpArgs false
set_option linter.unusedVariables false
open Go.RowKit
set_option maxRecDepth 20000

def shareOk (t bp : Int) : Bool := inB t 0 100000000 && inB bp 0 10000
def shareA (t bp : Int) : Int := if shareOk t bp then partA t bp else 0
def shareE (t bp : Int) : Int := if shareOk t bp then 0 else 2
theorem shareOf_any (t bp : Int) (w : World) : Calls Try.prog 111 #[I t, I bp] w (Pure (T2 (I (shareA t bp)) (I (shareE t bp))) w) := by
  by_cases ht : inB t 0 100000000 = true
  · obtain ⟨t0, t1⟩ := inB_true.1 ht
    have h1 : inB t 0 1000000000000 = true := inB_true.2 ⟨by omega, by omega⟩
    have hA : shareA t bp = partA t bp := by
      simp only [shareA, shareOk, ht, Bool.true_and]
      cases hb : inB bp 0 10000
      · simp [partA, partOk, hb]
      · rfl
    have hE : shareE t bp = partE t bp := by
      simp only [shareE, shareOk, ht, Bool.true_and, partE, partOk, h1]
    rw [hA, hE]
    clear hA hE h1
    go_enter Try.func111, Try.ntmps111
    go_wp2_with (first | (go_at_call 43; refine (In_any _ _ _ _).mono ?_; rintro e w' ⟨rfl, rfl⟩) | (go_at_call 91; refine (parted_any _ _ _).mono ?_; rintro e w' ⟨rfl, rfl⟩))
    go_ret2
    exact Pure.intro rfl
  · simp only [Bool.not_eq_true] at ht
    have hA : shareA t bp = 0 := by simp [shareA, shareOk, ht]
    have hE : shareE t bp = 2 := by simp [shareE, shareOk, ht]
    rw [hA, hE]
    clear hA hE
    go_enter Try.func111, Try.ntmps111
    go_wp2_with (go_at_call 43; refine (In_any _ _ _ _).mono ?_; rintro e w' ⟨rfl, rfl⟩)
    go_ret2
    exact Pure.intro rfl

theorem debtSum_bd {xs : List ADebt} (h8 : xs.length ≤ 8) (hok : xs.all okDebt = true) : 0 ≤ debtSum xs ∧ debtSum xs ≤ 8000000000 := by
  have := sumTo_bd hok xs.length (Nat.le_refl _)
  rw [sumTo_all] at this
  omega

end Go.Proofs.Ytenoigmkhlnfoaa
