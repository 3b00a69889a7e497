/- account.open: a clerk for an account -/
import Derived.Test.YtcpljkjibhindaaAcctRekeyL
import Derived.Test.YtcpljkjibhindaaTerms
import Derived.Test.YtcpljkjibhindaaAgeF
namespace Go.Proofs.Ytcpljkjibhindaa
open Go.RowKit
set_option maxRecDepth 20000

/-- what is wrong with an account, or with the terms -/
def openErr (x : AAcc) (xs : List ADebt) (ts : List AStep) (f b d al : Int) : Int := if accMay x xs then termsE ts f b d al else 5
def clerkC (x : AAcc) (v tv : Value) (f b d al : Int) : List Value := [I x.meter, I x.rev, I x.next, I x.month, I x.bought, I x.free, v, tv, I f, I b, I d, I al]
def GrewClerk (x : AAcc) (xs : List ADebt) (tv : Value) (f b d al : Int) (w : World) (e : Ending) (w' : World) : Prop :=
  ∃ g v, e = .returned (T2 (.pointer (some ⟨g, 0, none⟩)) (I 0)) ∧ w.heap.size ≤ g ∧ Own w' g (clerkC x v tv f b d al) ∧ Sl w' v 2 xs.length (xs.flatMap ADebt.cells) ∧ Far g v ∧ FarB w.heap.size v ∧ Below w.heap.size w w'
set_option maxHeartbeats 4000000 in
theorem open_bad (x : AAcc) (v tv : Value) (xs : List ADebt) (ts : List AStep) (f b d al : Int) (w : World) (h : Sl w v 2 xs.length (xs.flatMap ADebt.cells)) (ht : Sl w tv 2 ts.length (ts.flatMap AStep.cells)) (hE : openErr x xs ts f b d al ≠ 0) :
    Calls Try.prog 61 #[.agg #[I x.meter, I x.rev, I x.next, I x.month, I x.bought, I x.free, v], .agg #[tv, I f, I b, I d, I al]] w (Grew (T2 (.pointer none) (I (openErr x xs ts f b d al))) w) := by
  have HEE := Lib.hid (show openErr x xs ts f b d al = if accMay x xs then termsE ts f b d al else 5 from rfl)
  generalize openErr x xs ts f b d al = E at *
  have M := Lib.hid (fun W (hW : Sl W v 2 xs.length (xs.flatMap ADebt.cells)) => may_any x v xs W hW)
  have C := Lib.hid (fun W (hW : Sl W tv 2 ts.length (ts.flatMap AStep.cells)) => CheckTerms_any tv ts f b d al W hW)
  obtain ⟨x1, x2, x3, x4, x5, x6⟩ := x
  simp only at *
  have hb1 := boxed_below w (.cells #[I x1, I x2, I x3, I x4, I x5, I x6, v] 39)
  have kB := hb1.alloc hb1.size (.cells #[tv, I f, I b, I d, I al] 55)
  have hS := h
  have tS := ht
  obtain ⟨ta, tcap, rfl, -⟩ := ht
  clear hb1
  obtain ⟨a, cap, rfl, -⟩ := h
  cases c0 : accMay ⟨x1, x2, x3, x4, x5, x6⟩ xs
  · have hr := HEE.out
    simp only [c0, Bool.false_eq_true, if_false] at hr
    subst hr
    rw [c0] at M
    clear HEE c0 hE C tS
    go_enter Try.func61, Try.ntmps61
    go_wp2_with fail
    refine (M.out _ (hS.below kB)).mono ?_
    rintro e w1 ⟨rfl, k1⟩
    have oc := ((Own.new (w := w) rfl [I x1, I x2, I x3, I x4, I x5, I x6, .slice a xs.length cap] 39).alloc (.cells #[.slice ta ts.length tcap, I f, I b, I d, I al] 55)).below k1
    have ot := (Own.new (w := w.alloc (.cells #[I x1, I x2, I x3, I x4, I x5, I x6, .slice a xs.length cap] 39)) (g := w.heap.size + 1) (by simp) [.slice ta ts.length tcap, I f, I b, I d, I al] 55).below k1
    have cO := oc
    have c0 := cO.cell 0 (by simp)
    have cf0 := cO.frozen 0
    have c1 := cO.cell 1 (by simp)
    have cf1 := cO.frozen 1
    have c2 := cO.cell 2 (by simp)
    have cf2 := cO.frozen 2
    have c3 := cO.cell 3 (by simp)
    have cf3 := cO.frozen 3
    have c4 := cO.cell 4 (by simp)
    have cf4 := cO.frozen 4
    have c5 := cO.cell 5 (by simp)
    have cf5 := cO.frozen 5
    have c6 := cO.cell 6 (by simp)
    have cf6 := cO.frozen 6
    simp only [Nat.zero_add, List.getD_cons_zero, List.getD_cons_succ] at c0 c1 c2 c3 c4 c5 c6
    clear cO
    have tO := ot
    have t0 := tO.cell 0 (by simp)
    have tf0 := tO.frozen 0
    have t1 := tO.cell 1 (by simp)
    have tf1 := tO.frozen 1
    have t2 := tO.cell 2 (by simp)
    have tf2 := tO.frozen 2
    have t3 := tO.cell 3 (by simp)
    have tf3 := tO.frozen 3
    have t4 := tO.cell 4 (by simp)
    have tf4 := tO.frozen 4
    simp only [Nat.zero_add, List.getD_cons_zero, List.getD_cons_succ] at t0 t1 t2 t3 t4
    clear tO
    have k := kB.trans (k1.mono kB.size)
    have hzw : w.heap.size + 2 ≤ w1.heap.size := by have := k1.size; simp at this; omega
    clear k1 kB
    go_wp2
    go_ret2
    exact ⟨rfl, k⟩
  · have hr := HEE.out
    simp only [c0, if_true] at hr
    rw [← hr] at C
    rw [c0] at M
    clear HEE c0 hr
    go_enter Try.func61, Try.ntmps61
    go_wp2_with fail
    refine (M.out _ (hS.below kB)).mono ?_
    rintro e w1 ⟨rfl, k1⟩
    have oc := ((Own.new (w := w) rfl [I x1, I x2, I x3, I x4, I x5, I x6, .slice a xs.length cap] 39).alloc (.cells #[.slice ta ts.length tcap, I f, I b, I d, I al] 55)).below k1
    have ot := (Own.new (w := w.alloc (.cells #[I x1, I x2, I x3, I x4, I x5, I x6, .slice a xs.length cap] 39)) (g := w.heap.size + 1) (by simp) [.slice ta ts.length tcap, I f, I b, I d, I al] 55).below k1
    have cO := oc
    have c0 := cO.cell 0 (by simp)
    have cf0 := cO.frozen 0
    have c1 := cO.cell 1 (by simp)
    have cf1 := cO.frozen 1
    have c2 := cO.cell 2 (by simp)
    have cf2 := cO.frozen 2
    have c3 := cO.cell 3 (by simp)
    have cf3 := cO.frozen 3
    have c4 := cO.cell 4 (by simp)
    have cf4 := cO.frozen 4
    have c5 := cO.cell 5 (by simp)
    have cf5 := cO.frozen 5
    have c6 := cO.cell 6 (by simp)
    have cf6 := cO.frozen 6
    simp only [Nat.zero_add, List.getD_cons_zero, List.getD_cons_succ] at c0 c1 c2 c3 c4 c5 c6
    clear cO
    have tO := ot
    have t0 := tO.cell 0 (by simp)
    have tf0 := tO.frozen 0
    have t1 := tO.cell 1 (by simp)
    have tf1 := tO.frozen 1
    have t2 := tO.cell 2 (by simp)
    have tf2 := tO.frozen 2
    have t3 := tO.cell 3 (by simp)
    have tf3 := tO.frozen 3
    have t4 := tO.cell 4 (by simp)
    have tf4 := tO.frozen 4
    simp only [Nat.zero_add, List.getD_cons_zero, List.getD_cons_succ] at t0 t1 t2 t3 t4
    clear tO
    have k := kB.trans (k1.mono kB.size)
    have hzw : w.heap.size + 2 ≤ w1.heap.size := by have := k1.size; simp at this; omega
    clear k1 kB
    go_wp2_with fail
    refine (C.out _ (tS.below k)).mono ?_
    rintro e w2 ⟨rfl, k2⟩
    have oc2 := oc.below k2
    have ot2 := ot.below k2
    have kk := k.trans (k2.mono k.size)
    have hzw2 : w.heap.size + 2 ≤ w2.heap.size := by have := k2.size; omega
    clear k2 k oc ot c0 c1 c2 c3 c4 c5 c6 cf0 cf1 cf2 cf3 cf4 cf5 cf6 t0 t1 t2 t3 t4 tf0 tf1 tf2 tf3 tf4
    have cO := oc2
    have c0 := cO.cell 0 (by simp)
    have cf0 := cO.frozen 0
    have c1 := cO.cell 1 (by simp)
    have cf1 := cO.frozen 1
    have c2 := cO.cell 2 (by simp)
    have cf2 := cO.frozen 2
    have c3 := cO.cell 3 (by simp)
    have cf3 := cO.frozen 3
    have c4 := cO.cell 4 (by simp)
    have cf4 := cO.frozen 4
    have c5 := cO.cell 5 (by simp)
    have cf5 := cO.frozen 5
    have c6 := cO.cell 6 (by simp)
    have cf6 := cO.frozen 6
    simp only [Nat.zero_add, List.getD_cons_zero, List.getD_cons_succ] at c0 c1 c2 c3 c4 c5 c6
    clear cO
    have tO := ot2
    have t0 := tO.cell 0 (by simp)
    have tf0 := tO.frozen 0
    have t1 := tO.cell 1 (by simp)
    have tf1 := tO.frozen 1
    have t2 := tO.cell 2 (by simp)
    have tf2 := tO.frozen 2
    have t3 := tO.cell 3 (by simp)
    have tf3 := tO.frozen 3
    have t4 := tO.cell 4 (by simp)
    have tf4 := tO.frozen 4
    simp only [Nat.zero_add, List.getD_cons_zero, List.getD_cons_succ] at t0 t1 t2 t3 t4
    clear tO
    go_wp2
    go_ret2
    exact ⟨rfl, kk⟩
set_option maxHeartbeats 6000000 in
theorem open_good (x : AAcc) (v tv : Value) (xs : List ADebt) (ts : List AStep) (f b d al : Int) (w : World) (h : Sl w v 2 xs.length (xs.flatMap ADebt.cells)) (ht : Sl w tv 2 ts.length (ts.flatMap AStep.cells)) (hE : openErr x xs ts f b d al = 0) :
    Calls Try.prog 61 #[.agg #[I x.meter, I x.rev, I x.next, I x.month, I x.bought, I x.free, v], .agg #[tv, I f, I b, I d, I al]] w (GrewClerk x xs tv f b d al w) := by
  obtain ⟨i0, hi, hz0, hz1, hz2⟩ := info_parts info_debts
  unfold openErr at hE
  cases c0 : accMay x xs
  · rw [c0] at hE; simp at hE
  rw [c0, if_pos rfl] at hE
  have h8 := accMay_len c0
  have M := Lib.hid (fun W (hW : Sl W v 2 xs.length (xs.flatMap ADebt.cells)) => may_any x v xs W hW)
  have C := Lib.hid (fun W (hW : Sl W tv 2 ts.length (ts.flatMap AStep.cells)) => CheckTerms_any tv ts f b d al W hW)
  obtain ⟨x1, x2, x3, x4, x5, x6⟩ := x
  simp only at *
  have hb1 := boxed_below w (.cells #[I x1, I x2, I x3, I x4, I x5, I x6, v] 39)
  have kB := hb1.alloc hb1.size (.cells #[tv, I f, I b, I d, I al] 55)
  have hS := h
  have tS := ht
  obtain ⟨ta, tcap, rfl, -⟩ := ht
  clear hb1
  rw [c0] at M
  rw [hE] at C
  clear c0 hE
  by_cases he : xs = []
  · subst he
    obtain ⟨a, cap, rfl, -⟩ := h
    go_enter Try.func61, Try.ntmps61
    go_wp2_with fail
    refine (M.out _ (hS.below kB)).mono ?_
    rintro e w1 ⟨rfl, k1⟩
    have oc := ((Own.new (w := w) rfl [I x1, I x2, I x3, I x4, I x5, I x6, .slice a ([] : List ADebt).length cap] 39).alloc (.cells #[.slice ta ts.length tcap, I f, I b, I d, I al] 55)).below k1
    have ot := (Own.new (w := w.alloc (.cells #[I x1, I x2, I x3, I x4, I x5, I x6, .slice a ([] : List ADebt).length cap] 39)) (g := w.heap.size + 1) (by simp) [.slice ta ts.length tcap, I f, I b, I d, I al] 55).below k1
    have cO := oc
    have c0 := cO.cell 0 (by simp)
    have cf0 := cO.frozen 0
    have c1 := cO.cell 1 (by simp)
    have cf1 := cO.frozen 1
    have c2 := cO.cell 2 (by simp)
    have cf2 := cO.frozen 2
    have c3 := cO.cell 3 (by simp)
    have cf3 := cO.frozen 3
    have c4 := cO.cell 4 (by simp)
    have cf4 := cO.frozen 4
    have c5 := cO.cell 5 (by simp)
    have cf5 := cO.frozen 5
    have c6 := cO.cell 6 (by simp)
    have cf6 := cO.frozen 6
    simp only [Nat.zero_add, List.getD_cons_zero, List.getD_cons_succ] at c0 c1 c2 c3 c4 c5 c6
    clear cO
    have tO := ot
    have t0 := tO.cell 0 (by simp)
    have tf0 := tO.frozen 0
    have t1 := tO.cell 1 (by simp)
    have tf1 := tO.frozen 1
    have t2 := tO.cell 2 (by simp)
    have tf2 := tO.frozen 2
    have t3 := tO.cell 3 (by simp)
    have tf3 := tO.frozen 3
    have t4 := tO.cell 4 (by simp)
    have tf4 := tO.frozen 4
    simp only [Nat.zero_add, List.getD_cons_zero, List.getD_cons_succ] at t0 t1 t2 t3 t4
    clear tO
    have k := kB.trans (k1.mono kB.size)
    have hzw : w.heap.size + 2 ≤ w1.heap.size := by have := k1.size; simp at this; omega
    clear k1 kB
    go_wp2_with fail
    refine (C.out _ (tS.below k)).mono ?_
    rintro e w2 ⟨rfl, k2⟩
    have oc2 := oc.below k2
    have ot2 := ot.below k2
    have kk := k.trans (k2.mono k.size)
    have hzw2 : w.heap.size + 2 ≤ w2.heap.size := by have := k2.size; omega
    clear k2 k oc ot c0 c1 c2 c3 c4 c5 c6 cf0 cf1 cf2 cf3 cf4 cf5 cf6 t0 t1 t2 t3 t4 tf0 tf1 tf2 tf3 tf4
    have cO := oc2
    have c0 := cO.cell 0 (by simp)
    have cf0 := cO.frozen 0
    have c1 := cO.cell 1 (by simp)
    have cf1 := cO.frozen 1
    have c2 := cO.cell 2 (by simp)
    have cf2 := cO.frozen 2
    have c3 := cO.cell 3 (by simp)
    have cf3 := cO.frozen 3
    have c4 := cO.cell 4 (by simp)
    have cf4 := cO.frozen 4
    have c5 := cO.cell 5 (by simp)
    have cf5 := cO.frozen 5
    have c6 := cO.cell 6 (by simp)
    have cf6 := cO.frozen 6
    simp only [Nat.zero_add, List.getD_cons_zero, List.getD_cons_succ] at c0 c1 c2 c3 c4 c5 c6
    clear cO
    have tO := ot2
    have t0 := tO.cell 0 (by simp)
    have tf0 := tO.frozen 0
    have t1 := tO.cell 1 (by simp)
    have tf1 := tO.frozen 1
    have t2 := tO.cell 2 (by simp)
    have tf2 := tO.frozen 2
    have t3 := tO.cell 3 (by simp)
    have tf3 := tO.frozen 3
    have t4 := tO.cell 4 (by simp)
    have tf4 := tO.frozen 4
    simp only [Nat.zero_add, List.getD_cons_zero, List.getD_cons_succ] at t0 t1 t2 t3 t4
    clear tO
    have r1 := set_same
    have r2 := set_off
    have r3 := set_blk
    cases a
    all_goals
      go_wp2
      go_ret2
      exact ⟨w2.heap.size, .slice none 0 0, rfl, by omega, Own.new (w := w2.setCell ⟨w.heap.size, 6, none⟩ (.slice none 0 0)) (by simp [World.setCell]) [I x1, I x2, I x3, I x4, I x5, I x6, .slice none 0 0, .slice ta ts.length tcap, I f, I b, I d, I al] 97, Sl.nil _ _, Far.nil _ _ _, FarB.nil _ _ _, (by repeat first | with_reducible assumption | with_reducible exact Below.refl _ _ | with_reducible refine Below.setCell ?_ (by first | exact Nat.le_refl _ | exact Below.size (by assumption) | (simp; done) | (simp; omega) | omega) _ | with_reducible refine Below.alloc ?_ (by first | exact Nat.le_refl _ | exact Below.size (by assumption) | (simp; done) | (simp; omega) | omega) _ | with_reducible refine drewN_below ?_ _ | with_reducible refine Below.drew ?_)⟩
  · have hpos : 0 < xs.length := List.length_pos_iff.2 he
    obtain ⟨a', cap', rfl, hn, hl, h0, hr⟩ := h
    obtain ⟨bk, off, rfl, hbl, hcl⟩ := hr.resolve_left (by omega)
    have hone := debts_one xs
    have Hl := Lib.hid hl
    have Hone := Lib.hid hone
    have hlen : xs.length ≤ 281474976710656 := by omega
    clear h0 hl hcl hone hr
    go_enter Try.func61, Try.ntmps61
    go_wp2_with fail
    refine (M.out _ (hS.below kB)).mono ?_
    rintro e w1 ⟨rfl, k1⟩
    have oc := ((Own.new (w := w) rfl [I x1, I x2, I x3, I x4, I x5, I x6, .slice (some ⟨bk, off, none⟩) xs.length cap'] 39).alloc (.cells #[.slice ta ts.length tcap, I f, I b, I d, I al] 55)).below k1
    have ot := (Own.new (w := w.alloc (.cells #[I x1, I x2, I x3, I x4, I x5, I x6, .slice (some ⟨bk, off, none⟩) xs.length cap'] 39)) (g := w.heap.size + 1) (by simp) [.slice ta ts.length tcap, I f, I b, I d, I al] 55).below k1
    have cO := oc
    have c0 := cO.cell 0 (by simp)
    have cf0 := cO.frozen 0
    have c1 := cO.cell 1 (by simp)
    have cf1 := cO.frozen 1
    have c2 := cO.cell 2 (by simp)
    have cf2 := cO.frozen 2
    have c3 := cO.cell 3 (by simp)
    have cf3 := cO.frozen 3
    have c4 := cO.cell 4 (by simp)
    have cf4 := cO.frozen 4
    have c5 := cO.cell 5 (by simp)
    have cf5 := cO.frozen 5
    have c6 := cO.cell 6 (by simp)
    have cf6 := cO.frozen 6
    simp only [Nat.zero_add, List.getD_cons_zero, List.getD_cons_succ] at c0 c1 c2 c3 c4 c5 c6
    clear cO
    have tO := ot
    have t0 := tO.cell 0 (by simp)
    have tf0 := tO.frozen 0
    have t1 := tO.cell 1 (by simp)
    have tf1 := tO.frozen 1
    have t2 := tO.cell 2 (by simp)
    have tf2 := tO.frozen 2
    have t3 := tO.cell 3 (by simp)
    have tf3 := tO.frozen 3
    have t4 := tO.cell 4 (by simp)
    have tf4 := tO.frozen 4
    simp only [Nat.zero_add, List.getD_cons_zero, List.getD_cons_succ] at t0 t1 t2 t3 t4
    clear tO
    have k := kB.trans (k1.mono kB.size)
    have hzw : w.heap.size + 2 ≤ w1.heap.size := by have := k1.size; simp at this; omega
    clear k1 kB
    go_wp2_with fail
    refine (C.out _ (tS.below k)).mono ?_
    rintro e w2 ⟨rfl, k2⟩
    have oc2 := oc.below k2
    have ot2 := ot.below k2
    have kk := k.trans (k2.mono k.size)
    have hzw2 : w.heap.size + 2 ≤ w2.heap.size := by have := k2.size; omega
    clear k2 k oc ot c0 c1 c2 c3 c4 c5 c6 cf0 cf1 cf2 cf3 cf4 cf5 cf6 t0 t1 t2 t3 t4 tf0 tf1 tf2 tf3 tf4
    have cO := oc2
    have c0 := cO.cell 0 (by simp)
    have cf0 := cO.frozen 0
    have c1 := cO.cell 1 (by simp)
    have cf1 := cO.frozen 1
    have c2 := cO.cell 2 (by simp)
    have cf2 := cO.frozen 2
    have c3 := cO.cell 3 (by simp)
    have cf3 := cO.frozen 3
    have c4 := cO.cell 4 (by simp)
    have cf4 := cO.frozen 4
    have c5 := cO.cell 5 (by simp)
    have cf5 := cO.frozen 5
    have c6 := cO.cell 6 (by simp)
    have cf6 := cO.frozen 6
    simp only [Nat.zero_add, List.getD_cons_zero, List.getD_cons_succ] at c0 c1 c2 c3 c4 c5 c6
    clear cO
    have tO := ot2
    have t0 := tO.cell 0 (by simp)
    have tf0 := tO.frozen 0
    have t1 := tO.cell 1 (by simp)
    have tf1 := tO.frozen 1
    have t2 := tO.cell 2 (by simp)
    have tf2 := tO.frozen 2
    have t3 := tO.cell 3 (by simp)
    have tf3 := tO.frozen 3
    have t4 := tO.cell 4 (by simp)
    have tf4 := tO.frozen 4
    simp only [Nat.zero_add, List.getD_cons_zero, List.getD_cons_succ] at t0 t1 t2 t3 t4
    clear tO
    have HN := Lib.hid (Sl.news (hS.below kk))
    clear hS
    have r1 := set_same
    have r2 := set_off
    have r3 := set_blk
    go_wp2_with
      (at_builtin
       refine wpList_append_lies _ rfl _ _ 37 rfl w2.heap.size 45 i0 (.agg #[.int .i64 0, .int .i64 0]) 2 16 Try.underlying37 hi hz0 hz1 hz2 rfl (by decide) (.slice none 0 0) 0 [] rfl (World.ownsRow_nil _ _ _ _) ⟨bk, off, none⟩ xs.length cap' (xs.flatMap ADebt.cells) rfl Hl.out HN.out Hone.out hpos (by unfold maxLen; omega) (by omega) (Nat.le_refl _) _ rfl ?_
       intro g2 cap2 w3 hown2 hgrow2 hat2 hlt2
       rw [Nat.zero_add, List.nil_append] at hown2
       have k2 : Below w2.heap.size w2 w3 := Below.grown (B := w2.heap.size) (Below.refl _ _) hgrow2 (Nat.le_refl _) (fun j hj => by cases hj)
       have kB := kk.trans (k2.mono kk.size)
       have oc3 := oc2.below k2
       have ot3 := ot2.below k2
       clear c0 c1 c2 c3 c4 c5 c6 cf0 cf1 cf2 cf3 cf4 cf5 cf6 t0 t1 t2 t3 t4 tf0 tf1 tf2 tf3 tf4
       have cO := oc3
       have c0 := cO.cell 0 (by simp)
       have cf0 := cO.frozen 0
       have c1 := cO.cell 1 (by simp)
       have cf1 := cO.frozen 1
       have c2 := cO.cell 2 (by simp)
       have cf2 := cO.frozen 2
       have c3 := cO.cell 3 (by simp)
       have cf3 := cO.frozen 3
       have c4 := cO.cell 4 (by simp)
       have cf4 := cO.frozen 4
       have c5 := cO.cell 5 (by simp)
       have cf5 := cO.frozen 5
       have c6 := cO.cell 6 (by simp)
       have cf6 := cO.frozen 6
       simp only [Nat.zero_add, List.getD_cons_zero, List.getD_cons_succ] at c0 c1 c2 c3 c4 c5 c6
       clear cO
       have tO := ot3
       have t0 := tO.cell 0 (by simp)
       have tf0 := tO.frozen 0
       have t1 := tO.cell 1 (by simp)
       have tf1 := tO.frozen 1
       have t2 := tO.cell 2 (by simp)
       have tf2 := tO.frozen 2
       have t3 := tO.cell 3 (by simp)
       have tf3 := tO.frozen 3
       have t4 := tO.cell 4 (by simp)
       have tf4 := tO.frozen 4
       simp only [Nat.zero_add, List.getD_cons_zero, List.getD_cons_succ] at t0 t1 t2 t3 t4
       clear tO
       have hfA : Far w.heap.size (.slice (some ⟨g2, 0, none⟩) xs.length cap2) := Far.lit (by rcases hat2 with h | h; (cases h); omega)
       have hge2 : w.heap.size ≤ g2 := by rcases hat2 with h | h; (cases h); omega
       have HS := Lib.hid (Sl.of_owns hown2 hlen)
       have hsz3 := kB.size
       clear hat2 hgrow2 hown2 k2 kk)
    have hne2 : g2 ≠ w3.heap.size := by omega
    go_wp2
    go_ret2
    exact ⟨w3.heap.size, .slice (some ⟨g2, 0, none⟩) xs.length cap2, rfl, by omega, Own.new (w := w3.setCell ⟨w.heap.size, 6, none⟩ (.slice (some ⟨g2, 0, none⟩) xs.length cap2)) (by simp [World.setCell]) [I x1, I x2, I x3, I x4, I x5, I x6, .slice (some ⟨g2, 0, none⟩) xs.length cap2, .slice ta ts.length tcap, I f, I b, I d, I al] 97, (HS.out.set hfA _).below (boxed_below _ _), Far.lit hne2, FarB.lit hge2, (by repeat first | with_reducible assumption | with_reducible exact Below.refl _ _ | with_reducible refine Below.setCell ?_ (by first | exact Nat.le_refl _ | exact Below.size (by assumption) | (simp; done) | (simp; omega) | omega) _ | with_reducible refine Below.alloc ?_ (by first | exact Nat.le_refl _ | exact Below.size (by assumption) | (simp; done) | (simp; omega) | omega) _ | with_reducible refine drewN_below ?_ _ | with_reducible refine Below.drew ?_)⟩
end Go.Proofs.Ytcpljkjibhindaa
