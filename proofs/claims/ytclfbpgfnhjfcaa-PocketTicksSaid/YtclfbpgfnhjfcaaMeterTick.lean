/- meter.Tick and its reference -/
import Derived.Test.YtclfbpgfnhjfcaaMeter
import Derived.Test.YtclfbpgfnhjfcaaOwn
namespace Go.Proofs.Ytclfbpgfnhjfcaa
open Go.RowKit
set_option maxRecDepth 20000

/-- a tick -/
def tickE (m : MM) (load : Int) : Int := if m.ok = false then 5 else if inB load 0 1000 then 0 else 2
def tickN (m : MM) (load : Int) : Int := if tickE m load = 0 then min load m.cr else 0
def tickM (m : MM) (load : Int) : MM := if m.ok = false then ⟨0, 0, 0, 0, 0, 0, 0⟩ else if inB load 0 1000 then { m with cr := m.cr - min load m.cr, lk := max (m.lk - 1) 0 } else m

set_option maxHeartbeats 2000000 in
theorem Tick_any (m : MM) (load : Int) (w : World) (hb : m.b < 18446744073709551616) : Calls Try.prog 59 #[m.v, I load] w (Grew (T3 (tickM m load).v (I (tickN m load)) (I (tickE m load))) w) := by
  obtain ⟨me, rev, cr, h, b, bad, lk⟩ := m
  simp only at hb
  have M := Lib.hid (fun W => may_meter me rev cr h b bad lk W hb)
  cases hm : mayM me rev cr h b bad lk
  · have e1 : tickE ⟨me, rev, cr, h, b, bad, lk⟩ load = 5 := by simp [tickE, MM.ok, hm]
    have e2 : tickN ⟨me, rev, cr, h, b, bad, lk⟩ load = 0 := by simp [tickN, e1]
    have e3 : tickM ⟨me, rev, cr, h, b, bad, lk⟩ load = ⟨0, 0, 0, 0, 0, 0, 0⟩ := by simp [tickM, MM.ok, hm]
    rw [e1, e2, e3]
    rw [hm] at M
    clear e1 e2 e3 hm
    go_enter Try.func59, Try.ntmps59
    go_wp2_with fail
    refine (M.out _).mono ?_
    rintro e w1 ⟨rfl, k1⟩
    have cO := ((Own.new rfl [I me, I rev, I cr, I h, .int .u64 b, I bad, I lk] 53).alloc _).below k1
    have c0 := cO.cell 0 (by simp)
    have cf0 := cO.frozen 0
    have c1 := cO.cell 1 (by simp)
    have cf1 := cO.frozen 1
    have c2 := cO.cell 2 (by simp)
    have cf2 := cO.frozen 2
    have c3 := cO.cell 3 (by simp)
    have cf3 := cO.frozen 3
    have c4 := cO.cell 4 (by simp)
    have cf4 := cO.frozen 4
    have c5 := cO.cell 5 (by simp)
    have cf5 := cO.frozen 5
    have c6 := cO.cell 6 (by simp)
    have cf6 := cO.frozen 6
    simp only [Nat.zero_add, List.getD_cons_zero, List.getD_cons_succ] at c0 c1 c2 c3 c4 c5 c6
    clear cO
    have dO := (Own.new (g := w.heap.size + 1) (by simp) [I 0, I 0, I 0, I 0, .int .u64 0, I 0, I 0] 53).below k1
    have d0 := dO.cell 0 (by simp)
    have df0 := dO.frozen 0
    have d1 := dO.cell 1 (by simp)
    have df1 := dO.frozen 1
    have d2 := dO.cell 2 (by simp)
    have df2 := dO.frozen 2
    have d3 := dO.cell 3 (by simp)
    have df3 := dO.frozen 3
    have d4 := dO.cell 4 (by simp)
    have df4 := dO.frozen 4
    have d5 := dO.cell 5 (by simp)
    have df5 := dO.frozen 5
    have d6 := dO.cell 6 (by simp)
    have df6 := dO.frozen 6
    simp only [Nat.zero_add, List.getD_cons_zero, List.getD_cons_succ] at d0 d1 d2 d3 d4 d5 d6
    clear dO
    have k := below_box (below_box k1)
    clear k1
    have r1 := set_same
    have r2 := set_off
    have r3 := set_blk
    go_wp2
    exact bodyPost_ret (v := T3 (MM.mk 0 0 0 0 0 0 0).v (I 0) (I 5)) (by simp [results, Try.results59, go_sem, *]; try omega) rfl (Grew.intro rfl (by repeat first | with_reducible assumption | with_reducible exact Below.refl _ _ | with_reducible refine Below.setCell ?_ (by first | exact Nat.le_refl _ | exact Below.size (by assumption) | (simp; done) | (simp; omega) | omega) _ | with_reducible refine Below.alloc ?_ (by first | exact Nat.le_refl _ | exact Below.size (by assumption) | (simp; done) | (simp; omega) | omega) _ | with_reducible refine drewN_below ?_ _ | with_reducible refine Below.drew ?_))
  · obtain ⟨⟨a1, a2, a3, a4, a5, a6, a7, a8, a9, a10, _⟩, hw⟩ := mayM_true.1 hm
    rw [hm] at M
    cases hl : inB load 0 1000
    · have e1 : tickE ⟨me, rev, cr, h, b, bad, lk⟩ load = 2 := by simp [tickE, MM.ok, hm, hl]
      have e2 : tickN ⟨me, rev, cr, h, b, bad, lk⟩ load = 0 := by simp [tickN, e1]
      have e3 : tickM ⟨me, rev, cr, h, b, bad, lk⟩ load = ⟨me, rev, cr, h, b, bad, lk⟩ := by simp [tickM, MM.ok, hm, hl]
      rw [e1, e2, e3]
      have hcase : load < 0 ∨ (0 ≤ load ∧ 1000 < load) := by rw [← Bool.not_eq_true, inB_true] at hl; omega
      clear e1 e2 e3 hm hl
      rcases hcase with c1 | ⟨c1, c2⟩
      all_goals
        go_enter Try.func59, Try.ntmps59
        go_wp2_with fail
        refine (M.out _).mono ?_
        rintro e w1 ⟨rfl, k1⟩
        have cO := ((Own.new rfl [I me, I rev, I _, I h, .int .u64 b, I bad, I _] 53).alloc _).below k1
        have c0 := cO.cell 0 (by simp)
        have cf0 := cO.frozen 0
        have c1 := cO.cell 1 (by simp)
        have cf1 := cO.frozen 1
        have c2 := cO.cell 2 (by simp)
        have cf2 := cO.frozen 2
        have c3 := cO.cell 3 (by simp)
        have cf3 := cO.frozen 3
        have c4 := cO.cell 4 (by simp)
        have cf4 := cO.frozen 4
        have c5 := cO.cell 5 (by simp)
        have cf5 := cO.frozen 5
        have c6 := cO.cell 6 (by simp)
        have cf6 := cO.frozen 6
        simp only [Nat.zero_add, List.getD_cons_zero, List.getD_cons_succ] at c0 c1 c2 c3 c4 c5 c6
        clear cO
        have dO := (Own.new (g := w.heap.size + 1) (by simp) [I 0, I 0, I 0, I 0, .int .u64 0, I 0, I 0] 53).below k1
        have d0 := dO.cell 0 (by simp)
        have df0 := dO.frozen 0
        have d1 := dO.cell 1 (by simp)
        have df1 := dO.frozen 1
        have d2 := dO.cell 2 (by simp)
        have df2 := dO.frozen 2
        have d3 := dO.cell 3 (by simp)
        have df3 := dO.frozen 3
        have d4 := dO.cell 4 (by simp)
        have df4 := dO.frozen 4
        have d5 := dO.cell 5 (by simp)
        have df5 := dO.frozen 5
        have d6 := dO.cell 6 (by simp)
        have df6 := dO.frozen 6
        simp only [Nat.zero_add, List.getD_cons_zero, List.getD_cons_succ] at d0 d1 d2 d3 d4 d5 d6
        clear dO
        have k := below_box (below_box k1)
        clear k1
        have r1 := set_same
        have r2 := set_off
        have r3 := set_blk
        go_wp2
        exact bodyPost_ret (v := T3 (MM.mk me rev cr h b bad lk).v (I 0) (I 2)) (by simp [results, Try.results59, go_sem, *]; try omega) rfl (Grew.intro rfl (by repeat first | with_reducible assumption | with_reducible exact Below.refl _ _ | with_reducible refine Below.setCell ?_ (by first | exact Nat.le_refl _ | exact Below.size (by assumption) | (simp; done) | (simp; omega) | omega) _ | with_reducible refine Below.alloc ?_ (by first | exact Nat.le_refl _ | exact Below.size (by assumption) | (simp; done) | (simp; omega) | omega) _ | with_reducible refine drewN_below ?_ _ | with_reducible refine Below.drew ?_))
    · obtain ⟨l0, l1⟩ := inB_true.1 hl
      have e1 : tickE ⟨me, rev, cr, h, b, bad, lk⟩ load = 0 := by simp [tickE, MM.ok, hm, hl]
      have e2 : tickN ⟨me, rev, cr, h, b, bad, lk⟩ load = min load cr := by simp [tickN, e1]
      have e3 : tickM ⟨me, rev, cr, h, b, bad, lk⟩ load = ⟨me, rev, cr - min load cr, h, b, bad, max (lk - 1) 0⟩ := by simp [tickM, MM.ok, hm, hl]
      rw [e1, e2, e3]
      clear e1 e2 e3 hm hl
      have hcase : ∃ q p, min load cr = q ∧ max (lk - 1) 0 = p ∧ ((load ≤ cr ∧ q = load) ∨ (cr < load ∧ q = cr)) ∧ ((1 ≤ lk ∧ p = lk - 1) ∨ (lk = 0 ∧ p = 0)) := ⟨_, _, rfl, rfl, by omega, by omega⟩
      obtain ⟨q, p, hq, hp, hc1, hc2⟩ := hcase
      rw [hq, hp]
      clear hq hp
      rcases hc1 with ⟨c1, rfl⟩ | ⟨c1, rfl⟩ <;> rcases hc2 with ⟨c2, rfl⟩ | ⟨rfl, rfl⟩
      all_goals
        go_enter Try.func59, Try.ntmps59
        go_wp2_with fail
        refine (M.out _).mono ?_
        rintro e w1 ⟨rfl, k1⟩
        have cO := ((Own.new rfl [I me, I rev, I _, I h, .int .u64 b, I bad, I _] 53).alloc _).below k1
        have c0 := cO.cell 0 (by simp)
        have cf0 := cO.frozen 0
        have c1 := cO.cell 1 (by simp)
        have cf1 := cO.frozen 1
        have c2 := cO.cell 2 (by simp)
        have cf2 := cO.frozen 2
        have c3 := cO.cell 3 (by simp)
        have cf3 := cO.frozen 3
        have c4 := cO.cell 4 (by simp)
        have cf4 := cO.frozen 4
        have c5 := cO.cell 5 (by simp)
        have cf5 := cO.frozen 5
        have c6 := cO.cell 6 (by simp)
        have cf6 := cO.frozen 6
        simp only [Nat.zero_add, List.getD_cons_zero, List.getD_cons_succ] at c0 c1 c2 c3 c4 c5 c6
        clear cO
        have dO := (Own.new (g := w.heap.size + 1) (by simp) [I 0, I 0, I 0, I 0, .int .u64 0, I 0, I 0] 53).below k1
        have d0 := dO.cell 0 (by simp)
        have df0 := dO.frozen 0
        have d1 := dO.cell 1 (by simp)
        have df1 := dO.frozen 1
        have d2 := dO.cell 2 (by simp)
        have df2 := dO.frozen 2
        have d3 := dO.cell 3 (by simp)
        have df3 := dO.frozen 3
        have d4 := dO.cell 4 (by simp)
        have df4 := dO.frozen 4
        have d5 := dO.cell 5 (by simp)
        have df5 := dO.frozen 5
        have d6 := dO.cell 6 (by simp)
        have df6 := dO.frozen 6
        simp only [Nat.zero_add, List.getD_cons_zero, List.getD_cons_succ] at d0 d1 d2 d3 d4 d5 d6
        clear dO
        have k := below_box (below_box k1)
        clear k1
        have r1 := set_same
        have r2 := set_off
        have r3 := set_blk
        go_wp2
      · exact bodyPost_ret (v := T3 (MM.mk me rev (cr - q) h b bad (lk - 1)).v (I q) (I 0)) (by simp [results, Try.results59, go_sem, *]; try omega) rfl (Grew.intro rfl (by repeat first | with_reducible assumption | with_reducible exact Below.refl _ _ | with_reducible refine Below.setCell ?_ (by first | exact Nat.le_refl _ | exact Below.size (by assumption) | (simp; done) | (simp; omega) | omega) _ | with_reducible refine Below.alloc ?_ (by first | exact Nat.le_refl _ | exact Below.size (by assumption) | (simp; done) | (simp; omega) | omega) _ | with_reducible refine drewN_below ?_ _ | with_reducible refine Below.drew ?_))
      · exact bodyPost_ret (v := T3 (MM.mk me rev (cr - q) h b bad 0).v (I q) (I 0)) (by simp [results, Try.results59, go_sem, *]; try omega) rfl (Grew.intro rfl (by repeat first | with_reducible assumption | with_reducible exact Below.refl _ _ | with_reducible refine Below.setCell ?_ (by first | exact Nat.le_refl _ | exact Below.size (by assumption) | (simp; done) | (simp; omega) | omega) _ | with_reducible refine Below.alloc ?_ (by first | exact Nat.le_refl _ | exact Below.size (by assumption) | (simp; done) | (simp; omega) | omega) _ | with_reducible refine drewN_below ?_ _ | with_reducible refine Below.drew ?_))
      · exact bodyPost_ret (v := T3 (MM.mk me rev (q - q) h b bad (lk - 1)).v (I q) (I 0)) (by simp [results, Try.results59, go_sem, *]; try omega) rfl (Grew.intro rfl (by repeat first | with_reducible assumption | with_reducible exact Below.refl _ _ | with_reducible refine Below.setCell ?_ (by first | exact Nat.le_refl _ | exact Below.size (by assumption) | (simp; done) | (simp; omega) | omega) _ | with_reducible refine Below.alloc ?_ (by first | exact Nat.le_refl _ | exact Below.size (by assumption) | (simp; done) | (simp; omega) | omega) _ | with_reducible refine drewN_below ?_ _ | with_reducible refine Below.drew ?_))
      · exact bodyPost_ret (v := T3 (MM.mk me rev (q - q) h b bad 0).v (I q) (I 0)) (by simp [results, Try.results59, go_sem, *]; try omega) rfl (Grew.intro rfl (by repeat first | with_reducible assumption | with_reducible exact Below.refl _ _ | with_reducible refine Below.setCell ?_ (by first | exact Nat.le_refl _ | exact Below.size (by assumption) | (simp; done) | (simp; omega) | omega) _ | with_reducible refine Below.alloc ?_ (by first | exact Nat.le_refl _ | exact Below.size (by assumption) | (simp; done) | (simp; omega) | omega) _ | with_reducible refine drewN_below ?_ _ | with_reducible refine Below.drew ?_))

set_option maxHeartbeats 2000000 in
theorem MeterTicked_any (m : MM) (load : Int) (w : World) (hb : m.b < 18446744073709551616) : Calls Try.prog 61 #[m.v, I load] w (Grew (T3 (tickM m load).v (I (tickN m load)) (I (tickE m load))) w) := by
  obtain ⟨me, rev, cr, h, b, bad, lk⟩ := m
  simp only at hb
  have M := Lib.hid (fun W => MeterMay_any me rev cr h b bad lk W hb)
  cases hm : mayM me rev cr h b bad lk
  · have e1 : tickE ⟨me, rev, cr, h, b, bad, lk⟩ load = 5 := by simp [tickE, MM.ok, hm]
    have e2 : tickN ⟨me, rev, cr, h, b, bad, lk⟩ load = 0 := by simp [tickN, e1]
    have e3 : tickM ⟨me, rev, cr, h, b, bad, lk⟩ load = ⟨0, 0, 0, 0, 0, 0, 0⟩ := by simp [tickM, MM.ok, hm]
    rw [e1, e2, e3]
    rw [hm] at M
    clear e1 e2 e3 hm
    go_enter Try.func61, Try.ntmps61
    go_wp2_with fail
    refine (M.out _).mono ?_
    rintro e w1 ⟨rfl, k1⟩
    have cO := ((Own.new rfl [I me, I rev, I cr, I h, .int .u64 b, I bad, I lk] 53).alloc _).below k1
    have c0 := cO.cell 0 (by simp)
    have cf0 := cO.frozen 0
    have c1 := cO.cell 1 (by simp)
    have cf1 := cO.frozen 1
    have c2 := cO.cell 2 (by simp)
    have cf2 := cO.frozen 2
    have c3 := cO.cell 3 (by simp)
    have cf3 := cO.frozen 3
    have c4 := cO.cell 4 (by simp)
    have cf4 := cO.frozen 4
    have c5 := cO.cell 5 (by simp)
    have cf5 := cO.frozen 5
    have c6 := cO.cell 6 (by simp)
    have cf6 := cO.frozen 6
    simp only [Nat.zero_add, List.getD_cons_zero, List.getD_cons_succ] at c0 c1 c2 c3 c4 c5 c6
    clear cO
    have dO := (Own.new (g := w.heap.size + 1) (by simp) [I 0, I 0, I 0, I 0, .int .u64 0, I 0, I 0] 53).below k1
    have d0 := dO.cell 0 (by simp)
    have df0 := dO.frozen 0
    have d1 := dO.cell 1 (by simp)
    have df1 := dO.frozen 1
    have d2 := dO.cell 2 (by simp)
    have df2 := dO.frozen 2
    have d3 := dO.cell 3 (by simp)
    have df3 := dO.frozen 3
    have d4 := dO.cell 4 (by simp)
    have df4 := dO.frozen 4
    have d5 := dO.cell 5 (by simp)
    have df5 := dO.frozen 5
    have d6 := dO.cell 6 (by simp)
    have df6 := dO.frozen 6
    simp only [Nat.zero_add, List.getD_cons_zero, List.getD_cons_succ] at d0 d1 d2 d3 d4 d5 d6
    clear dO
    have hlt0 : w.heap.size + 1 < w1.heap.size := by have := k1.size; simp at this; omega
    have hlt00 : w.heap.size < w1.heap.size := by omega
    have hne0 : ¬ w.heap.size = w1.heap.size := by omega
    have hne1 : ¬ w.heap.size + 1 = w1.heap.size := by omega
    have k := below_box (below_box k1)
    clear k1
    have r1 := set_same
    have r2 := set_off
    have r3 := set_blk
    go_wp2
    exact bodyPost_ret (v := T3 (MM.mk 0 0 0 0 0 0 0).v (I 0) (I 5)) (by simp [results, Try.results61, go_sem, *]; try omega) rfl (Grew.intro rfl (by repeat first | with_reducible assumption | with_reducible exact Below.refl _ _ | with_reducible refine Below.setCell ?_ (by first | exact Nat.le_refl _ | exact Below.size (by assumption) | (simp; done) | (simp; omega) | omega) _ | with_reducible refine Below.alloc ?_ (by first | exact Nat.le_refl _ | exact Below.size (by assumption) | (simp; done) | (simp; omega) | omega) _ | with_reducible refine drewN_below ?_ _ | with_reducible refine Below.drew ?_))
  · obtain ⟨⟨a1, a2, a3, a4, a5, a6, a7, a8, a9, a10, _⟩, hw⟩ := mayM_true.1 hm
    rw [hm] at M
    cases hl : inB load 0 1000
    · have e1 : tickE ⟨me, rev, cr, h, b, bad, lk⟩ load = 2 := by simp [tickE, MM.ok, hm, hl]
      have e2 : tickN ⟨me, rev, cr, h, b, bad, lk⟩ load = 0 := by simp [tickN, e1]
      have e3 : tickM ⟨me, rev, cr, h, b, bad, lk⟩ load = ⟨me, rev, cr, h, b, bad, lk⟩ := by simp [tickM, MM.ok, hm, hl]
      rw [e1, e2, e3]
      clear e1 e2 e3 hm
      go_enter Try.func61, Try.ntmps61
      go_wp2_with fail
      refine (M.out _).mono ?_
      rintro e w1 ⟨rfl, k1⟩
      have cO := ((Own.new rfl [I me, I rev, I cr, I h, .int .u64 b, I bad, I lk] 53).alloc _).below k1
      have c0 := cO.cell 0 (by simp)
      have cf0 := cO.frozen 0
      have c1 := cO.cell 1 (by simp)
      have cf1 := cO.frozen 1
      have c2 := cO.cell 2 (by simp)
      have cf2 := cO.frozen 2
      have c3 := cO.cell 3 (by simp)
      have cf3 := cO.frozen 3
      have c4 := cO.cell 4 (by simp)
      have cf4 := cO.frozen 4
      have c5 := cO.cell 5 (by simp)
      have cf5 := cO.frozen 5
      have c6 := cO.cell 6 (by simp)
      have cf6 := cO.frozen 6
      simp only [Nat.zero_add, List.getD_cons_zero, List.getD_cons_succ] at c0 c1 c2 c3 c4 c5 c6
      clear cO
      have dO := (Own.new (g := w.heap.size + 1) (by simp) [I 0, I 0, I 0, I 0, .int .u64 0, I 0, I 0] 53).below k1
      have d0 := dO.cell 0 (by simp)
      have df0 := dO.frozen 0
      have d1 := dO.cell 1 (by simp)
      have df1 := dO.frozen 1
      have d2 := dO.cell 2 (by simp)
      have df2 := dO.frozen 2
      have d3 := dO.cell 3 (by simp)
      have df3 := dO.frozen 3
      have d4 := dO.cell 4 (by simp)
      have df4 := dO.frozen 4
      have d5 := dO.cell 5 (by simp)
      have df5 := dO.frozen 5
      have d6 := dO.cell 6 (by simp)
      have df6 := dO.frozen 6
      simp only [Nat.zero_add, List.getD_cons_zero, List.getD_cons_succ] at d0 d1 d2 d3 d4 d5 d6
      clear dO
      have hlt0 : w.heap.size + 1 < w1.heap.size := by have := k1.size; simp at this; omega
      have hlt00 : w.heap.size < w1.heap.size := by omega
      have hne0 : ¬ w.heap.size = w1.heap.size := by omega
      have hne1 : ¬ w.heap.size + 1 = w1.heap.size := by omega
      have k := below_box (below_box k1)
      clear k1
      have r1 := set_same
      have r2 := set_off
      have r3 := set_blk
      go_wp2_with (go_at_call 54; refine (In_any _ _ _ _).mono ?_; rintro e w' ⟨rfl, rfl⟩)
      exact bodyPost_ret (v := T3 (MM.mk me rev cr h b bad lk).v (I 0) (I 2)) (by simp [results, Try.results61, go_sem, *]; try omega) rfl (Grew.intro rfl (by repeat first | with_reducible assumption | with_reducible exact Below.refl _ _ | with_reducible refine Below.setCell ?_ (by first | exact Nat.le_refl _ | exact Below.size (by assumption) | (simp; done) | (simp; omega) | omega) _ | with_reducible refine Below.alloc ?_ (by first | exact Nat.le_refl _ | exact Below.size (by assumption) | (simp; done) | (simp; omega) | omega) _ | with_reducible refine drewN_below ?_ _ | with_reducible refine Below.drew ?_))
    · obtain ⟨l0, l1⟩ := inB_true.1 hl
      have e1 : tickE ⟨me, rev, cr, h, b, bad, lk⟩ load = 0 := by simp [tickE, MM.ok, hm, hl]
      have e2 : tickN ⟨me, rev, cr, h, b, bad, lk⟩ load = min load cr := by simp [tickN, e1]
      have e3 : tickM ⟨me, rev, cr, h, b, bad, lk⟩ load = ⟨me, rev, cr - min load cr, h, b, bad, max (lk - 1) 0⟩ := by simp [tickM, MM.ok, hm, hl]
      rw [e1, e2, e3]
      clear e1 e2 e3 hm
      have hcase : ∃ q p, min load cr = q ∧ max (lk - 1) 0 = p ∧ ((load < cr ∧ q = load) ∨ (cr ≤ load ∧ q = cr)) ∧ ((1 ≤ lk ∧ p = lk - 1) ∨ (lk = 0 ∧ p = 0)) := ⟨_, _, rfl, rfl, by omega, by omega⟩
      obtain ⟨q, p, hq, hp, hc1, hc2⟩ := hcase
      rw [hq, hp]
      clear hq hp
      rcases hc1 with ⟨c1, rfl⟩ | ⟨c1, rfl⟩ <;> rcases hc2 with ⟨c2, rfl⟩ | ⟨rfl, rfl⟩
      all_goals
        go_enter Try.func61, Try.ntmps61
        go_wp2_with fail
        refine (M.out _).mono ?_
        rintro e w1 ⟨rfl, k1⟩
        have cO := ((Own.new rfl [I me, I rev, I _, I h, .int .u64 b, I bad, I _] 53).alloc _).below k1
        have c0 := cO.cell 0 (by simp)
        have cf0 := cO.frozen 0
        have c1 := cO.cell 1 (by simp)
        have cf1 := cO.frozen 1
        have c2 := cO.cell 2 (by simp)
        have cf2 := cO.frozen 2
        have c3 := cO.cell 3 (by simp)
        have cf3 := cO.frozen 3
        have c4 := cO.cell 4 (by simp)
        have cf4 := cO.frozen 4
        have c5 := cO.cell 5 (by simp)
        have cf5 := cO.frozen 5
        have c6 := cO.cell 6 (by simp)
        have cf6 := cO.frozen 6
        simp only [Nat.zero_add, List.getD_cons_zero, List.getD_cons_succ] at c0 c1 c2 c3 c4 c5 c6
        clear cO
        have dO := (Own.new (g := w.heap.size + 1) (by simp) [I 0, I 0, I 0, I 0, .int .u64 0, I 0, I 0] 53).below k1
        have d0 := dO.cell 0 (by simp)
        have df0 := dO.frozen 0
        have d1 := dO.cell 1 (by simp)
        have df1 := dO.frozen 1
        have d2 := dO.cell 2 (by simp)
        have df2 := dO.frozen 2
        have d3 := dO.cell 3 (by simp)
        have df3 := dO.frozen 3
        have d4 := dO.cell 4 (by simp)
        have df4 := dO.frozen 4
        have d5 := dO.cell 5 (by simp)
        have df5 := dO.frozen 5
        have d6 := dO.cell 6 (by simp)
        have df6 := dO.frozen 6
        simp only [Nat.zero_add, List.getD_cons_zero, List.getD_cons_succ] at d0 d1 d2 d3 d4 d5 d6
        clear dO
        have hlt0 : w.heap.size + 1 < w1.heap.size := by have := k1.size; simp at this; omega
        have hlt00 : w.heap.size < w1.heap.size := by omega
        have hne0 : ¬ w.heap.size = w1.heap.size := by omega
        have hne1 : ¬ w.heap.size + 1 = w1.heap.size := by omega
        have k := below_box (below_box k1)
        clear k1
        have r1 := set_same
        have r2 := set_off
        have r3 := set_blk
        go_wp2_with (go_at_call 54; refine (In_any _ _ _ _).mono ?_; rintro e w' ⟨rfl, rfl⟩)
      · exact bodyPost_ret (v := T3 (MM.mk me rev (cr - q) h b bad (lk - 1)).v (I q) (I 0)) (by simp [results, Try.results61, go_sem, *]; try omega) rfl (Grew.intro rfl (by repeat first | with_reducible assumption | with_reducible exact Below.refl _ _ | with_reducible refine Below.setCell ?_ (by first | exact Nat.le_refl _ | exact Below.size (by assumption) | (simp; done) | (simp; omega) | omega) _ | with_reducible refine Below.alloc ?_ (by first | exact Nat.le_refl _ | exact Below.size (by assumption) | (simp; done) | (simp; omega) | omega) _ | with_reducible refine drewN_below ?_ _ | with_reducible refine Below.drew ?_))
      · exact bodyPost_ret (v := T3 (MM.mk me rev (cr - q) h b bad 0).v (I q) (I 0)) (by simp [results, Try.results61, go_sem, *]; try omega) rfl (Grew.intro rfl (by repeat first | with_reducible assumption | with_reducible exact Below.refl _ _ | with_reducible refine Below.setCell ?_ (by first | exact Nat.le_refl _ | exact Below.size (by assumption) | (simp; done) | (simp; omega) | omega) _ | with_reducible refine Below.alloc ?_ (by first | exact Nat.le_refl _ | exact Below.size (by assumption) | (simp; done) | (simp; omega) | omega) _ | with_reducible refine drewN_below ?_ _ | with_reducible refine Below.drew ?_))
      · go_region
        go_wp2
        exact bodyPost_ret (v := T3 (MM.mk me rev (q - q) h b bad (lk - 1)).v (I q) (I 0)) (by simp [results, Try.results61, go_sem, *]; try omega) rfl (Grew.intro (by simp) (by repeat first | with_reducible assumption | with_reducible exact Below.refl _ _ | with_reducible refine Below.setCell ?_ (by first | exact Nat.le_refl _ | exact Below.size (by assumption) | (simp; done) | (simp; omega) | omega) _ | with_reducible refine Below.alloc ?_ (by first | exact Nat.le_refl _ | exact Below.size (by assumption) | (simp; done) | (simp; omega) | omega) _ | with_reducible refine drewN_below ?_ _ | with_reducible refine Below.drew ?_))
      · go_region
        go_wp2
        exact bodyPost_ret (v := T3 (MM.mk me rev (q - q) h b bad 0).v (I q) (I 0)) (by simp [results, Try.results61, go_sem, *]; try omega) rfl (Grew.intro (by simp) (by repeat first | with_reducible assumption | with_reducible exact Below.refl _ _ | with_reducible refine Below.setCell ?_ (by first | exact Nat.le_refl _ | exact Below.size (by assumption) | (simp; done) | (simp; omega) | omega) _ | with_reducible refine Below.alloc ?_ (by first | exact Nat.le_refl _ | exact Below.size (by assumption) | (simp; done) | (simp; omega) | omega) _ | with_reducible refine drewN_below ?_ _ | with_reducible refine Below.drew ?_))
end Go.Proofs.Ytclfbpgfnhjfcaa
