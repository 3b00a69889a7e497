/- pocket.Boot and its reference -/
import Derived.Test.YtmciccnmpoijdaaGreatDoorSlotLoad
import Derived.Test.YtmciccnmpoijdaaGreatDoorMeterRead
namespace Go.Proofs.YtmciccnmpoijdaaGreatDoor
open Go.RowKit
set_option maxRecDepth 20000

def bootE (xs : List Int) : Int := if loadE xs 5 = 0 then readE (loadL xs 5) else loadE xs 5
def bootM (xs : List Int) : MM := if loadE xs 5 = 0 then readM (loadL xs 5) else ⟨0, 0, 0, 0, 0, 0, 0⟩
theorem loadL_words {xs : List Int} (hw : ∀ x ∈ xs, W32 x) (n : Int) : ∀ x ∈ loadL xs n, W32 x := by
  intro x hx
  unfold loadL at hx
  split at hx
  · split at hx
    · simp at hx
    · exact hw x (List.mem_of_mem_drop (List.mem_of_mem_take hx))
  · simp at hx
theorem readM_bits (xs : List Int) (hw : ∀ x ∈ xs, W32 x) : (readM xs).b < 18446744073709551616 := by
  unfold readM
  split
  · rename_i h
    have h5 : xs.length = 5 := by
      unfold readE at h
      split at h
      · assumption
      · omega
    match xs, h5 with
    | [x0, x1, x2, x3, x4], _ =>
      obtain ⟨l0, l1⟩ := hw x3 (by simp)
      obtain ⟨u0, u1⟩ := hw x4 (by simp)
      show (x4 * 4294967296 + x3).toNat < _
      exact raw_b l0 (by omega) u0 (by omega)
  · decide
theorem bootM_bits (xs : List Int) (hw : ∀ x ∈ xs, W32 x) : (bootM xs).b < 18446744073709551616 := by
  unfold bootM
  split
  · exact readM_bits _ (loadL_words hw 5)
  · decide
set_option maxHeartbeats 2000000 in
theorem Boot_any (v : Value) (xs : List Int) (w : World) (h : Sl w v 1 xs.length (xs.map U32)) (hw : ∀ x ∈ xs, W32 x) :
    Calls Tryz.prog 11 #[v] w (Grew (T2 (bootM xs).v (I (bootE xs))) w) := by
  have L := Lib.hid (fun W hW => Load_any v xs 5 W hW hw)
  by_cases hL : loadE xs 5 = 0
  · have e1 : bootE xs = readE (loadL xs 5) := by rw [bootE, if_pos hL]
    have e2 : bootM xs = readM (loadL xs 5) := by rw [bootM, if_pos hL]
    have R := Lib.hid (fun u W hW => ReadM_any u (loadL xs 5) W hW (loadL_words hw 5))
    rw [e1, e2]
    rw [hL] at L
    clear e1 e2 hL hw
    generalize loadL xs 5 = ys at *
    generalize readE ys = E at *
    generalize readM ys = t at *
    obtain ⟨t1, t2, t3, t4, t5, t6, t7⟩ := t
    have kb := boxed_below w (.cells #[I 0, I 0, I 0, I 0, .int .u64 0, I 0, I 0] 40)
    have oz := Own.new (w := w) rfl [I 0, I 0, I 0, I 0, .int .u64 0, I 0, I 0] 40
    have h1 := h.below kb
    go_enter Tryz.func11, Tryz.ntmps11
    go_wp2_with fail
    refine (L.out _ h1).mono ?_
    rintro e w1 ⟨u, rfl, hu, k1⟩
    have oz1 := oz.below k1
    have k := kb.trans (k1.mono kb.size)
    clear kb k1 oz h1
    go_wp2_with fail
    refine (R.out _ _ hu).mono ?_
    rintro e w2 ⟨rfl, k2⟩
    have zO := oz1.below k2
    have z0 := zO.cell 0 (by simp)
    have zf0 := zO.frozen 0
    have z1 := zO.cell 1 (by simp)
    have zf1 := zO.frozen 1
    have z2 := zO.cell 2 (by simp)
    have zf2 := zO.frozen 2
    have z3 := zO.cell 3 (by simp)
    have zf3 := zO.frozen 3
    have z4 := zO.cell 4 (by simp)
    have zf4 := zO.frozen 4
    have z5 := zO.cell 5 (by simp)
    have zf5 := zO.frozen 5
    have z6 := zO.cell 6 (by simp)
    have zf6 := zO.frozen 6
    simp only [Nat.zero_add, List.getD_cons_zero, List.getD_cons_succ] at z0 z1 z2 z3 z4 z5 z6
    clear zO
    have kk := k.trans (k2.mono k.size)
    clear k k2 oz1
    have r1 := set_same
    have r2 := set_off
    have r3 := set_blk
    go_wp2
    exact bodyPost_ret (v := T2 (MM.mk t1 t2 t3 t4 t5 t6 t7).v (I E)) (by simp [results, Tryz.results11, go_sem, *]; try omega) rfl (Grew.intro rfl (by repeat first | with_reducible assumption | with_reducible exact Below.refl _ _ | with_reducible refine Below.setCell ?_ (by first | exact Nat.le_refl _ | exact Below.size (by assumption) | (simp; done) | (simp; omega) | omega) _ | with_reducible refine Below.alloc ?_ (by first | exact Nat.le_refl _ | exact Below.size (by assumption) | (simp; done) | (simp; omega) | omega) _ | with_reducible refine drewN_below ?_ _ | with_reducible refine Below.drew ?_))
  · have e1 : bootE xs = loadE xs 5 := by rw [bootE, if_neg hL]
    have e2 : bootM xs = ⟨0, 0, 0, 0, 0, 0, 0⟩ := by rw [bootM, if_neg hL]
    rw [e1, e2]
    clear e1 e2
    generalize loadE xs 5 = E at *
    have hb : (E != 0) = true := by simp [hL]
    have kb := boxed_below w (.cells #[I 0, I 0, I 0, I 0, .int .u64 0, I 0, I 0] 40)
    have oz := Own.new (w := w) rfl [I 0, I 0, I 0, I 0, .int .u64 0, I 0, I 0] 40
    have h1 := h.below kb
    go_enter Tryz.func11, Tryz.ntmps11
    go_wp2_with fail
    refine (L.out _ h1).mono ?_
    rintro e w1 ⟨u, rfl, hu, k1⟩
    have oz1 := oz.below k1
    have k := kb.trans (k1.mono kb.size)
    clear kb k1 oz h1
    have zO := oz1
    have z0 := zO.cell 0 (by simp)
    have zf0 := zO.frozen 0
    have z1 := zO.cell 1 (by simp)
    have zf1 := zO.frozen 1
    have z2 := zO.cell 2 (by simp)
    have zf2 := zO.frozen 2
    have z3 := zO.cell 3 (by simp)
    have zf3 := zO.frozen 3
    have z4 := zO.cell 4 (by simp)
    have zf4 := zO.frozen 4
    have z5 := zO.cell 5 (by simp)
    have zf5 := zO.frozen 5
    have z6 := zO.cell 6 (by simp)
    have zf6 := zO.frozen 6
    simp only [Nat.zero_add, List.getD_cons_zero, List.getD_cons_succ] at z0 z1 z2 z3 z4 z5 z6
    clear zO
    have r1 := set_same
    have r2 := set_off
    have r3 := set_blk
    go_wp2
    exact bodyPost_ret (v := T2 (MM.mk 0 0 0 0 0 0 0).v (I E)) (by simp [results, Tryz.results11, go_sem, *]; try omega) rfl (Grew.intro rfl (by repeat first | with_reducible assumption | with_reducible exact Below.refl _ _ | with_reducible refine Below.setCell ?_ (by first | exact Nat.le_refl _ | exact Below.size (by assumption) | (simp; done) | (simp; omega) | omega) _ | with_reducible refine Below.alloc ?_ (by first | exact Nat.le_refl _ | exact Below.size (by assumption) | (simp; done) | (simp; omega) | omega) _ | with_reducible refine drewN_below ?_ _ | with_reducible refine Below.drew ?_))
set_option maxHeartbeats 2000000 in
theorem Booted_any (v : Value) (xs : List Int) (w : World) (h : Sl w v 1 xs.length (xs.map U32)) (hw : ∀ x ∈ xs, W32 x) :
    Calls Tryz.prog 15 #[v] w (Grew (T2 (bootM xs).v (I (bootE xs))) w) := by
  have L := Lib.hid (fun W hW => SlotLoaded_any v xs 5 W hW )
  by_cases hL : loadE xs 5 = 0
  · have e1 : bootE xs = readE (loadL xs 5) := by rw [bootE, if_pos hL]
    have e2 : bootM xs = readM (loadL xs 5) := by rw [bootM, if_pos hL]
    have R := Lib.hid (fun u W hW => MeterRead_any u (loadL xs 5) W hW (loadL_words hw 5))
    rw [e1, e2]
    rw [hL] at L
    clear e1 e2 hL hw
    generalize loadL xs 5 = ys at *
    generalize readE ys = E at *
    generalize readM ys = t at *
    obtain ⟨t1, t2, t3, t4, t5, t6, t7⟩ := t
    have kb := boxed_below w (.cells #[I 0, I 0, I 0, I 0, .int .u64 0, I 0, I 0] 40)
    have oz := Own.new (w := w) rfl [I 0, I 0, I 0, I 0, .int .u64 0, I 0, I 0] 40
    have h1 := h.below kb
    go_enter Tryz.func15, Tryz.ntmps15
    go_wp2_with fail
    refine (L.out _ h1).mono ?_
    rintro e w1 ⟨u, rfl, hu, k1⟩
    have oz1 := oz.below k1
    have k := kb.trans (k1.mono kb.size)
    clear kb k1 oz h1
    go_wp2_with fail
    refine (R.out _ _ hu).mono ?_
    rintro e w2 ⟨rfl, k2⟩
    have hsz : w.heap.size < w2.heap.size := by have := oz1.lt; have := k2.size; omega
    have zO := (oz1.below k2)
    have z0 := zO.cell 0 (by simp)
    have zf0 := zO.frozen 0
    have z1 := zO.cell 1 (by simp)
    have zf1 := zO.frozen 1
    have z2 := zO.cell 2 (by simp)
    have zf2 := zO.frozen 2
    have z3 := zO.cell 3 (by simp)
    have zf3 := zO.frozen 3
    have z4 := zO.cell 4 (by simp)
    have zf4 := zO.frozen 4
    have z5 := zO.cell 5 (by simp)
    have zf5 := zO.frozen 5
    have z6 := zO.cell 6 (by simp)
    have zf6 := zO.frozen 6
    simp only [Nat.zero_add, List.getD_cons_zero, List.getD_cons_succ] at z0 z1 z2 z3 z4 z5 z6
    clear zO
    have oy := Own.new (w := w2) rfl [I t1, I t2, I t3, I t4, .int .u64 t5, I t6, I t7] 40
    have zaO := ((oz1.below k2).alloc (.cells #[I t1, I t2, I t3, I t4, .int .u64 t5, I t6, I t7] 40))
    have za0 := zaO.cell 0 (by simp)
    have zaf0 := zaO.frozen 0
    have za1 := zaO.cell 1 (by simp)
    have zaf1 := zaO.frozen 1
    have za2 := zaO.cell 2 (by simp)
    have zaf2 := zaO.frozen 2
    have za3 := zaO.cell 3 (by simp)
    have zaf3 := zaO.frozen 3
    have za4 := zaO.cell 4 (by simp)
    have zaf4 := zaO.frozen 4
    have za5 := zaO.cell 5 (by simp)
    have zaf5 := zaO.frozen 5
    have za6 := zaO.cell 6 (by simp)
    have zaf6 := zaO.frozen 6
    simp only [Nat.zero_add, List.getD_cons_zero, List.getD_cons_succ] at za0 za1 za2 za3 za4 za5 za6
    clear zaO
    have yO := oy
    have y0 := yO.cell 0 (by simp)
    have yf0 := yO.frozen 0
    have y1 := yO.cell 1 (by simp)
    have yf1 := yO.frozen 1
    have y2 := yO.cell 2 (by simp)
    have yf2 := yO.frozen 2
    have y3 := yO.cell 3 (by simp)
    have yf3 := yO.frozen 3
    have y4 := yO.cell 4 (by simp)
    have yf4 := yO.frozen 4
    have y5 := yO.cell 5 (by simp)
    have yf5 := yO.frozen 5
    have y6 := yO.cell 6 (by simp)
    have yf6 := yO.frozen 6
    simp only [Nat.zero_add, List.getD_cons_zero, List.getD_cons_succ] at y0 y1 y2 y3 y4 y5 y6
    clear yO
    have kk := k.trans (k2.mono k.size)
    have ne1 : ¬ w.heap.size = w2.heap.size := by omega
    have ne2 : ¬ w2.heap.size = w.heap.size := by omega
    clear k k2 oz1
    have r1 := set_same
    have r2 := set_off
    have r3 := set_blk
    go_wp2
    exact bodyPost_ret (v := T2 (MM.mk t1 t2 t3 t4 t5 t6 t7).v (I E)) (by simp [results, Tryz.results15, go_sem, *]; try omega) rfl (Grew.intro rfl (by repeat first | with_reducible assumption | with_reducible exact Below.refl _ _ | with_reducible refine Below.setCell ?_ (by first | exact Nat.le_refl _ | exact Below.size (by assumption) | (simp; done) | (simp; omega) | omega) _ | with_reducible refine Below.alloc ?_ (by first | exact Nat.le_refl _ | exact Below.size (by assumption) | (simp; done) | (simp; omega) | omega) _ | with_reducible refine drewN_below ?_ _ | with_reducible refine Below.drew ?_))
  · have e1 : bootE xs = loadE xs 5 := by rw [bootE, if_neg hL]
    have e2 : bootM xs = ⟨0, 0, 0, 0, 0, 0, 0⟩ := by rw [bootM, if_neg hL]
    rw [e1, e2]
    clear e1 e2
    generalize loadE xs 5 = E at *
    have hb : (E != 0) = true := by simp [hL]
    have kb := boxed_below w (.cells #[I 0, I 0, I 0, I 0, .int .u64 0, I 0, I 0] 40)
    have oz := Own.new (w := w) rfl [I 0, I 0, I 0, I 0, .int .u64 0, I 0, I 0] 40
    have h1 := h.below kb
    go_enter Tryz.func15, Tryz.ntmps15
    go_wp2_with fail
    refine (L.out _ h1).mono ?_
    rintro e w1 ⟨u, rfl, hu, k1⟩
    have oz1 := oz.below k1
    have k := kb.trans (k1.mono kb.size)
    clear kb k1 oz h1
    have zO := oz1
    have z0 := zO.cell 0 (by simp)
    have zf0 := zO.frozen 0
    have z1 := zO.cell 1 (by simp)
    have zf1 := zO.frozen 1
    have z2 := zO.cell 2 (by simp)
    have zf2 := zO.frozen 2
    have z3 := zO.cell 3 (by simp)
    have zf3 := zO.frozen 3
    have z4 := zO.cell 4 (by simp)
    have zf4 := zO.frozen 4
    have z5 := zO.cell 5 (by simp)
    have zf5 := zO.frozen 5
    have z6 := zO.cell 6 (by simp)
    have zf6 := zO.frozen 6
    simp only [Nat.zero_add, List.getD_cons_zero, List.getD_cons_succ] at z0 z1 z2 z3 z4 z5 z6
    clear zO
    have r1 := set_same
    have r2 := set_off
    have r3 := set_blk
    go_wp2
    exact bodyPost_ret (v := T2 (MM.mk 0 0 0 0 0 0 0).v (I E)) (by simp [results, Tryz.results15, go_sem, *]; try omega) rfl (Grew.intro rfl (by repeat first | with_reducible assumption | with_reducible exact Below.refl _ _ | with_reducible refine Below.setCell ?_ (by first | exact Nat.le_refl _ | exact Below.size (by assumption) | (simp; done) | (simp; omega) | omega) _ | with_reducible refine Below.alloc ?_ (by first | exact Nat.le_refl _ | exact Below.size (by assumption) | (simp; done) | (simp; omega) | omega) _ | with_reducible refine drewN_below ?_ _ | with_reducible refine Below.drew ?_))
end Go.Proofs.YtmciccnmpoijdaaGreatDoor
