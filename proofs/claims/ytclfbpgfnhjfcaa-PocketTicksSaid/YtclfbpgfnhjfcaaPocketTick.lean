/- pocket.Ticked and its reference -/
import Derived.Test.YtclfbpgfnhjfcaaMoved
import Derived.Test.YtclfbpgfnhjfcaaPocketBoot
import Derived.Test.YtclfbpgfnhjfcaaMeterTick
namespace Go.Proofs.Ytclfbpgfnhjfcaa
open Go.RowKit
set_option maxRecDepth 20000

def ptE (xs : List Int) (load : Int) : Int := if bootE xs = 0 then tickE (bootM xs) load else bootE xs
def ptN (xs : List Int) (load : Int) : Int := if ptE xs load = 0 then tickN (bootM xs) load else 0
def ptL (xs : List Int) (load : Int) : List AWrite := if ptE xs load = 0 then movedL xs (bootM xs) (tickM (bootM xs) load) else []
def GrewW3 (L : List AWrite) (n k : Int) (w : World) (e : Ending) (w' : World) : Prop := ∃ v, e = .returned (T3 v (I n) (I k)) ∧ Sl w' v 2 L.length (L.flatMap AWrite.cells) ∧ Below w.heap.size w w'
theorem boot_ok {xs : List Int} (h : bootE xs = 0) : (bootM xs).ok = true := by
  unfold bootE at h
  unfold bootM
  split at h
  · rename_i hl
    rw [if_pos hl]
    unfold readM
    rw [if_pos h]
    unfold readE at h
    split at h
    · split at h
      · assumption
      · omega
    · omega
  · rename_i hl
    exact absurd h hl
theorem tick_ok {m : MM} {load : Int} (hm : m.ok = true) (h : tickE m load = 0) : (tickM m load).ok = true := by
  have hi : inB load 0 1000 = true := by
    unfold tickE at h
    rw [hm] at h
    simp only [Bool.true_eq_false, if_false] at h
    cases hi : inB load 0 1000
    · rw [hi] at h; simp at h
    · rfl
  obtain ⟨l0, l1⟩ := inB_true.1 hi
  unfold tickM
  rw [hm, hi]
  simp only [Bool.true_eq_false, if_false, if_true]
  obtain ⟨m1, m2, m3, m4, m5, m6, m7⟩ := m
  obtain ⟨a, b⟩ := mayM_true.1 (show mayM m1 m2 m3 m4 m5 m6 m7 = true from hm)
  exact mayM_true.2 ⟨by show 0 ≤ m1 ∧ m1 ≤ 49 ∧ 0 ≤ m2 ∧ m2 ≤ 15 ∧ 0 ≤ m3 - min load m3 ∧ m3 - min load m3 ≤ 99999999 ∧ 0 ≤ m6 ∧ m6 ≤ 4 ∧ 0 ≤ max (m7 - 1) 0 ∧ max (m7 - 1) 0 ≤ 30 ∧ ¬ (0 < m6 ∧ 0 < max (m7 - 1) 0); omega, b⟩
theorem tick_bits (m : MM) (load : Int) (h : m.b < 18446744073709551616) : (tickM m load).b < 18446744073709551616 := by
  unfold tickM
  (repeat' split) <;> first | exact h | decide
set_option maxHeartbeats 2000000 in
theorem Ticked_any (v : Value) (xs : List Int) (load : Int) (w : World) (h : Sl w v 1 xs.length (xs.map U32)) (hw : ∀ x ∈ xs, W32 x) :
    Calls Try.prog 31 #[v, I load] w (GrewW3 (ptL xs load) (ptN xs load) (ptE xs load) w) := by
  have B := Lib.hid (fun W hW => Boot_any v xs W hW hw)
  have T := Lib.hid (fun W => Tick_any (bootM xs) load W (bootM_bits xs hw))
  have V := Lib.hid (fun W hW => moved_any v xs (bootM xs) (tickM (bootM xs) load) W hW hw (tick_bits _ _ (bootM_bits xs hw)))
  by_cases hE : ptE xs load = 0
  · have hb : bootE xs = 0 := by
      unfold ptE at hE
      split at hE
      · assumption
      · contradiction
    have ht : tickE (bootM xs) load = 0 := by unfold ptE at hE; rwa [if_pos hb] at hE
    rw [show ptL xs load = movedL xs (bootM xs) (tickM (bootM xs) load) by rw [ptL, if_pos hE], show ptN xs load = tickN (bootM xs) load by rw [ptN, if_pos hE], hE]
    skip
    rw [hb] at B
    rw [ht] at T
    clear hE hb ht
    generalize movedL xs (bootM xs) (tickM (bootM xs) load) = L at *
    generalize tickM (bootM xs) load = t at *
    generalize tickN (bootM xs) load = N at *
    generalize bootM xs = m at *
    obtain ⟨m1, m2, m3, m4, m5, m6, m7⟩ := m
    obtain ⟨t1, t2, t3, t4, t5, t6, t7⟩ := t
    simp only [MM.v] at B T V
    obtain ⟨a, cap, rfl, -⟩ := id h
    go_enter Try.func31, Try.ntmps31
    go_wp2_with fail
    refine (B.out _ h).mono ?_
    rintro e w1 ⟨rfl, k1⟩
    have kb := boxed_below w1 (.cells #[I m1, I m2, I m3, I m4, .int .u64 m5, I m6, I m7] 53)
    have om := Own.new (w := w1) rfl [I m1, I m2, I m3, I m4, .int .u64 m5, I m6, I m7] 53
    have k2 := k1.trans (kb.mono k1.size)
    have hs1 := k1.size
    clear k1 kb
    go_wp2_with fail
    refine (T.out _).mono ?_
    rintro e w2 ⟨rfl, k3⟩
    have k4 := k2.trans (k3.mono k2.size)
    have hlt : w1.heap.size < w2.heap.size := by have := k3.size; simp at this; omega
    have kb := boxed_below w2 (.cells #[I t1, I t2, I t3, I t4, .int .u64 t5, I t6, I t7] 53)
    have zO := (om.below k3).alloc (.cells #[I t1, I t2, I t3, I t4, .int .u64 t5, I t6, I t7] 53)
    have z0 := zO.cell 0 (by simp)
    have zf0 := zO.frozen 0
    have z1 := zO.cell 1 (by simp)
    have zf1 := zO.frozen 1
    have z2 := zO.cell 2 (by simp)
    have zf2 := zO.frozen 2
    have z3 := zO.cell 3 (by simp)
    have zf3 := zO.frozen 3
    have z4 := zO.cell 4 (by simp)
    have zf4 := zO.frozen 4
    have z5 := zO.cell 5 (by simp)
    have zf5 := zO.frozen 5
    have z6 := zO.cell 6 (by simp)
    have zf6 := zO.frozen 6
    simp only [Nat.zero_add, List.getD_cons_zero, List.getD_cons_succ] at z0 z1 z2 z3 z4 z5 z6
    clear zO
    have k5 := k4.trans (kb.mono k4.size)
    have hS := h.below k5
    clear k2 k3 k4 kb om
    go_wp2_with fail
    refine (V.out _ hS).mono ?_
    rintro e w3 ⟨r, rfl, hr, k6⟩
    go_wp2
    go_ret3
    exact ⟨_, rfl, hr, k5.trans (k6.mono k5.size)⟩
  · rw [show ptL xs load = [] by rw [ptL, if_neg hE], show ptN xs load = 0 by rw [ptN, if_neg hE]]
    clear V
    by_cases hb : bootE xs = 0
    · have ht : ptE xs load = tickE (bootM xs) load := by rw [ptE, if_pos hb]
      rw [hb] at B
      rw [ht] at hE ⊢
      clear ht hb
      generalize tickM (bootM xs) load = t at *
      generalize tickN (bootM xs) load = N at *
      generalize tickE (bootM xs) load = E at *
      generalize bootM xs = m at *
      have hE' : (E != 0) = true := by simp [hE]
      obtain ⟨m1, m2, m3, m4, m5, m6, m7⟩ := m
      obtain ⟨t1, t2, t3, t4, t5, t6, t7⟩ := t
      simp only [MM.v] at B T
      go_enter Try.func31, Try.ntmps31
      go_wp2_with fail
      refine (B.out _ h).mono ?_
      rintro e w1 ⟨rfl, k1⟩
      have kb := boxed_below w1 (.cells #[I m1, I m2, I m3, I m4, .int .u64 m5, I m6, I m7] 53)
      have k2 := k1.trans (kb.mono k1.size)
      clear k1 kb
      go_wp2_with fail
      refine (T.out _).mono ?_
      rintro e w2 ⟨rfl, k3⟩
      have k4 := k2.trans (k3.mono k2.size)
      clear k2 k3
      go_wp2
      go_ret3
      exact ⟨_, rfl, Sl.nil _ _, (by repeat first | exact Below.refl _ _ | assumption | refine drewN_below ?_ _ | refine Below.alloc ?_ (by first | exact Nat.le_refl _ | exact Below.size (by assumption) | (simp; done) | (simp; omega) | omega) _ | refine Below.setCell ?_ (by first | exact Nat.le_refl _ | (simp; done) | (simp; omega) | omega) _)⟩
    · have ht : ptE xs load = bootE xs := by rw [ptE, if_neg hb]
      rw [ht]
      clear ht T hE
      generalize bootE xs = E at *
      generalize bootM xs = m at *
      have hE' : (E != 0) = true := by simp [hb]
      obtain ⟨m1, m2, m3, m4, m5, m6, m7⟩ := m
      simp only [MM.v] at B
      go_enter Try.func31, Try.ntmps31
      go_wp2_with fail
      refine (B.out _ h).mono ?_
      rintro e w1 ⟨rfl, k1⟩
      go_wp2
      go_ret3
      exact ⟨_, rfl, Sl.nil _ _, (by repeat first | exact Below.refl _ _ | assumption | refine drewN_below ?_ _ | refine Below.alloc ?_ (by first | exact Nat.le_refl _ | exact Below.size (by assumption) | (simp; done) | (simp; omega) | omega) _ | refine Below.setCell ?_ (by first | exact Nat.le_refl _ | (simp; done) | (simp; omega) | omega) _)⟩
set_option maxHeartbeats 2000000 in
theorem PTicked_any (v : Value) (xs : List Int) (load : Int) (w : World) (h : Sl w v 1 xs.length (xs.map U32)) (hw : ∀ x ∈ xs, W32 x) :
    Calls Try.prog 32 #[v, I load] w (GrewW3 (ptL xs load) (ptN xs load) (ptE xs load) w) := by
  have B := Lib.hid (fun W hW => Booted_any v xs W hW hw)
  have T := Lib.hid (fun W => MeterTicked_any (bootM xs) load W (bootM_bits xs hw))
  have V := Lib.hid (fun W hW => stored_any v xs (bootM xs) (tickM (bootM xs) load) W hW hw (bootM_bits xs hw) (tick_bits _ _ (bootM_bits xs hw)))
  by_cases hE : ptE xs load = 0
  · have hb : bootE xs = 0 := by
      unfold ptE at hE
      split at hE
      · assumption
      · contradiction
    have ht : tickE (bootM xs) load = 0 := by unfold ptE at hE; rwa [if_pos hb] at hE
    rw [show ptL xs load = movedL xs (bootM xs) (tickM (bootM xs) load) by rw [ptL, if_pos hE], show ptN xs load = tickN (bootM xs) load by rw [ptN, if_pos hE], hE]
    rw [← moved_law (boot_ok hb) (tick_ok (boot_ok hb) ht)] at V
    rw [hb] at B
    rw [ht] at T
    clear hE hb ht
    generalize movedL xs (bootM xs) (tickM (bootM xs) load) = L at *
    generalize tickM (bootM xs) load = t at *
    generalize tickN (bootM xs) load = N at *
    generalize bootM xs = m at *
    obtain ⟨m1, m2, m3, m4, m5, m6, m7⟩ := m
    obtain ⟨t1, t2, t3, t4, t5, t6, t7⟩ := t
    simp only [MM.v] at B T V
    obtain ⟨a, cap, rfl, -⟩ := id h
    go_enter Try.func32, Try.ntmps32
    go_wp2_with fail
    refine (B.out _ h).mono ?_
    rintro e w1 ⟨rfl, k1⟩
    have kb := boxed_below w1 (.cells #[I m1, I m2, I m3, I m4, .int .u64 m5, I m6, I m7] 53)
    have om := Own.new (w := w1) rfl [I m1, I m2, I m3, I m4, .int .u64 m5, I m6, I m7] 53
    have k2 := k1.trans (kb.mono k1.size)
    have hs1 := k1.size
    clear k1 kb
    go_wp2_with fail
    refine (T.out _).mono ?_
    rintro e w2 ⟨rfl, k3⟩
    have k4 := k2.trans (k3.mono k2.size)
    have hlt : w1.heap.size < w2.heap.size := by have := k3.size; simp at this; omega
    have kb := boxed_below w2 (.cells #[I t1, I t2, I t3, I t4, .int .u64 t5, I t6, I t7] 53)
    have zO := (om.below k3).alloc (.cells #[I t1, I t2, I t3, I t4, .int .u64 t5, I t6, I t7] 53)
    have z0 := zO.cell 0 (by simp)
    have zf0 := zO.frozen 0
    have z1 := zO.cell 1 (by simp)
    have zf1 := zO.frozen 1
    have z2 := zO.cell 2 (by simp)
    have zf2 := zO.frozen 2
    have z3 := zO.cell 3 (by simp)
    have zf3 := zO.frozen 3
    have z4 := zO.cell 4 (by simp)
    have zf4 := zO.frozen 4
    have z5 := zO.cell 5 (by simp)
    have zf5 := zO.frozen 5
    have z6 := zO.cell 6 (by simp)
    have zf6 := zO.frozen 6
    simp only [Nat.zero_add, List.getD_cons_zero, List.getD_cons_succ] at z0 z1 z2 z3 z4 z5 z6
    clear zO
    have k5 := k4.trans (kb.mono k4.size)
    have hS := h.below k5
    clear k2 k3 k4 kb om
    go_wp2_with fail
    refine (V.out _ hS).mono ?_
    rintro e w3 ⟨r, rfl, hr, k6⟩
    go_wp2
    go_ret3
    exact ⟨_, rfl, hr, k5.trans (k6.mono k5.size)⟩
  · rw [show ptL xs load = [] by rw [ptL, if_neg hE], show ptN xs load = 0 by rw [ptN, if_neg hE]]
    clear V
    by_cases hb : bootE xs = 0
    · have ht : ptE xs load = tickE (bootM xs) load := by rw [ptE, if_pos hb]
      rw [hb] at B
      rw [ht] at hE ⊢
      clear ht hb
      generalize tickM (bootM xs) load = t at *
      generalize tickN (bootM xs) load = N at *
      generalize tickE (bootM xs) load = E at *
      generalize bootM xs = m at *
      have hE' : (E != 0) = true := by simp [hE]
      obtain ⟨m1, m2, m3, m4, m5, m6, m7⟩ := m
      obtain ⟨t1, t2, t3, t4, t5, t6, t7⟩ := t
      simp only [MM.v] at B T
      go_enter Try.func32, Try.ntmps32
      go_wp2_with fail
      refine (B.out _ h).mono ?_
      rintro e w1 ⟨rfl, k1⟩
      have kb := boxed_below w1 (.cells #[I m1, I m2, I m3, I m4, .int .u64 m5, I m6, I m7] 53)
      have k2 := k1.trans (kb.mono k1.size)
      clear k1 kb
      go_wp2_with fail
      refine (T.out _).mono ?_
      rintro e w2 ⟨rfl, k3⟩
      have k4 := k2.trans (k3.mono k2.size)
      clear k2 k3
      go_wp2
      go_ret3
      exact ⟨_, rfl, Sl.nil _ _, (by repeat first | exact Below.refl _ _ | assumption | refine drewN_below ?_ _ | refine Below.alloc ?_ (by first | exact Nat.le_refl _ | exact Below.size (by assumption) | (simp; done) | (simp; omega) | omega) _ | refine Below.setCell ?_ (by first | exact Nat.le_refl _ | (simp; done) | (simp; omega) | omega) _)⟩
    · have ht : ptE xs load = bootE xs := by rw [ptE, if_neg hb]
      rw [ht]
      clear ht T hE
      generalize bootE xs = E at *
      generalize bootM xs = m at *
      have hE' : (E != 0) = true := by simp [hb]
      obtain ⟨m1, m2, m3, m4, m5, m6, m7⟩ := m
      simp only [MM.v] at B
      go_enter Try.func32, Try.ntmps32
      go_wp2_with fail
      refine (B.out _ h).mono ?_
      rintro e w1 ⟨rfl, k1⟩
      go_wp2
      go_ret3
      exact ⟨_, rfl, Sl.nil _ _, (by repeat first | exact Below.refl _ _ | assumption | refine drewN_below ?_ _ | refine Below.alloc ?_ (by first | exact Nat.le_refl _ | exact Below.size (by assumption) | (simp; done) | (simp; omega) | omega) _ | refine Below.setCell ?_ (by first | exact Nat.le_refl _ | (simp; done) | (simp; omega) | omega) _)⟩
end Go.Proofs.Ytclfbpgfnhjfcaa
