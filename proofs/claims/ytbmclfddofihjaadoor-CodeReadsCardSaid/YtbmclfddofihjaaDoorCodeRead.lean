/- readback.Read -/
import Derived.Test.YtbmclfddofihjaaDoorCodeRef
import Derived.Test.YtbmclfddofihjaaDoorCheckRest
import Derived.Test.YtbmclfddofihjaaDoorShelf
namespace Go.Proofs.YtbmclfddofihjaaDoor
open Go.RowKit
set_option maxRecDepth 20000

theorem front_dec {s : ByteArray} : ∀ k, allDig s k = true → front s k = (decV s k : Int)
  | 0, _ => rfl
  | k + 1, h => by
    have h1 : allDig s k = true := by
      unfold allDig at h ⊢
      rw [List.range_succ, List.all_append, Bool.and_eq_true] at h
      exact h.1
    have h2 := digAt_true.1 (allDig_at h (show k < k + 1 by omega))
    rw [front, front_dec k h1, decV]
    unfold dgt
    omega
theorem rest_dec {s : ByteArray} (hs : s.size = 18) (h : allDig s 18 = true) : digsE s = 0 ∧ restA s = (decV s 18 : Int) % 97 := by
  have e : digsE s = 0 := by unfold digsE; rw [if_neg (by omega), if_neg (by omega), hs, h]; rfl
  refine ⟨e, ?_⟩
  unfold restA
  rw [if_pos e, hs]
  unfold frontM
  rw [front_dec 18 h]
theorem rest_no {s : ByteArray} (hs : s.size = 18) (h : allDig s 18 = false) : digsE s = 7 := by
  unfold digsE; rw [if_neg (by omega), if_neg (by omega), hs, h]; rfl
theorem allDig_le {s : ByteArray} {n k : Nat} (h : allDig s n = true) (hk : k ≤ n) : allDig s k = true := by
  unfold allDig at *
  rw [List.all_eq_true] at *
  intro x hx
  exact h x (List.mem_range.2 (by have := List.mem_range.1 hx; omega))
theorem pu_dec {s : ByteArray} (hall : allDig s s.size = true) (h18 : s.size ≤ 18) : ∀ j k, k + j = s.size → Lib.parseUintM (2 ^ 64 - 1) (decV s k) (s.data.toList.drop k) = .ok (decV s s.size)
  | 0, k, h => by
    obtain rfl : k = s.size := by omega
    rw [List.drop_eq_nil_of_le (by rw [Array.length_toList]; exact Nat.le_refl _)]
    rfl
  | j + 1, k, h => by
    have hk : k < s.size := by omega
    have hl : k < s.data.toList.length := by rw [Array.length_toList]; exact hk
    have hc : (s.data.toList[k]'hl).toNat = bat s k := by
      rw [← bat_eq hk]; simp [ByteArray.getElem_eq_getElem_data]
    obtain ⟨d0, d1⟩ := digAt_true.1 (allDig_at hall hk)
    have hb := decV_lt k (allDig_le hall (by omega))
    have h6 : (10 : Nat) ^ k ≤ 10 ^ 17 := Nat.pow_le_pow_right (by decide) (by omega)
    rw [List.drop_eq_getElem_cons hl, Lib.parseUintM, hc, if_pos ⟨d0, d1⟩, if_neg (by omega), if_neg (by omega)]
    exact pu_dec hall h18 j (k + 1) (by omega)
theorem pi_dec {s : ByteArray} (hs : s.size = 18) (h : allDig s 18 = true) : Lib.parseIntB 64 s.data.toList = .ok (decV s 18 : Int) := by
  have hp := pu_dec (s := s) (by rw [hs]; exact h) (by omega) 18 0 (by omega)
  rw [List.drop_zero, hs] at hp
  have hl : 0 < s.data.toList.length := by rw [Array.length_toList]; show 0 < s.size; omega
  have hc : (s.data.toList[0]'hl).toNat = bat s 0 := by
    rw [← bat_eq (s := s) (k := 0) (by omega)]; simp [ByteArray.getElem_eq_getElem_data]
  obtain ⟨d0, d1⟩ := digAt_true.1 (allDig_at h (show 0 < 18 by omega))
  have hv := decV_bd h (by decide)
  generalize s.data.toList = l at *
  cases l with
  | nil => simp at hl
  | cons c r =>
    simp only [List.getElem_cons_zero] at hc
    have h0 : decV s 0 = 0 := rfl
    rw [h0] at hp
    generalize decV s 18 = v at *
    unfold Lib.parseIntB Lib.parseUintB
    simp only
    rw [if_neg (show ¬ (c.toNat = 43 ∨ c.toNat = 45) by omega), if_neg (by simp), hp]
    simp only
    rw [if_neg (by omega), if_neg (by omega), if_neg (by omega)]
set_option maxHeartbeats 2000000 in
theorem CodeRead_any (s : ByteArray) (w : World) : Calls Tryd.prog 8 #[.string s] w (Grew (T2 (shV (unV s)) (I (unE s))) w) := by
  have oR := Own.new (w := w) rfl [I 0, I 0, I 0] 32
  have qO := oR
  have q0 := qO.cell 0 (by simp)
  have qf0 := qO.frozen 0
  have q1 := qO.cell 1 (by simp)
  have qf1 := qO.frozen 1
  have q2 := qO.cell 2 (by simp)
  have qf2 := qO.frozen 2
  simp only [Nat.zero_add, List.getD_cons_zero, List.getD_cons_succ] at q0 q1 q2
  clear qO
  have r1 := set_same
  have r2 := set_off
  have r3 := set_blk
  have kz := boxed_below w (.cells #[I 0, I 0, I 0] 32)
  by_cases hs : s.size = 18
  · have h1 : (s.size : Int) = 18 := by omega
    have R := Lib.hid (fun W => Rest_any s W)
    cases hd : allDig s 18
    · have hE : unE s = 7 := by unfold unE; rw [if_pos hs, hd]; rfl
      rw [unV_bad hE (by decide), hE]
      rw [rest_no hs hd] at R
      clear hE hs hd
      go_enter Tryd.func8, Tryd.ntmps8
      go_wp2_with fail
      refine (R.out _).mono ?_
      rintro e w1 ⟨rfl, k1⟩
      have k := kz.trans (k1.mono kz.size)
      have oR := oR.below k1
      clear k1 q0 q1 q2 qf0 qf1 qf2
      have qO := oR
      have q0 := qO.cell 0 (by simp)
      have qf0 := qO.frozen 0
      have q1 := qO.cell 1 (by simp)
      have qf1 := qO.frozen 1
      have q2 := qO.cell 2 (by simp)
      have qf2 := qO.frozen 2
      simp only [Nat.zero_add, List.getD_cons_zero, List.getD_cons_succ] at q0 q1 q2
      clear qO
      go_wp2
      exact bodyPost_ret (v := T2 (.agg #[I 0, I 0, I 0]) (I 7)) (by simp [results, Tryd.results8, go_sem, *]; try omega) rfl (⟨rfl, (by repeat first | with_reducible assumption | with_reducible exact Below.refl _ _ | with_reducible refine Below.setCell ?_ (by first | exact Nat.le_refl _ | exact Below.size (by assumption) | (simp; done) | (simp; omega) | omega) _ | with_reducible refine Below.alloc ?_ (by first | exact Nat.le_refl _ | exact Below.size (by assumption) | (simp; done) | (simp; omega) | omega) _ | with_reducible refine drewN_below ?_ _ | with_reducible refine Below.drew ?_)⟩)
    · obtain ⟨e1, e2⟩ := rest_dec hs hd
      rw [e1, e2] at R
      have HE := Lib.hid (show unE s = if (decV s 18 : Int) % 97 = 0 then (if 99999999 < unN s / 52428800 then 2 else 0) else 8 by unfold unE; rw [if_pos hs, if_pos hd])
      have HB := Lib.hid (fun k (h : unE s = k) (hk : k ≠ 0) => (show (T2 (shV (unV s)) (I (unE s))) = T2 (.agg #[I 0, I 0, I 0]) (I k) by rw [unV_bad h hk, h]))
      have HG := Lib.hid (fun (h : unE s = 0) => (show (T2 (shV (unV s)) (I (unE s))) = T2 (.agg #[I (unN s % 50), I (unN s / 52428800), I (unN s / 50 % 1048576)]) (I 0) by rw [show unV s = ⟨unN s % 50, unN s / 52428800, unN s / 50 % 1048576⟩ by unfold unV; rw [if_pos h]; done, h]))
      generalize T2 (shV (unV s)) (I (unE s)) = RV at *
      have P := Lib.hid (fun W => Tryd.strconv_ParseInt_10_at64_ok s (by omega) (decV s 18 : Int) (pi_dec hs hd) W)
      have hE2 := HE.out
      have hv := decV_bd hd (by decide)
      have hNd : unN s = (decV s 18 : Int) / 97 := rfl
      rw [hNd] at hE2 HG
      clear hNd HE e1 e2 hd hs
      generalize decV s 18 = v at *
      have m97 : (v : Int).tmod 97 = (v : Int) % 97 := Int.tmod_eq_emod_of_nonneg (by omega)
      have q97 : (v : Int).tdiv 97 = (v : Int) / 97 := Int.tdiv_eq_ediv_of_nonneg (by omega)
      by_cases hz : (v : Int) % 97 = 0
      · rw [if_pos hz] at hE2
        rw [hz] at R
        have y0 : 0 ≤ (v : Int) / 97 := by omega
        have y1 : (v : Int) / 97 ≤ 10309278350515463 := by omega
        generalize (v : Int) / 97 = y at *
        have a1 : y.tmod 50 = y % 50 := Int.tmod_eq_emod_of_nonneg y0
        have a2 : y.tdiv 50 = y / 50 := Int.tdiv_eq_ediv_of_nonneg y0
        have a3 : (y / 50).tmod 1048576 = y / 50 % 1048576 := Int.tmod_eq_emod_of_nonneg (by omega)
        have a4 : (y / 50).tdiv 1048576 = y / 52428800 := by rw [Int.tdiv_eq_ediv_of_nonneg (by omega)]; omega
        go_enter Tryd.func8, Tryd.ntmps8
        go_wp2_with fail
        refine (R.out _).mono ?_
        rintro e w1 ⟨rfl, k1⟩
        have k := kz.trans (k1.mono kz.size)
        have oR := oR.below k1
        clear k1 q0 q1 q2 qf0 qf1 qf2 R
        go_wp2_with fail
        refine (P.out _).mono ?_
        rintro e w2 ⟨rfl, hw2⟩
        have k2 : Below w1.heap.size w1 w2 := by
          rcases hw2 with rfl | ⟨t, rfl⟩
          · exact Below.refl _ _
          · exact Lib.bytesWorld_below _ _ _
        have oR := oR.below k2
        have kk := k.trans (k2.mono k.size)
        have hlt := oR.lt
        clear hw2 k2 k P
        have pO := oR
        have p0 := pO.cell 0 (by simp)
        have pf0 := pO.frozen 0
        have p1 := pO.cell 1 (by simp)
        have pf1 := pO.frozen 1
        have p2 := pO.cell 2 (by simp)
        have pf2 := pO.frozen 2
        simp only [Nat.zero_add, List.getD_cons_zero, List.getD_cons_succ] at p0 p1 p2
        clear pO
        have qO := oR.alloc (.cells #[I (y % 50), I (y / 52428800), I (y / 50 % 1048576)] 32)
        have q0 := qO.cell 0 (by simp)
        have qf0 := qO.frozen 0
        have q1 := qO.cell 1 (by simp)
        have qf1 := qO.frozen 1
        have q2 := qO.cell 2 (by simp)
        have qf2 := qO.frozen 2
        simp only [Nat.zero_add, List.getD_cons_zero, List.getD_cons_succ] at q0 q1 q2
        clear qO
        by_cases hc : 99999999 < y / 52428800
        · rw [if_pos hc] at hE2
          have hA2 := Lib.hid (HB.out 2 hE2 (by decide))
          clear hE2 HB HG oR
          go_wp2
          refine bodyPost_ret (v := T2 (.agg #[I 0, I 0, I 0]) (I 2)) (by simp [results, Tryd.results8, go_sem, *]) rfl ⟨by rw [hA2.out], (by repeat first | with_reducible assumption | with_reducible exact Below.refl _ _ | with_reducible refine Below.setCell ?_ (by first | exact Nat.le_refl _ | exact Below.size (by assumption) | (simp; done) | (simp; omega) | omega) _ | with_reducible refine Below.alloc ?_ (by first | exact Nat.le_refl _ | exact Below.size (by assumption) | (simp; done) | (simp; omega) | omega) _ | with_reducible refine drewN_below ?_ _ | with_reducible refine Below.drew ?_)⟩
        · rw [if_neg hc] at hE2
          have hA2 := Lib.hid (HG.out hE2)
          clear hE2 HB HG oR
          have n1 : ¬ w2.heap.size = w.heap.size := by omega
          have n2 : ¬ w.heap.size = w2.heap.size := by omega
          go_wp2
          refine bodyPost_ret (v := T2 (.agg #[I (y % 50), I (y / 52428800), I (y / 50 % 1048576)]) (I 0)) (by simp [results, Tryd.results8, go_sem, *]) rfl ⟨by rw [hA2.out], (by repeat first | with_reducible assumption | with_reducible exact Below.refl _ _ | with_reducible refine Below.setCell ?_ (by first | exact Nat.le_refl _ | exact Below.size (by assumption) | (simp; done) | (simp; omega) | omega) _ | with_reducible refine Below.alloc ?_ (by first | exact Nat.le_refl _ | exact Below.size (by assumption) | (simp; done) | (simp; omega) | omega) _ | with_reducible refine drewN_below ?_ _ | with_reducible refine Below.drew ?_)⟩
      · rw [if_neg hz] at hE2
        have hA2 := Lib.hid (HB.out 8 hE2 (by decide))
        clear hE2 HB HG
        generalize (v : Int) % 97 = z at *
        have hz' : (z != 0) = true := by simp [hz]
        go_enter Tryd.func8, Tryd.ntmps8
        go_wp2_with fail
        refine (R.out _).mono ?_
        rintro e w1 ⟨rfl, k1⟩
        have k := kz.trans (k1.mono kz.size)
        have oR := oR.below k1
        clear k1 q0 q1 q2 qf0 qf1 qf2 R P
        have qO := oR
        have q0 := qO.cell 0 (by simp)
        have qf0 := qO.frozen 0
        have q1 := qO.cell 1 (by simp)
        have qf1 := qO.frozen 1
        have q2 := qO.cell 2 (by simp)
        have qf2 := qO.frozen 2
        simp only [Nat.zero_add, List.getD_cons_zero, List.getD_cons_succ] at q0 q1 q2
        clear qO
        go_wp2
        refine bodyPost_ret (v := T2 (.agg #[I 0, I 0, I 0]) (I 8)) (by simp [results, Tryd.results8, go_sem, *]) rfl ⟨by rw [hA2.out], (by repeat first | with_reducible assumption | with_reducible exact Below.refl _ _ | with_reducible refine Below.setCell ?_ (by first | exact Nat.le_refl _ | exact Below.size (by assumption) | (simp; done) | (simp; omega) | omega) _ | with_reducible refine Below.alloc ?_ (by first | exact Nat.le_refl _ | exact Below.size (by assumption) | (simp; done) | (simp; omega) | omega) _ | with_reducible refine drewN_below ?_ _ | with_reducible refine Below.drew ?_)⟩
  · have h1 : ¬ (s.size : Int) = 18 := by omega
    have hE : unE s = 6 := by unfold unE; rw [if_neg hs]
    rw [unV_bad hE (by decide), hE]
    clear hE hs
    go_enter Tryd.func8, Tryd.ntmps8
    go_wp2
    exact bodyPost_ret (v := T2 (.agg #[I 0, I 0, I 0]) (I 6)) (by simp [results, Tryd.results8, go_sem, *]; try omega) rfl (⟨rfl, (by repeat first | with_reducible assumption | with_reducible exact Below.refl _ _ | with_reducible refine Below.setCell ?_ (by first | exact Nat.le_refl _ | exact Below.size (by assumption) | (simp; done) | (simp; omega) | omega) _ | with_reducible refine Below.alloc ?_ (by first | exact Nat.le_refl _ | exact Below.size (by assumption) | (simp; done) | (simp; omega) | omega) _ | with_reducible refine drewN_below ?_ _ | with_reducible refine Below.drew ?_)⟩)
end Go.Proofs.YtbmclfddofihjaaDoor
