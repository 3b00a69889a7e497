/- ref.Uncoded: a code read back: plain, and the reference -/
import Derived.Test.YtbmclfddofihjaaDoorDec
import Derived.Test.YtbmclfddofihjaaDoorIter
import Derived.Test.YtbmclfddofihjaaDoorApi
namespace Go.Proofs.YtbmclfddofihjaaDoor
open Go.RowKit
set_option maxRecDepth 20000

def unN (s : ByteArray) : Int := (decV s 18 : Int) / 97
def unE (s : ByteArray) : Int := if s.size = 18 then (if allDig s 18 then (if (decV s 18 : Int) % 97 = 0 then (if 99999999 < unN s / 52428800 then 2 else 0) else 8) else 7) else 6
def unV (s : ByteArray) : AShown := if unE s = 0 then ⟨unN s % 50, unN s / 52428800, unN s / 50 % 1048576⟩ else ⟨0, 0, 0⟩
abbrev shV (x : AShown) : Value := .agg #[I x.me, I x.credit, I x.high]
theorem unV_bad {s : ByteArray} {k : Int} (h : unE s = k) (hk : k ≠ 0) : unV s = ⟨0, 0, 0⟩ := by unfold unV; rw [if_neg (by rw [h]; exact hk)]
theorem decV_bd {s : ByteArray} {k : Nat} (h : allDig s k = true) (hk : k ≤ 18) : decV s k < 1000000000000000000 := by
  have h1 := decV_lt k h
  have h2 : (10 : Nat) ^ k ≤ 10 ^ 18 := Nat.pow_le_pow_right (by decide) hk
  omega
set_option maxHeartbeats 2000000 in
theorem Uncoded_any (s : ByteArray) (w : World) : Calls Tryd.prog 9 #[.string s] w (Grew (T2 (shV (unV s)) (I (unE s))) w) := by
  have qO := Own.new (w := w) rfl [I 0, I 0, I 0] 32
  have q0 := qO.cell 0 (by simp)
  have qf0 := qO.frozen 0
  have q1 := qO.cell 1 (by simp)
  have qf1 := qO.frozen 1
  have q2 := qO.cell 2 (by simp)
  have qf2 := qO.frozen 2
  simp only [Nat.zero_add, List.getD_cons_zero, List.getD_cons_succ] at q0 q1 q2
  clear qO
  have r1 := set_same
  have r2 := set_off
  have r3 := set_blk
  have kz := boxed_below w (.cells #[I 0, I 0, I 0] 32)
  by_cases hs : s.size = 18
  · have h1 : (s.size : Int) = 18 := by omega
    have HE := Lib.hid (show unE s = if allDig s 18 then (if (decV s 18 : Int) % 97 = 0 then (if 99999999 < unN s / 52428800 then 2 else 0) else 8) else 7 by unfold unE; rw [if_pos hs])
    have HB := Lib.hid (fun k (h : unE s = k) (hk : k ≠ 0) => (show (T2 (shV (unV s)) (I (unE s))) = T2 (.agg #[I 0, I 0, I 0]) (I k) by rw [unV_bad h hk, h]))
    have HG := Lib.hid (fun (h : unE s = 0) => (show (T2 (shV (unV s)) (I (unE s))) = T2 (.agg #[I (unN s % 50), I (unN s / 52428800), I (unN s / 50 % 1048576)]) (I 0) by rw [show unV s = ⟨unN s % 50, unN s / 52428800, unN s / 50 % 1048576⟩ by unfold unV; rw [if_pos h]; done, h]))
    generalize T2 (shV (unV s)) (I (unE s)) = RV at *
    go_enter Tryd.func9, Tryd.ntmps9
    go_wp2
    go_loopw [4, 5] (fun n i wr => ∃ k : Nat, k ≤ 18 ∧ i = I k ∧ n = I (decV s k) ∧ wr = w.alloc (.cells #[I 0, I 0, I 0] 32) ∧ Hid (allDig s k = true)) (fun _ i _ => 18 - (intOf i).toNat)
    case atStart => exact ⟨0, by decide, rfl, rfl, rfl, rfl⟩
    case round =>
      obtain ⟨k, hk, rfl, rfl, rfl, hall⟩ := hrel
      by_cases hlt : k < 18
      · have hlt' : k < s.size := by omega
        have hi0 : (0 : Int) ≤ (k : Int) := by omega
        have hi1 : (k : Int) < (s.size : Int) := by omega
        have hi2 : (k : Int) < 18 := by omega
        have hb := bat_eq hlt'
        have hdf : digAt s k = inB ((bat s k : Nat) : Int) 48 57 := rfl
        cases hd : digAt s k
        · have hA := Lib.hid (HB.out 7 (by rw [HE.out, if_neg (by rw [allDig_no (n := 18) hlt hd]; decide)]) (by decide))
          have hdf' := (hdf.symm.trans hd)
          clear hd hdf hall
          generalize bat s k = c at *
          go_wp2_with (go_at_call 19; refine (Digit_any _ _).mono ?_; rintro e w' ⟨rfl, rfl⟩)
          refine bodyPost_ret (v := T2 (.agg #[I 0, I 0, I 0]) (I 7)) (by simp [results, Tryd.results9, go_sem, *]) rfl ⟨by rw [hA.out], (by repeat first | with_reducible assumption | with_reducible exact Below.refl _ _ | with_reducible refine Below.setCell ?_ (by first | exact Nat.le_refl _ | exact Below.size (by assumption) | (simp; done) | (simp; omega) | omega) _ | with_reducible refine Below.alloc ?_ (by first | exact Nat.le_refl _ | exact Below.size (by assumption) | (simp; done) | (simp; omega) | omega) _ | with_reducible refine drewN_below ?_ _ | with_reducible refine Below.drew ?_)⟩
        · obtain ⟨d0, d1⟩ := digAt_true.1 hd
          have hA := Lib.hid (allDig_succ hall.out hd)
          have hv : decV s k < 100000000000000000 := by
            have h5 := decV_lt k hall.out
            have h6 : (10 : Nat) ^ k ≤ 10 ^ 17 := Nat.pow_le_pow_right (by decide) (by omega)
            omega
          have HN := Lib.hid (show (.int .i64 (10 * (decV s k : Int) + ((bat s k : Int) - 48)) : Value) = I (decV s (k + 1)) by rw [decV]; congr 1; omega)
          have hdf' := (hdf.symm.trans hd)
          clear hd hdf hall
          generalize decV s k = v at *
          generalize bat s k = c at *
          have w8 : IntKind.u8.wrap ((c : Int) - 48) = (c : Int) - 48 := by show ((c : Int) - 48) % 256 = _; omega
          have w1 : IntKind.i64.wrap (10 * (v : Int)) = 10 * (v : Int) := IntWalk.i64_in _ (by omega)
          have w2 : IntKind.i64.wrap (10 * (v : Int) + ((c : Int) - 48)) = 10 * (v : Int) + ((c : Int) - 48) := IntWalk.i64_in _ (by omega)
          have w3 : IntKind.i64.wrap ((c : Int) - 48) = (c : Int) - 48 := IntWalk.i64_in _ (by omega)
          go_wp2_with (go_at_call 19; refine (Digit_any _ _).mono ?_; rintro e w' ⟨rfl, rfl⟩)
          exact ⟨⟨k + 1, by omega, by go_num, HN.out, trivial, hA⟩, by simp [intOf]; omega⟩
      · obtain rfl : k = 18 := by omega
        have hA := hall.out
        have hE2 := HE.out
        rw [if_pos hA] at hE2
        have hv := decV_bd hA (by decide)
        have hNd : unN s = (decV s 18 : Int) / 97 := rfl
        rw [hNd] at hE2 HG
        clear hall hNd HE
        generalize decV s 18 = v at *
        have m97 : (v : Int).tmod 97 = (v : Int) % 97 := Int.tmod_eq_emod_of_nonneg (by omega)
        have q97 : (v : Int).tdiv 97 = (v : Int) / 97 := Int.tdiv_eq_ediv_of_nonneg (by omega)
        by_cases hz : (v : Int) % 97 = 0
        · rw [if_pos hz] at hE2
          have y0 : 0 ≤ (v : Int) / 97 := by omega
          have y1 : (v : Int) / 97 ≤ 10309278350515463 := by omega
          generalize (v : Int) / 97 = y at *
          have a1 : y.tmod 50 = y % 50 := Int.tmod_eq_emod_of_nonneg y0
          have a2 : y.tdiv 50 = y / 50 := Int.tdiv_eq_ediv_of_nonneg y0
          have a3 : (y / 50).tmod 1048576 = y / 50 % 1048576 := Int.tmod_eq_emod_of_nonneg (by omega)
          have a4 : y.tdiv 52428800 = y / 52428800 := Int.tdiv_eq_ediv_of_nonneg y0
          by_cases hc : 99999999 < y / 52428800
          · rw [if_pos hc] at hE2
            have hA2 := Lib.hid (HB.out 2 hE2 (by decide))
            clear hE2 HB HG
            go_wp2
            refine bodyPost_ret (v := T2 (.agg #[I 0, I 0, I 0]) (I 2)) (by simp [results, Tryd.results9, go_sem, *]) rfl ⟨by rw [hA2.out], (by repeat first | with_reducible assumption | with_reducible exact Below.refl _ _ | with_reducible refine Below.setCell ?_ (by first | exact Nat.le_refl _ | exact Below.size (by assumption) | (simp; done) | (simp; omega) | omega) _ | with_reducible refine Below.alloc ?_ (by first | exact Nat.le_refl _ | exact Below.size (by assumption) | (simp; done) | (simp; omega) | omega) _ | with_reducible refine drewN_below ?_ _ | with_reducible refine Below.drew ?_)⟩
          · rw [if_neg hc] at hE2
            have hA2 := Lib.hid (HG.out hE2)
            clear hE2 HB HG
            go_wp2
            refine bodyPost_ret (v := T2 (.agg #[I (y % 50), I (y / 52428800), I (y / 50 % 1048576)]) (I 0)) (by simp [results, Tryd.results9, go_sem, *]) rfl ⟨by rw [hA2.out], (by repeat first | with_reducible assumption | with_reducible exact Below.refl _ _ | with_reducible refine Below.setCell ?_ (by first | exact Nat.le_refl _ | exact Below.size (by assumption) | (simp; done) | (simp; omega) | omega) _ | with_reducible refine Below.alloc ?_ (by first | exact Nat.le_refl _ | exact Below.size (by assumption) | (simp; done) | (simp; omega) | omega) _ | with_reducible refine drewN_below ?_ _ | with_reducible refine Below.drew ?_)⟩
        · rw [if_neg hz] at hE2
          have hA2 := Lib.hid (HB.out 8 hE2 (by decide))
          clear hE2 HB HG
          go_wp2
          refine bodyPost_ret (v := T2 (.agg #[I 0, I 0, I 0]) (I 8)) (by simp [results, Tryd.results9, go_sem, *]) rfl ⟨by rw [hA2.out], (by repeat first | with_reducible assumption | with_reducible exact Below.refl _ _ | with_reducible refine Below.setCell ?_ (by first | exact Nat.le_refl _ | exact Below.size (by assumption) | (simp; done) | (simp; omega) | omega) _ | with_reducible refine Below.alloc ?_ (by first | exact Nat.le_refl _ | exact Below.size (by assumption) | (simp; done) | (simp; omega) | omega) _ | with_reducible refine drewN_below ?_ _ | with_reducible refine Below.drew ?_)⟩
  · have h1 : ¬ (s.size : Int) = 18 := by omega
    have hE : unE s = 6 := by unfold unE; rw [if_neg hs]
    rw [unV_bad hE (by decide), hE]
    clear hE hs
    go_enter Tryd.func9, Tryd.ntmps9
    go_wp2
    exact bodyPost_ret (v := T2 (.agg #[I 0, I 0, I 0]) (I 6)) (by simp [results, Tryd.results9, go_sem, *]; try omega) rfl (⟨rfl, (by repeat first | with_reducible assumption | with_reducible exact Below.refl _ _ | with_reducible refine Below.setCell ?_ (by first | exact Nat.le_refl _ | exact Below.size (by assumption) | (simp; done) | (simp; omega) | omega) _ | with_reducible refine Below.alloc ?_ (by first | exact Nat.le_refl _ | exact Below.size (by assumption) | (simp; done) | (simp; omega) | omega) _ | with_reducible refine drewN_below ?_ _ | with_reducible refine Below.drew ?_)⟩)
end Go.Proofs.YtbmclfddofihjaaDoor
