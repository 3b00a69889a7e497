/- ref.plain: a number of at most thirteen digits -/
import Derived.Test.YtfhmcahfjoliiaaDoorIter
import Derived.Test.YtfhmcahfjoliiaaDoorDec
import Derived.Test.YtfhmcahfjoliiaaDoorApi
namespace Go.Proofs.YtfhmcahfjoliiaaDoor
set_option linter.unusedSimpArgs false
set_option linter.unusedVariables false
open Go Go.RowKit
set_option maxRecDepth 20000

def plBad (s : ByteArray) : Bool := decide (s.size < 1) || decide (13 < s.size) || (decide (bat s 0 = 48) && decide (1 < s.size))
def plainI (s : ByteArray) : Int := if plBad s = true then -2 else if allDig s s.size = true then (decV s s.size : Int) else -2
/- the loop over the digits -/
set_option maxHeartbeats 1000000 in
theorem plain_any (s : ByteArray) (w : World) : Calls Tryd.prog 12 #[.string s] w (Pure (I (plainI s)) w) := by
  have HB := Lib.hid (fun (h : plBad s = true) => (show plainI s = -2 by unfold plainI; rw [if_pos h]))
  by_cases c1 : s.size < 1
  · have h := HB.out (by unfold plBad; simp [c1])
    have z1 : (s.size : Int) < 1 := by omega
    rw [h]
    clear HB h
    go_enter Tryd.func12, Tryd.ntmps12
    go_wp2
    go_ret
    exact Pure.intro rfl
  · by_cases c2 : 13 < s.size
    · have h := HB.out (by unfold plBad; simp [c2])
      have z1 : ¬ (s.size : Int) < 1 := by omega
      have z2 : (13 : Int) < (s.size : Int) := by omega
      rw [h]
      clear HB h
      go_enter Tryd.func12, Tryd.ntmps12
      go_wp2
      go_ret
      exact Pure.intro rfl
    · have z1 : ¬ (s.size : Int) < 1 := by omega
      have z2 : ¬ (13 : Int) < (s.size : Int) := by omega
      have l0 : 0 < s.size := by omega
      have hb0 := bat_eq l0
      have y0 : (0 : Int) < (s.size : Int) := by omega
      by_cases c3 : bat s 0 = 48 ∧ 1 < s.size
      · have h := HB.out (by unfold plBad; simp [c3.1, c3.2])
        have z3 : (1 : Int) < (s.size : Int) := by omega
        rw [c3.1] at hb0
        rw [h]
        clear HB h c3
        go_enter Tryd.func12, Tryd.ntmps12
        go_wp2
        go_ret
        exact Pure.intro rfl
      · have hp : plBad s = false := by
          unfold plBad
          rw [decide_eq_false c1, decide_eq_false c2]
          by_cases c4 : bat s 0 = 48
          · have : ¬ 1 < s.size := fun h => c3 ⟨c4, h⟩
            simp [this]
          · simp [c4]
        have HE := Lib.hid (show plainI s = if allDig s s.size = true then (decV s s.size : Int) else -2 by unfold plainI; rw [if_neg (by simp [hp])])
        have hq : (bat s 0 = 48 ∧ ¬ (1 : Int) < (s.size : Int)) ∨ ¬ ((bat s 0 : Nat) : Int) = 48 := by omega
        generalize plainI s = r at *
        clear HB hp c3 c1 c2
        generalize bat s 0 = b0 at hb0 hq
        rcases hq with ⟨q1, q2⟩ | q1
        · rw [q1] at hb0
          clear q1
          go_enter Tryd.func12, Tryd.ntmps12
          go_wp2
          go_loop [3, 4] (fun n i => ∃ k : Nat, k ≤ s.size ∧ i = I k ∧ n = I (decV s k) ∧ Hid (allDig s k = true)) (fun _ i => s.size - (intOf i).toNat)
          case atStart => exact ⟨0, Nat.zero_le _, rfl, rfl, rfl⟩
          case round =>
            obtain ⟨k, hk, rfl, rfl, hall⟩ := hrel
            by_cases hlt : k < s.size
            · have hi0 : (0 : Int) ≤ (k : Int) := by omega
              have hi1 : (k : Int) < (s.size : Int) := by omega
              have hb := bat_eq hlt
              have hdf : digAt s k = inB ((bat s k : Nat) : Int) 48 57 := rfl
              cases hd : digAt s k
              · have hA := Lib.hid (show r = -2 by rw [HE.out, if_neg (by rw [allDig_no (n := s.size) hlt hd]; decide)])
                have hdf' := (hdf.symm.trans hd)
                clear hd hdf hall hb0
                generalize bat s k = c at *
                go_wp2_with (go_at_call 24; refine (Digit_any _ _).mono ?_; rintro e w' ⟨rfl, rfl⟩)
                go_ret
                exact Pure.intro (eI hA.out.symm)
              · obtain ⟨d0, d1⟩ := digAt_true.1 hd
                have hA := Lib.hid (allDig_succ hall.out hd)
                have hv : decV s k < 1000000000000000 := by
                  have h5 := decV_lt k hall.out
                  have h6 : (10 : Nat) ^ k ≤ 10 ^ 13 := Nat.pow_le_pow_right (by decide) (by omega)
                  omega
                have HN := Lib.hid (show (.int .i64 (10 * (decV s k : Int) + ((bat s k : Int) - 48)) : Value) = I (decV s (k + 1)) by rw [decV]; congr 1; omega)
                have hdf' := (hdf.symm.trans hd)
                clear hd hdf hall hb0
                generalize decV s k = v at *
                generalize bat s k = c at *
                have w8 : IntKind.u8.wrap ((c : Int) - 48) = (c : Int) - 48 := by show ((c : Int) - 48) % 256 = _; omega
                have w1 : IntKind.i64.wrap (10 * (v : Int)) = 10 * (v : Int) := IntWalk.i64_in _ (by omega)
                have w2 : IntKind.i64.wrap (10 * (v : Int) + ((c : Int) - 48)) = 10 * (v : Int) + ((c : Int) - 48) := IntWalk.i64_in _ (by omega)
                have w3 : IntKind.i64.wrap ((c : Int) - 48) = (c : Int) - 48 := IntWalk.i64_in _ (by omega)
                go_wp2_with (go_at_call 24; refine (Digit_any _ _).mono ?_; rintro e w' ⟨rfl, rfl⟩)
                go_round
                case rel => exact ⟨k + 1, by omega, by go_num, HN.out, hA⟩
                case measure => simp [intOf]; omega
            · obtain rfl : k = s.size := by omega
              have hA := Lib.hid (show r = (decV s s.size : Int) by rw [HE.out, if_pos hall.out])
              clear hall hb0
              go_wp2
              go_ret
              exact Pure.intro (eI hA.out.symm)
        · go_enter Tryd.func12, Tryd.ntmps12
          go_wp2
          go_loop [3, 4] (fun n i => ∃ k : Nat, k ≤ s.size ∧ i = I k ∧ n = I (decV s k) ∧ Hid (allDig s k = true)) (fun _ i => s.size - (intOf i).toNat)
          case atStart => exact ⟨0, Nat.zero_le _, rfl, rfl, rfl⟩
          case round =>
            obtain ⟨k, hk, rfl, rfl, hall⟩ := hrel
            by_cases hlt : k < s.size
            · have hi0 : (0 : Int) ≤ (k : Int) := by omega
              have hi1 : (k : Int) < (s.size : Int) := by omega
              have hb := bat_eq hlt
              have hdf : digAt s k = inB ((bat s k : Nat) : Int) 48 57 := rfl
              cases hd : digAt s k
              · have hA := Lib.hid (show r = -2 by rw [HE.out, if_neg (by rw [allDig_no (n := s.size) hlt hd]; decide)])
                have hdf' := (hdf.symm.trans hd)
                clear hd hdf hall hb0
                generalize bat s k = c at *
                go_wp2_with (go_at_call 24; refine (Digit_any _ _).mono ?_; rintro e w' ⟨rfl, rfl⟩)
                go_ret
                exact Pure.intro (eI hA.out.symm)
              · obtain ⟨d0, d1⟩ := digAt_true.1 hd
                have hA := Lib.hid (allDig_succ hall.out hd)
                have hv : decV s k < 1000000000000000 := by
                  have h5 := decV_lt k hall.out
                  have h6 : (10 : Nat) ^ k ≤ 10 ^ 13 := Nat.pow_le_pow_right (by decide) (by omega)
                  omega
                have HN := Lib.hid (show (.int .i64 (10 * (decV s k : Int) + ((bat s k : Int) - 48)) : Value) = I (decV s (k + 1)) by rw [decV]; congr 1; omega)
                have hdf' := (hdf.symm.trans hd)
                clear hd hdf hall hb0
                generalize decV s k = v at *
                generalize bat s k = c at *
                have w8 : IntKind.u8.wrap ((c : Int) - 48) = (c : Int) - 48 := by show ((c : Int) - 48) % 256 = _; omega
                have w1 : IntKind.i64.wrap (10 * (v : Int)) = 10 * (v : Int) := IntWalk.i64_in _ (by omega)
                have w2 : IntKind.i64.wrap (10 * (v : Int) + ((c : Int) - 48)) = 10 * (v : Int) + ((c : Int) - 48) := IntWalk.i64_in _ (by omega)
                have w3 : IntKind.i64.wrap ((c : Int) - 48) = (c : Int) - 48 := IntWalk.i64_in _ (by omega)
                go_wp2_with (go_at_call 24; refine (Digit_any _ _).mono ?_; rintro e w' ⟨rfl, rfl⟩)
                go_round
                case rel => exact ⟨k + 1, by omega, by go_num, HN.out, hA⟩
                case measure => simp [intOf]; omega
            · obtain rfl : k = s.size := by omega
              have hA := Lib.hid (show r = (decV s s.size : Int) by rw [HE.out, if_pos hall.out])
              clear hall hb0
              go_wp2
              go_ret
              exact Pure.intro (eI hA.out.symm)
end Go.Proofs.YtfhmcahfjoliiaaDoor
