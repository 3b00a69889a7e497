/- check.digits, check.Rest and their references -/
import Derived.Test.YtiiielccimchgaaDoorText
namespace Go.Proofs.YtiiielccimchgaaDoor
open Go.RowKit
set_option maxRecDepth 20000

set_option maxHeartbeats 1000000 in
theorem digits_any (s : ByteArray) (w : World) : Calls Tryd.prog 31 #[.string s] w (Grew (I (digsE s)) w) := by
  by_cases h0 : s.size < 1
  · have hE : digsE s = 1 := by simp [digsE, h0]
    have h00 : s.size = 0 := by omega
    have he : s = ByteArray.empty := by
      cases s with | mk d => have : d = #[] := Array.eq_empty_of_size_eq_zero h00; rw [this]; rfl
    rw [hE]
    subst he
    clear hE h0 h00
    go_enter Tryd.func31, Tryd.ntmps31
    go_wp2
    go_ret
    exact Grew.intro rfl (by repeat first | exact Below.refl _ _ | assumption | refine drewN_below ?_ _ | refine Below.alloc ?_ (by first | exact Nat.le_refl _ | exact Below.size (by assumption) | (simp; done) | (simp; omega) | omega) _ | refine Below.setCell ?_ (by first | exact Nat.le_refl _ | (simp; done) | (simp; omega) | omega) _)
  · have hne := empty_toList (s := s) (by omega)
    by_cases h2 : 200 < s.size
    · have hE : digsE s = 1 := by simp [digsE, h2]
      rw [hE]
      have h2' : (200 : Int) < (s.size : Int) := by omega
      clear hE
      go_enter Tryd.func31, Tryd.ntmps31
      go_wp2
      go_ret
      exact Grew.intro rfl (by repeat first | exact Below.refl _ _ | assumption | refine drewN_below ?_ _ | refine Below.alloc ?_ (by first | exact Nat.le_refl _ | exact Below.size (by assumption) | (simp; done) | (simp; omega) | omega) _ | refine Below.setCell ?_ (by first | exact Nat.le_refl _ | (simp; done) | (simp; omega) | omega) _)
    · have hE : digsE s = if allDig s s.size then 0 else 7 := by simp [digsE, h0, h2]
      have HE := Lib.hid hE
      have h2' : ¬ (200 : Int) < (s.size : Int) := by omega
      clear hE
      go_enter Tryd.func31, Tryd.ntmps31
      go_wp2
      go_loopw [] (fun wr => ∃ k : Nat, k ≤ s.size ∧ wr = w.iter s k ∧ Hid (allDig s k = true)) (fun wr => s.size - wr.iterPos w.heap.size)
      case atStart => exact ⟨0, Nat.zero_le _, rfl, rfl⟩
      case round =>
        obtain ⟨k, hk, rfl, hall⟩ := hrel
        by_cases hlt : k < s.size
        · have hb := bat_lt s k
          by_cases ha : bat s k < 128
          · have hnx := fun ty => next_ascii (P := Tryd.prog) w s k ty hlt ha
            cases hd : digAt s k
            · have hA := Lib.hid (allDig_no hlt hd)
              have hd' := Lib.hid hd
              clear hd
              by_cases h48 : bat s k < 48
              · go_wp2
                go_ret
                exact Grew.intro (eI (by rw [HE.out, hA.out]; rfl)) (iter_below _ _ _)
              · have h57 : 57 < bat s k := by
                  have := hd'.out; rw [← Bool.not_eq_true, digAt_true] at this; omega
                go_wp2
                go_ret
                exact Grew.intro (eI (by rw [HE.out, hA.out]; rfl)) (iter_below _ _ _)
            · obtain ⟨d0, d1⟩ := digAt_true.1 hd
              have hA := Lib.hid (allDig_succ hall.out hd)
              clear hd
              go_wp2
              go_roundw
              case rel => exact ⟨k + 1, by omega, rfl, hA⟩
              case measure => simp; omega
          · obtain ⟨r, q, r0, r1, hnx⟩ := next_high (P := Tryd.prog) w s k hlt ha
            have hd : digAt s k = false := by rw [← Bool.not_eq_true, digAt_true]; omega
            have hA := Lib.hid (allDig_no hlt hd)
            clear hd
            go_wp2
            go_ret
            exact Grew.intro (eI (by rw [HE.out, hA.out]; rfl)) (iter_below _ _ _)
        · have hnx : ∀ ty, (Instr.next (.pointer (some ⟨w.heap.size, 0, none⟩)) true ty).run Tryd.prog (w.iter s k) = _ := fun ty => run_next_end w s k ty hlt
          have hks : k = s.size := by omega
          have hA := Lib.hid (show allDig s s.size = true by rw [← hks]; exact hall.out)
          clear hks hall
          go_wp2
          go_ret
          exact Grew.intro (eI (by rw [HE.out, hA.out]; rfl)) (iter_below _ _ _)

set_option maxHeartbeats 1000000 in
theorem DigitsMay_any (s : ByteArray) (w : World) : Calls Tryd.prog 17 #[.string s] w (Pure (I (digsE s)) w) := by
  by_cases h0 : s.size < 1
  · have hE : digsE s = 1 := by simp [digsE, h0]
    rw [hE]
    have h0' : (s.size : Int) < 1 := by omega
    clear hE
    go_enter Tryd.func17, Tryd.ntmps17
    go_wp2
    go_ret
    exact Pure.intro rfl
  · by_cases h2 : 200 < s.size
    · have hE : digsE s = 1 := by simp [digsE, h2]
      rw [hE]
      have h0' : ¬ (s.size : Int) < 1 := by omega
      have h2' : (200 : Int) < (s.size : Int) := by omega
      clear hE
      go_enter Tryd.func17, Tryd.ntmps17
      go_wp2
      go_ret
      exact Pure.intro rfl
    · have hE : digsE s = if allDig s s.size then 0 else 7 := by simp [digsE, h0, h2]
      have HE := Lib.hid hE
      have h0' : ¬ (s.size : Int) < 1 := by omega
      have h2' : ¬ (200 : Int) < (s.size : Int) := by omega
      clear hE
      go_enter Tryd.func17, Tryd.ntmps17
      go_wp2
      go_loop [3] (fun i => ∃ k : Nat, k ≤ s.size ∧ i = I k ∧ Hid (allDig s k = true)) (fun i => s.size - (intOf i).toNat)
      case atStart => exact ⟨0, Nat.zero_le _, rfl, rfl⟩
      case round =>
        obtain ⟨k, hk, rfl, hall⟩ := hrel
        by_cases hlt : k < s.size
        · have hi1 : (k : Int) < (s.size : Int) := by omega
          have hb := Lib.hid (bat_eq hlt)
          cases hd : digAt s k
          · have hA := Lib.hid (allDig_no hlt hd)
            unfold digAt at hd
            rw [← hb.out] at hd
            go_wp2_with (go_at_call 35; refine (Digit_any _ _).mono ?_; rintro e w' ⟨rfl, rfl⟩)
            go_ret
            exact Pure.intro (eI (by rw [HE.out, hA.out]; rfl))
          · have hA := Lib.hid (allDig_succ hall.out hd)
            unfold digAt at hd
            rw [← hb.out] at hd
            go_wp2_with (go_at_call 35; refine (Digit_any _ _).mono ?_; rintro e w' ⟨rfl, rfl⟩)
            go_round
            case rel => exact ⟨k + 1, by omega, by go_num, hA⟩
            case measure => simp [intOf]; omega
        · have hks : k = s.size := by omega
          have hi1 : ¬ (k : Int) < (s.size : Int) := by omega
          have hA := Lib.hid (show allDig s s.size = true by rw [← hks]; exact hall.out)
          clear hks hall
          go_wp2
          go_ret
          exact Pure.intro (eI (by rw [HE.out, hA.out]; rfl))

/-- the number of the first k digits, and of the last m ones -/
def front (s : ByteArray) : Nat → Int
  | 0 => 0
  | k + 1 => 10 * front s k + dgt s k
def rear (s : ByteArray) : Nat → Int
  | 0 => 0
  | m + 1 => rear s m + 10 ^ m * dgt s (s.size - 1 - m)
theorem front_rear (s : ByteArray) : ∀ m, m ≤ s.size → front s s.size = front s (s.size - m) * 10 ^ m + rear s m
  | 0, _ => by simp [rear]
  | m + 1, h => by
    rw [front_rear s m (by omega)]
    obtain ⟨j, hj⟩ : ∃ j, s.size = m + 1 + j := ⟨s.size - (m + 1), by omega⟩
    rw [show s.size - m = j + 1 by omega, show s.size - (m + 1) = j by omega]
    simp only [rear, front]
    rw [show s.size - 1 - m = j by omega, Int.pow_succ]
    rw [Int.add_mul, Int.mul_comm 10 (front s j), Int.mul_assoc (front s j) 10, Int.mul_comm 10 (10 ^ m), Int.mul_comm (dgt s j) (10 ^ m)]
    omega
def frontM (s : ByteArray) (k : Nat) : Int := front s k % 97
def rearM (s : ByteArray) (m : Nat) : Int := rear s m % 97
def powM (m : Nat) : Int := 10 ^ m % 97
theorem frontM_bd (s : ByteArray) (k : Nat) : 0 ≤ frontM s k ∧ frontM s k ≤ 96 := by unfold frontM; omega
theorem rearM_bd (s : ByteArray) (k : Nat) : 0 ≤ rearM s k ∧ rearM s k ≤ 96 := by unfold rearM; omega
theorem powM_bd (k : Nat) : 0 ≤ powM k ∧ powM k ≤ 96 := by unfold powM; omega
theorem frontM_succ (s : ByteArray) (k : Nat) : frontM s (k + 1) = (frontM s k * 10 + ((bat s k : Int) - 48)) % 97 := by
  unfold frontM; simp only [front]; unfold dgt; omega
theorem powM_succ (m : Nat) : powM (m + 1) = 10 * powM m % 97 := by
  unfold powM; rw [Int.pow_succ]; omega
theorem rearM_succ (s : ByteArray) (m : Nat) : rearM s (m + 1) = (rearM s m + powM m * ((bat s (s.size - 1 - m) : Int) - 48)) % 97 := by
  unfold rearM powM; simp only [rear]; unfold dgt
  generalize (bat s (s.size - 1 - m) : Int) - 48 = d
  generalize (10 : Int) ^ m = p
  have e : rear s m + p * d = (rear s m % 97 + p % 97 * d) + 97 * (rear s m / 97 + p / 97 * d) := by
    have h1 := Int.emod_add_mul_ediv p 97
    have h2 := Int.emod_add_mul_ediv (rear s m) 97
    generalize p / 97 = y at *
    generalize p % 97 = x at *
    subst h1
    rw [Int.add_mul, Int.mul_assoc, Int.mul_add]
    omega
  rw [e, Int.add_mul_emod_self_left]
theorem rear_all (s : ByteArray) : rearM s s.size = frontM s s.size := by
  unfold rearM frontM
  rw [front_rear s s.size (Nat.le_refl _)]
  simp [front]
def restA (s : ByteArray) : Int := if digsE s = 0 then frontM s s.size else 0

set_option maxHeartbeats 1000000 in
theorem Rest_any (s : ByteArray) (w : World) : Calls Tryd.prog 14 #[.string s] w (Grew (T2 (I (restA s)) (I (digsE s))) w) := by
  have D := Lib.hid (fun W => digits_any s W)
  by_cases hE : digsE s = 0
  · have e1 : restA s = frontM s s.size := by simp [restA, hE]
    obtain ⟨z0, z1, hall⟩ := digsE_zero hE
    have Hall := Lib.hid hall
    rw [e1, hE]
    rw [hE] at D
    clear e1 hE hall
    go_enter Tryd.func14, Tryd.ntmps14
    go_wp2_with fail
    refine (D.out _).mono ?_
    rintro e w1 ⟨rfl, k1⟩
    go_wp2
    go_loopw [5] (fun n wr => ∃ k : Nat, k ≤ s.size ∧ wr = w1.iter s k ∧ n = I (frontM s k)) (fun _ wr => s.size - wr.iterPos w1.heap.size)
    case atStart => exact ⟨0, Nat.zero_le _, rfl, rfl⟩
    case round =>
      obtain ⟨k, hk, rfl, rfl⟩ := hrel
      obtain ⟨f0, f1⟩ := frontM_bd s k
      by_cases hlt : k < s.size
      · obtain ⟨d0, d1⟩ := digAt_true.1 (allDig_at Hall.out hlt)
        have hnx := fun ty => next_ascii (P := Tryd.prog) w1 s k ty hlt (by omega)
        have H := Lib.hid (frontM_succ s k)
        generalize frontM s k = n at *
        generalize bat s k = b at *
        go_wp2
        go_roundw
        case rel => exact ⟨k + 1, by omega, rfl, eI (by rw [H.out])⟩
        case measure => simp; omega
      · have hnx : ∀ ty, (Instr.next (.pointer (some ⟨w1.heap.size, 0, none⟩)) true ty).run Tryd.prog (w1.iter s k) = _ := fun ty => run_next_end w1 s k ty hlt
        have hks : k = s.size := by omega
        have H := Lib.hid (show frontM s k = frontM s s.size by rw [hks])
        clear hks
        go_wp2
        go_ret2
        exact Grew.intro (eI2 H.out rfl) (k1.trans ((iter_below _ _ _).mono k1.size))
  · have e1 : restA s = 0 := by simp [restA, hE]
    rw [e1]
    have hb : (digsE s != 0) = true := by simp [hE]
    clear e1 hE
    go_enter Tryd.func14, Tryd.ntmps14
    go_wp2_with fail
    refine (D.out _).mono ?_
    rintro e w1 ⟨rfl, k1⟩
    go_wp2
    go_ret2
    exact Grew.intro rfl k1

end Go.Proofs.YtiiielccimchgaaDoor
