/- check.digits, check.Rest and their references -/
import Derived.Test.YtdjgcenjonegjaaGreatDoorPk08
set_option maxRecDepth 20000
set_option maxHeartbeats 8000000
set_option linter.unusedSimpArgs false
set_option linter.unusedVariables false
namespace Go.Proofs.YtdjgcenjonegjaaGreatDoor
open Go.RowKit

theorem digits_any (s : ByteArray) (w : World) : Calls Tryz.prog 59 #[.string s] w (Grew (I (digsE s)) w) := by
  by_cases h0 : s.size < 1
  · have hE : digsE s = 1 := by simp [digsE, h0]
    have h00 : s.size = 0 := by omega
    have he : s = ByteArray.empty := by
      cases s with | mk d => have : d = #[] := Array.eq_empty_of_size_eq_zero h00; rw [this]; rfl
    rw [hE]; subst he; clear hE h0 h00; go_enter Tryz.func59, Tryz.ntmps59; go_wp2; go_ret; exact Grew.intro rfl below_auto
  · have hne := empty_toList (s := s) (by omega)
    by_cases h2 : 200 < s.size
    · have hE : digsE s = 1 := by simp [digsE, h2]
      rw [hE]; have h2' : (200 : Int) < (s.size : Int) := by omega
      clear hE; go_enter Tryz.func59, Tryz.ntmps59; go_wp2; go_ret; exact Grew.intro rfl below_auto
    · have hE : digsE s = if allDig s s.size then 0 else 7 := by simp [digsE, h0, h2]
      have HE := Lib.hid hE; have h2' : ¬ (200 : Int) < (s.size : Int) := by omega
      clear hE; go_enter Tryz.func59, Tryz.ntmps59; go_wp2
      go_loopw [] (fun wr => ∃ k : Nat, k ≤ s.size ∧ wr = w.iter s k ∧ Hid (allDig s k = true)) (fun wr => s.size - wr.iterPos w.heap.size)
      case atStart => exact ⟨0, Nat.zero_le _, rfl, rfl⟩
      case round =>
        obtain ⟨k, hk, rfl, hall⟩ := hrel
        by_cases hlt : k < s.size
        · have hb := bat_lt s k
          by_cases ha : bat s k < 128
          · have hnx := fun ty => next_ascii (P := Tryz.prog) w s k ty hlt ha
            cases hd : digAt s k
            · have hA := Lib.hid (allDig_no hlt hd)
              have hd' := Lib.hid hd; clear hd
              by_cases h48 : bat s k < 48
              · go_wp2
                go_ret; exact Grew.intro (eI (by rw [HE.out, hA.out]; rfl)) (iter_below _ _ _)
              · have h57 : 57 < bat s k := by
                  have := hd'.out; rw [← Bool.not_eq_true, digAt_true] at this; omega
                go_wp2; go_ret; exact Grew.intro (eI (by rw [HE.out, hA.out]; rfl)) (iter_below _ _ _)
            · obtain ⟨d0, d1⟩ := digAt_true.1 hd
              have hA := Lib.hid (allDig_succ hall.out hd); clear hd; go_wp2
              go_roundw
              case rel => exact ⟨k + 1, by omega, rfl, hA⟩
              case measure => simp; omega
          · obtain ⟨r, q, r0, r1, hnx⟩ := next_high (P := Tryz.prog) w s k hlt ha
            have hd : digAt s k = false := by rw [← Bool.not_eq_true, digAt_true]; omega
            have hA := Lib.hid (allDig_no hlt hd); clear hd; go_wp2; go_ret; exact Grew.intro (eI (by rw [HE.out, hA.out]; rfl)) (iter_below _ _ _)
        · have hnx : ∀ ty, (Instr.next (.pointer (some ⟨w.heap.size, 0, none⟩)) true ty).run Tryz.prog (w.iter s k) = _ := fun ty => run_next_end w s k ty hlt
          have hks : k = s.size := by omega
          have hA := Lib.hid (show allDig s s.size = true by rw [← hks]; exact hall.out); clear hks hall; go_wp2; go_ret; exact Grew.intro (eI (by rw [HE.out, hA.out]; rfl)) (iter_below _ _ _)

theorem DigitsMay_any (s : ByteArray) (w : World) : Calls Tryz.prog 50 #[.string s] w (Pure (I (digsE s)) w) := by
  by_cases h0 : s.size < 1
  · have hE : digsE s = 1 := by simp [digsE, h0]
    rw [hE]; have h0' : (s.size : Int) < 1 := by omega
    clear hE; go_enter Tryz.func50, Tryz.ntmps50; go_wp2; go_ret; exact Pure.intro rfl
  · by_cases h2 : 200 < s.size
    · have hE : digsE s = 1 := by simp [digsE, h2]
      rw [hE]; have h0' : ¬ (s.size : Int) < 1 := by omega
      have h2' : (200 : Int) < (s.size : Int) := by omega
      clear hE; go_enter Tryz.func50, Tryz.ntmps50; go_wp2; go_ret; exact Pure.intro rfl
    · have hE : digsE s = if allDig s s.size then 0 else 7 := by simp [digsE, h0, h2]
      have HE := Lib.hid hE; have h0' : ¬ (s.size : Int) < 1 := by omega
      have h2' : ¬ (200 : Int) < (s.size : Int) := by omega
      clear hE; go_enter Tryz.func50, Tryz.ntmps50; go_wp2
      go_loop [3] (fun i => ∃ k : Nat, k ≤ s.size ∧ i = I k ∧ Hid (allDig s k = true)) (fun i => s.size - (intOf i).toNat)
      case atStart => exact ⟨0, Nat.zero_le _, rfl, rfl⟩
      case round =>
        obtain ⟨k, hk, rfl, hall⟩ := hrel
        by_cases hlt : k < s.size
        · have hi1 : (k : Int) < (s.size : Int) := by omega
          have hb := Lib.hid (bat_eq hlt); cases hd : digAt s k
          · have hA := Lib.hid (allDig_no hlt hd)
            unfold digAt at hd; rw [← hb.out] at hd
            go_wp2_with (go_at_call 52; refine (Digit_any _ _).mono ?_; rintro e w' ⟨rfl, rfl⟩)
            go_ret; exact Pure.intro (eI (by rw [HE.out, hA.out]; rfl))
          · have hA := Lib.hid (allDig_succ hall.out hd)
            unfold digAt at hd; rw [← hb.out] at hd
            go_wp2_with (go_at_call 52; refine (Digit_any _ _).mono ?_; rintro e w' ⟨rfl, rfl⟩)
            go_round
            case rel => exact ⟨k + 1, by omega, by go_num, hA⟩
            case measure => simp [intOf]; omega
        · have hks : k = s.size := by omega
          have hi1 : ¬ (k : Int) < (s.size : Int) := by omega
          have hA := Lib.hid (show allDig s s.size = true by rw [← hks]; exact hall.out); clear hks hall; go_wp2; go_ret; exact Pure.intro (eI (by rw [HE.out, hA.out]; rfl))

/-- the number of the first k digits, and of the last m ones -/
def front (s : ByteArray) : Nat → Int
  | 0 => 0
  | k + 1 => 10 * front s k + dgt s k
def rear (s : ByteArray) : Nat → Int
  | 0 => 0
  | m + 1 => rear s m + 10 ^ m * dgt s (s.size - 1 - m)
def frontM (s : ByteArray) (k : Nat) : Int := front s k % 97
def rearM (s : ByteArray) (m : Nat) : Int := rear s m % 97
def powM (m : Nat) : Int := 10 ^ m % 97
def restA (s : ByteArray) : Int := if digsE s = 0 then frontM s s.size else 0

end Go.Proofs.YtdjgcenjonegjaaGreatDoor
