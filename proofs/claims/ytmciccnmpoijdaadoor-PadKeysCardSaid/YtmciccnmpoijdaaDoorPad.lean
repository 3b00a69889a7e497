/- keys: what a rune is worth; which pads may be; what one key does: plain, and the small functions -/
import Derived.Test.YtmciccnmpoijdaaDoorDec
import Derived.Test.YtmciccnmpoijdaaDoorIter
import Derived.Test.YtmciccnmpoijdaaDoorApi
namespace Go.Proofs.YtmciccnmpoijdaaDoor
open Go.RowKit
set_option maxRecDepth 20000

def keyDig (r : Int) : Int :=
  if 48 ≤ r ∧ r ≤ 57 then r - 48 else if 1632 ≤ r ∧ r ≤ 1641 then r - 1632 else if 1776 ≤ r ∧ r ≤ 1785 then r - 1776 else if 2406 ≤ r ∧ r ≤ 2415 then r - 2406
    else if 2534 ≤ r ∧ r ≤ 2543 then r - 2534 else if 65296 ≤ r ∧ r ≤ 65305 then r - 65296 else -1
theorem keyDig_bd (r : Int) : -1 ≤ keyDig r ∧ keyDig r ≤ 9 := by unfold keyDig; (repeat' split) <;> omega
theorem KeyDigit_any (r : Int) (w : World) : Calls Tryd.prog 26 #[.int .i32 r] w (Pure (I (keyDig r)) w) := by
  have HK := Lib.hid (show keyDig r = _ from by unfold keyDig; rfl)
  generalize keyDig r = k at *
  go_enter Tryd.func26, Tryd.ntmps26
  go_wp2
  all_goals
    go_ret
    refine Pure.intro (eI ?_)
    rw [HK.out]
    (repeat' split) <;> omega
def zeroAt (k : Nat) : Int := [48, 1632, 1776, 2406, 2534, 65296].getD k 0
abbrev zerosV : Value := .agg #[.int .i32 48, .int .i32 1632, .int .i32 1776, .int .i32 2406, .int .i32 2534, .int .i32 65296]
theorem zeroAt_bd {k : Nat} (hk : k < 6) : 48 ≤ zeroAt k ∧ zeroAt k ≤ 65296 := by
  match k, hk with
  | 0, _ => decide
  | 1, _ => decide
  | 2, _ => decide
  | 3, _ => decide
  | 4, _ => decide
  | 5, _ => decide
theorem keyDig_at {r : Int} {k : Nat} (hk : k < 6) (h0 : zeroAt k ≤ r) (h1 : r < zeroAt k + 10) : keyDig r = r - zeroAt k := by
  unfold keyDig
  match k, hk, h0, h1 with
  | 0, _, h0, h1 => simp only [zeroAt, List.getD_cons_zero, List.getD_cons_succ] at *; (repeat' split) <;> omega
  | 1, _, h0, h1 => simp only [zeroAt, List.getD_cons_zero, List.getD_cons_succ] at *; (repeat' split) <;> omega
  | 2, _, h0, h1 => simp only [zeroAt, List.getD_cons_zero, List.getD_cons_succ] at *; (repeat' split) <;> omega
  | 3, _, h0, h1 => simp only [zeroAt, List.getD_cons_zero, List.getD_cons_succ] at *; (repeat' split) <;> omega
  | 4, _, h0, h1 => simp only [zeroAt, List.getD_cons_zero, List.getD_cons_succ] at *; (repeat' split) <;> omega
  | 5, _, h0, h1 => simp only [zeroAt, List.getD_cons_zero, List.getD_cons_succ] at *; (repeat' split) <;> omega
theorem keyDig_none {r : Int} (h : ∀ k, k < 6 → ¬ (zeroAt k ≤ r ∧ r < zeroAt k + 10)) : keyDig r = -1 := by
  have h0 := h 0 (by decide)
  have h1 := h 1 (by decide)
  have h2 := h 2 (by decide)
  have h3 := h 3 (by decide)
  have h4 := h 4 (by decide)
  have h5 := h 5 (by decide)
  simp only [zeroAt, List.getD_cons_zero, List.getD_cons_succ] at *
  unfold keyDig
  (repeat' split) <;> omega
theorem index6 (k : Nat) (hk : k < 6) (w : World) : (Instr.index 115 zerosV (I k)).run Tryd.prog w = .ok (.int .i32 (zeroAt k)) w := by
  have h0 : (Instr.index 115 zerosV (I 0)).run Tryd.prog w = .ok (.int .i32 (zeroAt 0)) w := by kernel_rfl
  have h1 : (Instr.index 115 zerosV (I 1)).run Tryd.prog w = .ok (.int .i32 (zeroAt 1)) w := by kernel_rfl
  have h2 : (Instr.index 115 zerosV (I 2)).run Tryd.prog w = .ok (.int .i32 (zeroAt 2)) w := by kernel_rfl
  have h3 : (Instr.index 115 zerosV (I 3)).run Tryd.prog w = .ok (.int .i32 (zeroAt 3)) w := by kernel_rfl
  have h4 : (Instr.index 115 zerosV (I 4)).run Tryd.prog w = .ok (.int .i32 (zeroAt 4)) w := by kernel_rfl
  have h5 : (Instr.index 115 zerosV (I 5)).run Tryd.prog w = .ok (.int .i32 (zeroAt 5)) w := by kernel_rfl
  match k, hk with
  | 0, _ => exact h0
  | 1, _ => exact h1
  | 2, _ => exact h2
  | 3, _ => exact h3
  | 4, _ => exact h4
  | 5, _ => exact h5
theorem zeros_any (w : World) : Calls Tryd.prog 75 #[] w (Grew zerosV w) := by
  have zO := (Own.new (w := w) rfl [.int .i32 0, .int .i32 0, .int .i32 0, .int .i32 0, .int .i32 0, .int .i32 0] 115)
  have z0 := zO.cell 0 (by simp)
  have zf0 := zO.frozen 0
  have z1 := zO.cell 1 (by simp)
  have zf1 := zO.frozen 1
  have z2 := zO.cell 2 (by simp)
  have zf2 := zO.frozen 2
  have z3 := zO.cell 3 (by simp)
  have zf3 := zO.frozen 3
  have z4 := zO.cell 4 (by simp)
  have zf4 := zO.frozen 4
  have z5 := zO.cell 5 (by simp)
  have zf5 := zO.frozen 5
  simp only [Nat.zero_add, List.getD_cons_zero, List.getD_cons_succ] at z0 z1 z2 z3 z4 z5
  clear zO
  have r1 := set_same
  have r2 := set_off
  go_enter Tryd.func75, Tryd.ntmps75
  go_wp2
  exact bodyPost_ret (v := zerosV) (by simp [results, Tryd.results75, go_sem, *]; try omega) rfl (⟨rfl, (by repeat first | with_reducible assumption | with_reducible exact Below.refl _ _ | with_reducible refine Below.setCell ?_ (by first | exact Nat.le_refl _ | exact Below.size (by assumption) | (simp; done) | (simp; omega) | omega) _ | with_reducible refine Below.alloc ?_ (by first | exact Nat.le_refl _ | exact Below.size (by assumption) | (simp; done) | (simp; omega) | omega) _ | with_reducible refine drewN_below ?_ _ | with_reducible refine Below.drew ?_)⟩)
set_option maxHeartbeats 1000000 in
theorem value_any (r : Int) (w : World) : Calls Tryd.prog 50 #[.int .i32 r] w (Grew (I (keyDig r)) w) := by
  have Z := Lib.hid (fun W => zeros_any W)
  have HA := Lib.hid (fun k hk h0 h1 => keyDig_at (r := r) (k := k) hk h0 h1)
  have HN := Lib.hid (fun h => keyDig_none (r := r) h)
  have HI := Lib.hid (fun k hk W => index6 k hk W)
  generalize keyDig r = d at *
  go_enter Tryd.func50, Tryd.ntmps50
  go_wp2_with fail
  refine (Z.out _).mono ?_
  rintro e w1 ⟨rfl, k1⟩
  go_wp2
  go_loop [4, 6] (fun _ i => ∃ k : Nat, k ≤ 6 ∧ i = I k ∧ Hid (∀ j, j < k → ¬ (zeroAt j ≤ r ∧ r < zeroAt j + 10))) (fun _ i => 6 - (intOf i).toNat)
  case atStart => exact ⟨0, by decide, rfl, fun j hj => by omega⟩
  case round =>
    obtain ⟨k, hk, rfl, HD⟩ := hrel
    by_cases hlt : k < 6
    · have hix := fun W => HI.out k hlt W
      obtain ⟨b0, b1⟩ := zeroAt_bd hlt
      have hl : (k : Int) < 6 := by omega
      by_cases hd : zeroAt k ≤ r ∧ r < zeroAt k + 10
      · have hE := Lib.hid (HA.out k hlt hd.1 hd.2)
        obtain ⟨d0, d1⟩ := hd
        generalize zeroAt k = z at *
        have q1 : IntKind.i32.wrap (z + 10) = z + 10 := by simp [IntKind.wrap, IntKind.bits, IntKind.signed]; omega
        have q2 : IntKind.i32.wrap (r - z) = r - z := by simp [IntKind.wrap, IntKind.bits, IntKind.signed]; omega
        have q3 : (0 : Int) ≤ r - z := by omega
        have q4 : r - z < 10 := by omega
        go_wp2
        go_ret
        exact ⟨by rw [hE.out]; rfl, k1⟩
      · have hD := Lib.hid (show ∀ j, j < k + 1 → ¬ (zeroAt j ≤ r ∧ r < zeroAt j + 10) by
          intro j hj
          by_cases hjk : j < k
          · exact HD.out j hjk
          · obtain rfl : j = k := by omega
            exact hd)
        have hd' : ¬ zeroAt k ≤ r ∨ zeroAt k ≤ r ∧ ¬ r < zeroAt k + 10 := by omega
        clear hd
        generalize zeroAt k = z at *
        have q1 : IntKind.i32.wrap (z + 10) = z + 10 := by simp [IntKind.wrap, IntKind.bits, IntKind.signed]; omega
        rcases hd' with d0 | ⟨d0, d1⟩
        all_goals
          go_wp2
          exact ⟨⟨k + 1, by omega, by go_num, hD⟩, by simp [intOf]; omega⟩
    · have hk6 : k = 6 := by omega
      subst hk6
      have hE := Lib.hid (HN.out HD.out)
      go_wp2
      go_ret
      exact ⟨by rw [hE.out]; rfl, k1⟩
def mayP (D : ByteArray) : Bool := decide (D.size ≤ 30) && allDig D D.size
abbrev padV (D : ByteArray) (b : Bool) : Value := .agg #[.string D, .bool b]
end Go.Proofs.YtmciccnmpoijdaaDoor
