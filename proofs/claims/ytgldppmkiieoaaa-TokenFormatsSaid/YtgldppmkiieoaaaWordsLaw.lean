/- words.Plus, words.Times: their references, and the plain law -/
import Derived.Test.YtgldppmkiieoaaaWordsUp
namespace Go.Proofs.Ytgldppmkiieoaaa
open Go.RowKit
set_option maxRecDepth 20000

theorem digits4 {N w0 w1 w2 c : Nat} (h0 : w0 < 4294967296) (h1 : w1 < 4294967296) (h2 : w2 < 4294967296) (hN : N = w0 + 4294967296 * (w1 + 4294967296 * (w2 + 4294967296 * c))) :
    N % 4294967296 = w0 ∧ N / 4294967296 % 4294967296 = w1 ∧ N / 18446744073709551616 % 4294967296 = w2 ∧ N / 79228162514264337593543950336 = c := by
  have hB : (0 : Nat) < 4294967296 := by decide
  have a1 : N / 4294967296 = w1 + 4294967296 * (w2 + 4294967296 * c) := by rw [hN, Nat.add_mul_div_left _ _ hB, Nat.div_eq_of_lt h0, Nat.zero_add]
  have a2 : N / 18446744073709551616 = w2 + 4294967296 * c := by
    rw [show (18446744073709551616 : Nat) = 4294967296 * 4294967296 from rfl, ← Nat.div_div_eq_div_mul, a1, Nat.add_mul_div_left _ _ hB, Nat.div_eq_of_lt h1, Nat.zero_add]
  have a3 : N / 79228162514264337593543950336 = c := by
    rw [show (79228162514264337593543950336 : Nat) = 18446744073709551616 * 4294967296 from rfl, ← Nat.div_div_eq_div_mul, a2, Nat.add_mul_div_left _ _ hB, Nat.div_eq_of_lt h2, Nat.zero_add]
  refine ⟨?_, ?_, ?_, a3⟩
  · rw [hN, Nat.add_mul_mod_self_left, Nat.mod_eq_of_lt h0]
  · rw [a1, Nat.add_mul_mod_self_left, Nat.mod_eq_of_lt h1]
  · rw [a2, Nat.add_mul_mod_self_left, Nat.mod_eq_of_lt h2]
theorem plus_digits (a b c x : Nat) : val [a, b, c] + x = wordC plusF [a, b, c] x 0 + 4294967296 * (wordC plusF [a, b, c] x 1 + 4294967296 * (wordC plusF [a, b, c] x 2 + 4294967296 * carryC plusF [a, b, c] x 3)) := by
  have e : ∀ s : Nat, s % 4294967296 + 4294967296 * (s / 4294967296) = s := fun s => Nat.mod_add_div s _
  have h0 := e (a + x)
  have h1 := e (b + (a + x) / 4294967296)
  have h2 := e (c + (b + (a + x) / 4294967296) / 4294967296)
  simp only [wordC, carryC, plusF, List.getD_cons_zero, List.getD_cons_succ, val3]
  generalize (a + x) / 4294967296 = c1 at *
  generalize (b + c1) / 4294967296 = c2 at *
  generalize (c + c2) / 4294967296 = c3 at *
  generalize (a + x) % 4294967296 = s0 at *
  generalize (b + c1) % 4294967296 = s1 at *
  generalize (c + c2) % 4294967296 = s2 at *
  omega
theorem times_digits (a b c m : Nat) : val [a, b, c] * m = wordC (timesF m) [a, b, c] 0 0 + 4294967296 * (wordC (timesF m) [a, b, c] 0 1 + 4294967296 * (wordC (timesF m) [a, b, c] 0 2 + 4294967296 * carryC (timesF m) [a, b, c] 0 3)) := by
  have e : ∀ s : Nat, s % 4294967296 + 4294967296 * (s / 4294967296) = s := fun s => Nat.mod_add_div s _
  simp only [wordC, carryC, timesF, List.getD_cons_zero, List.getD_cons_succ, val3, Nat.add_zero]
  rw [Nat.add_mul, Nat.mul_assoc, Nat.add_mul, Nat.mul_assoc]
  generalize a * m = am
  generalize b * m = bm
  generalize c * m = cm
  have h0 := e am
  have h1 := e (bm + am / 4294967296)
  have h2 := e (cm + (bm + am / 4294967296) / 4294967296)
  generalize am / 4294967296 = c1 at *
  generalize (bm + c1) / 4294967296 = c2 at *
  generalize (cm + c2) / 4294967296 = c3 at *
  generalize am % 4294967296 = s0 at *
  generalize (bm + c1) % 4294967296 = s1 at *
  generalize (cm + c2) % 4294967296 = s2 at *
  omega

set_option maxHeartbeats 2000000 in
theorem Added_any (a b c x : Nat) (w : World) (ha : a < 4294967296) (hb : b < 4294967296) (hc : c < 4294967296) (hx : x < 4294967296) :
    Calls Try.prog 15 #[wideV a b c, U32 x] w (GrewW (wordC plusF [a, b, c] x 0) (wordC plusF [a, b, c] x 1) (wordC plusF [a, b, c] x 2) (carryC plusF [a, b, c] x 3) w) := by
  have hv := val3_lt ha hb hc
  have big1 : val [a, b, c] < 4294967296 ^ 100 := Nat.lt_of_lt_of_le hv (Nat.le_trans (by decide : 79228162514264337593543950336 ≤ 4294967296 ^ 3) (Nat.pow_le_pow_right (by decide) (by decide)))
  have big2 : x < 4294967296 ^ 100 := Nat.lt_of_lt_of_le hx (Nat.le_trans (by decide : 4294967296 ≤ 4294967296 ^ 1) (Nat.pow_le_pow_right (by decide) (by decide)))
  have B := Lib.hid (fun W => big96_any a b c W ha hb hc)
  have Nw := Lib.hid (fun W => NewInt_nat x W (by omega))
  have k0 := boxed_below w (.cells #[U32 0, U32 0, U32 0] 24)
  have kX := boxed_below w (.cells #[U32 a, U32 b, U32 c] 24)
  have hl : allW [a, b, c] := by intro d hd; simp at hd; omega
  obtain ⟨d0, d1, d2, d3⟩ := digits4 (wordC_lt plusF_ok hl hx 0) (wordC_lt plusF_ok hl hx 1) (wordC_lt plusF_ok hl hx 2) (plus_digits a b c x)
  have A := Lib.hid (fun z y W hz hy => Add_any z z y (val [a, b, c]) (val [a, b, c]) x W hz hz hy big1 big2)
  have V := Lib.hid (fun z W hz => wide96_any z (val [a, b, c] + x) W hz (by omega))
  rw [d0, d1, d2, d3] at V
  generalize wordC plusF [a, b, c] x 0 = w0' at *
  generalize wordC plusF [a, b, c] x 1 = w1' at *
  generalize wordC plusF [a, b, c] x 2 = w2' at *
  generalize carryC plusF [a, b, c] x 3 = w3' at *
  generalize val [a, b, c] + x = N at *
  generalize val [a, b, c] = n at *
  clear big1 big2 hv d0 d1 d2 d3 hl k0 kX
  have hx64 : (x : Int) ≤ 9223372036854775807 := by omega
  go_enter Try.func15, Try.ntmps15
  go_wp2_with fail
  refine (B.out _).mono ?_
  rintro e w1 ⟨z, rfl, hz, hzl, k1⟩
  have oz := (Own.new (w := w.alloc (.cells #[U32 a, U32 b, U32 c] 24)) (g := w.heap.size + 1) (by simp) [U32 0, U32 0, U32 0] 24).below k1
  have kk := below_box (below_box k1)
  have hzl2 : w.heap.size + 2 ≤ z := by simp at hzl; omega
  clear k1 hzl
  go_wp2_with fail
  refine (Nw.out _).mono ?_
  rintro e w2 ⟨y, rfl, hy, hyl, k2⟩
  go_wp2_with fail
  refine (A.out z y _ (hz.below k2) hy).mono ?_
  rintro e w3 ⟨rfl, hB, hK⟩
  have o3 := (oz.below k2).chg hK (by omega)
  have kk3 := hK.below (kk.trans (k2.mono kk.size)) (by omega) (Nat.le_trans kk.size k2.size)
  clear oz kk hz hy hK k2
  go_wp2_with fail
  refine (V.out z _ hB).mono ?_
  rintro e w4 ⟨rfl, k4⟩
  have qO := o3.below k4
  have q0 := qO.cell 0 (by simp)
  have qf0 := qO.frozen 0
  have q1 := qO.cell 1 (by simp)
  have qf1 := qO.frozen 1
  have q2 := qO.cell 2 (by simp)
  have qf2 := qO.frozen 2
  simp only [Nat.zero_add, List.getD_cons_zero, List.getD_cons_succ] at q0 q1 q2
  clear qO
  have kk4 := kk3.trans (k4.mono kk3.size)
  clear o3 k4 hB kk3
  have r1 := set_same
  have r2 := set_off
  have r3 := set_blk
  go_wp2
  exact bodyPost_ret (v := T2 (wideV w0' w1' w2') (U32 w3')) (by simp [results, Try.results15, go_sem, *]; try omega) rfl (⟨rfl, (by repeat first | with_reducible assumption | with_reducible exact Below.refl _ _ | with_reducible refine Below.setCell ?_ (by first | exact Nat.le_refl _ | exact Below.size (by assumption) | (simp; done) | (simp; omega) | omega) _ | with_reducible refine Below.alloc ?_ (by first | exact Nat.le_refl _ | exact Below.size (by assumption) | (simp; done) | (simp; omega) | omega) _ | with_reducible refine drewN_below ?_ _ | with_reducible refine Below.drew ?_)⟩)
set_option maxHeartbeats 2000000 in
theorem Multiplied_any (a b c x : Nat) (w : World) (ha : a < 4294967296) (hb : b < 4294967296) (hc : c < 4294967296) (hx : x < 4294967296) :
    Calls Try.prog 17 #[wideV a b c, U32 x] w (GrewW (wordC (timesF x) [a, b, c] 0 0) (wordC (timesF x) [a, b, c] 0 1) (wordC (timesF x) [a, b, c] 0 2) (carryC (timesF x) [a, b, c] 0 3) w) := by
  have hv := val3_lt ha hb hc
  have big1 : val [a, b, c] < 4294967296 ^ 100 := Nat.lt_of_lt_of_le hv (Nat.le_trans (by decide : 79228162514264337593543950336 ≤ 4294967296 ^ 3) (Nat.pow_le_pow_right (by decide) (by decide)))
  have big2 : x < 4294967296 ^ 100 := Nat.lt_of_lt_of_le hx (Nat.le_trans (by decide : 4294967296 ≤ 4294967296 ^ 1) (Nat.pow_le_pow_right (by decide) (by decide)))
  have B := Lib.hid (fun W => big96_any a b c W ha hb hc)
  have Nw := Lib.hid (fun W => NewInt_nat x W (by omega))
  have k0 := boxed_below w (.cells #[U32 0, U32 0, U32 0] 24)
  have kX := boxed_below w (.cells #[U32 a, U32 b, U32 c] 24)
  have hl : allW [a, b, c] := by intro d hd; simp at hd; omega
  obtain ⟨d0, d1, d2, d3⟩ := digits4 (wordC_lt (timesF_ok hx) hl (by decide) 0) (wordC_lt (timesF_ok hx) hl (by decide) 1) (wordC_lt (timesF_ok hx) hl (by decide) 2) (times_digits a b c x)
  have A := Lib.hid (fun z y W hz hy => Mul_any z z y (val [a, b, c]) (val [a, b, c]) x W hz hz hy big1 big2)
  have hN : val [a, b, c] * x < 340282366920938463463374607431768211456 := Nat.lt_of_le_of_lt (Nat.mul_le_mul (Nat.le_of_lt hv) (Nat.le_of_lt_succ hx)) (by decide)
  have V := Lib.hid (fun z W hz => wide96_any z (val [a, b, c] * x) W hz hN)
  rw [d0, d1, d2, d3] at V
  generalize wordC (timesF x) [a, b, c] 0 0 = w0' at *
  generalize wordC (timesF x) [a, b, c] 0 1 = w1' at *
  generalize wordC (timesF x) [a, b, c] 0 2 = w2' at *
  generalize carryC (timesF x) [a, b, c] 0 3 = w3' at *
  generalize val [a, b, c] * x = N at *
  generalize val [a, b, c] = n at *
  clear big1 big2 hv d0 d1 d2 d3 hl k0 kX hN
  have hx64 : (x : Int) ≤ 9223372036854775807 := by omega
  go_enter Try.func17, Try.ntmps17
  go_wp2_with fail
  refine (B.out _).mono ?_
  rintro e w1 ⟨z, rfl, hz, hzl, k1⟩
  have oz := (Own.new (w := w.alloc (.cells #[U32 a, U32 b, U32 c] 24)) (g := w.heap.size + 1) (by simp) [U32 0, U32 0, U32 0] 24).below k1
  have kk := below_box (below_box k1)
  have hzl2 : w.heap.size + 2 ≤ z := by simp at hzl; omega
  clear k1 hzl
  go_wp2_with fail
  refine (Nw.out _).mono ?_
  rintro e w2 ⟨y, rfl, hy, hyl, k2⟩
  go_wp2_with fail
  refine (A.out z y _ (hz.below k2) hy).mono ?_
  rintro e w3 ⟨rfl, hB, hK⟩
  have o3 := (oz.below k2).chg hK (by omega)
  have kk3 := hK.below (kk.trans (k2.mono kk.size)) (by omega) (Nat.le_trans kk.size k2.size)
  clear oz kk hz hy hK k2
  go_wp2_with fail
  refine (V.out z _ hB).mono ?_
  rintro e w4 ⟨rfl, k4⟩
  have qO := o3.below k4
  have q0 := qO.cell 0 (by simp)
  have qf0 := qO.frozen 0
  have q1 := qO.cell 1 (by simp)
  have qf1 := qO.frozen 1
  have q2 := qO.cell 2 (by simp)
  have qf2 := qO.frozen 2
  simp only [Nat.zero_add, List.getD_cons_zero, List.getD_cons_succ] at q0 q1 q2
  clear qO
  have kk4 := kk3.trans (k4.mono kk3.size)
  clear o3 k4 hB kk3
  have r1 := set_same
  have r2 := set_off
  have r3 := set_blk
  go_wp2
  exact bodyPost_ret (v := T2 (wideV w0' w1' w2') (U32 w3')) (by simp [results, Try.results17, go_sem, *]; try omega) rfl (⟨rfl, (by repeat first | with_reducible assumption | with_reducible exact Below.refl _ _ | with_reducible refine Below.setCell ?_ (by first | exact Nat.le_refl _ | exact Below.size (by assumption) | (simp; done) | (simp; omega) | omega) _ | with_reducible refine Below.alloc ?_ (by first | exact Nat.le_refl _ | exact Below.size (by assumption) | (simp; done) | (simp; omega) | omega) _ | with_reducible refine drewN_below ?_ _ | with_reducible refine Below.drew ?_)⟩)
end Go.Proofs.Ytgldppmkiieoaaa
