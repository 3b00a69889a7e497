/- ref.Divided, and the plain law -/
import Derived.Test.YtgldppmkiieoaaaWordsOver
import Derived.Test.YtgldppmkiieoaaaWordsLaw
namespace Go.Proofs.Ytgldppmkiieoaaa
open Go.RowKit
set_option maxRecDepth 20000

theorem over_digits (a b c d : Nat) : val [a, b, c] = d * (quoO d [a, b, c] 2 + 4294967296 * (quoO d [a, b, c] 1 + 4294967296 * quoO d [a, b, c] 0)) + remO d [a, b, c] 3 := by
  have e : ∀ s : Nat, s = d * (s / d) + s % d := fun s => (Nat.div_add_mod s d).symm
  have h0 := e c
  have h1 := e (4294967296 * (c % d) + b)
  have h2 := e (4294967296 * ((4294967296 * (c % d) + b) % d) + a)
  simp only [quoO, remO, List.getD_cons_zero, List.getD_cons_succ, val3, Nat.mul_zero, Nat.zero_add, Nat.sub_self, Nat.sub_zero, show 2 - 1 = 1 from rfl]
  generalize (4294967296 * ((4294967296 * (c % d) + b) % d) + a) / d = q0 at *
  generalize (4294967296 * ((4294967296 * (c % d) + b) % d) + a) % d = r0 at *
  generalize (4294967296 * (c % d) + b) / d = q1 at *
  generalize (4294967296 * (c % d) + b) % d = r1 at *
  generalize c / d = q2 at *
  generalize c % d = r2 at *
  rw [Nat.mul_add d, Nat.mul_left_comm d, Nat.mul_add d, Nat.mul_left_comm d]
  generalize d * q0 = x at *
  generalize d * q1 = y at *
  generalize d * q2 = z at *
  omega
set_option maxHeartbeats 2000000 in
theorem Divided_zero (a b c : Nat) (w : World) :
    Calls Try.prog 19 #[wideV a b c, U32 ((0 : Nat) : Int)] w (GrewW3 0 0 0 0 4 w) := by
  have k0 := boxed_below w (.cells #[U32 a, U32 b, U32 c] 24)
  have zO := (Own.new (w := w.alloc (.cells #[U32 a, U32 b, U32 c] 24)) (g := w.heap.size + 1) (by simp) [U32 0, U32 0, U32 0] 24)
  have z0 := zO.cell 0 (by simp)
  have zf0 := zO.frozen 0
  have z1 := zO.cell 1 (by simp)
  have zf1 := zO.frozen 1
  have z2 := zO.cell 2 (by simp)
  have zf2 := zO.frozen 2
  simp only [Nat.zero_add, List.getD_cons_zero, List.getD_cons_succ] at z0 z1 z2
  clear zO
  have r1 := set_same
  have r2 := set_off
  have r3 := set_blk
  go_enter Try.func19, Try.ntmps19
  go_wp2
  refine bodyPost_ret (v := .tuple #[wideV 0 0 0, U32 0, .int .i64 4]) (by simp [results, Try.results19, go_sem, *]) rfl ⟨rfl, (by repeat first | with_reducible assumption | with_reducible exact Below.refl _ _ | with_reducible refine Below.setCell ?_ (by first | exact Nat.le_refl _ | exact Below.size (by assumption) | (simp; done) | (simp; omega) | omega) _ | with_reducible refine Below.alloc ?_ (by first | exact Nat.le_refl _ | exact Below.size (by assumption) | (simp; done) | (simp; omega) | omega) _ | with_reducible refine drewN_below ?_ _ | with_reducible refine Below.drew ?_)⟩
theorem zeroBN (w : World) : BN (w.alloc (.cells #[.bool false, .slice none 0 0] 64)) w.heap.size 0 := ⟨_, zeroB w, [], Sl.nil _ _, rfl, by simp [allW], by simp⟩
set_option maxHeartbeats 4000000 in
theorem Divided_any (a b c d : Nat) (w : World) (ha : a < 4294967296) (hb : b < 4294967296) (hc : c < 4294967296) (hd : d < 4294967296) (hd0 : 0 < d) :
    Calls Try.prog 19 #[wideV a b c, U32 d] w (GrewW3 (quoO d [a, b, c] 2) (quoO d [a, b, c] 1) (quoO d [a, b, c] 0) (remO d [a, b, c] 3) 0 w) := by
  have hv := val3_lt ha hb hc
  have hl : allW [a, b, c] := by intro d hd; simp at hd; omega
  have hq0 := quoO_lt hl hd0 2
  have hq1 := quoO_lt hl hd0 1
  have hq2 := quoO_lt hl hd0 0
  have hr3 := remO_lt (l := [a, b, c]) hd0 3
  have ov := over_digits a b c d
  have hQ : val [a, b, c] / d = quoO d [a, b, c] 2 + 4294967296 * (quoO d [a, b, c] 1 + 4294967296 * (quoO d [a, b, c] 0 + 4294967296 * 0)) := by rw [ov, Nat.mul_add_div hd0, Nat.div_eq_of_lt hr3, Nat.add_zero]; rfl
  have hM : val [a, b, c] % d = remO d [a, b, c] 3 := by rw [ov, Nat.mul_add_mod, Nat.mod_eq_of_lt hr3]
  obtain ⟨d0, d1, d2, d3⟩ := digits4 hq0 hq1 hq2 hQ
  have B := Lib.hid (fun W => big96_any a b c W ha hb hc)
  have Nw := Lib.hid (fun W => NewInt_nat d W (by omega))
  have bigv : val [a, b, c] < 4294967296 ^ 200 := Nat.lt_of_lt_of_le hv (Nat.le_trans (by decide : 79228162514264337593543950336 ≤ 4294967296 ^ 3) (Nat.pow_le_pow_right (by decide) (by decide)))
  have QR := Lib.hid (fun W z x y r hz hx hy hr hzr => QuoRem_any z x y r 0 (val [a, b, c]) d 0 W hz hx hy hr hzr bigv (.inl ⟨hd0, hd⟩))
  have V := Lib.hid (fun z W hz => wide96_any z (val [a, b, c] / d) W hz (Nat.lt_of_le_of_lt (Nat.div_le_self _ _) (Nat.lt_trans hv (by decide))))
  rw [d0, d1, d2, d3] at V
  rw [hM] at QR
  have hr64 : remO d [a, b, c] 3 < 18446744073709551616 := by omega
  have U := Lib.hid (fun r W h => Uint64_any r (remO d [a, b, c] 3) W h hr64)
  have hrm : IntKind.u32.wrap ((remO d [a, b, c] 3 : Nat) : Int) = ((remO d [a, b, c] 3 : Nat) : Int) := by show ((remO d [a, b, c] 3 : Nat) : Int) % 4294967296 = _; omega
  have HRM := Lib.hid hrm
  have dz : ¬ (d : Int) = 0 := by omega
  clear hQ hM d0 d1 d2 d3 bigv ov hq0 hq1 hq2 hr3 hl hr64 hrm
  generalize quoO d [a, b, c] 2 = u0 at *
  generalize quoO d [a, b, c] 1 = u1 at *
  generalize quoO d [a, b, c] 0 = u2 at *
  generalize remO d [a, b, c] 3 = rr at *
  generalize val [a, b, c] / d = Q at *
  generalize val [a, b, c] = n at *
  go_enter Try.func19, Try.ntmps19
  go_wp2_with fail
  refine (B.out _).mono ?_
  rintro e w1 ⟨x, rfl, hx, hxl, k1⟩
  have k0 := boxed_below w (.cells #[U32 a, U32 b, U32 c] 24)
  have kk := (k0.alloc k0.size (.cells #[U32 0, U32 0, U32 0] 24))
  have oz := ((Own.new (w := w.alloc (.cells #[U32 a, U32 b, U32 c] 24)) (g := w.heap.size + 1) (by simp) [U32 0, U32 0, U32 0] 24).alloc (.cells #[.bool false, .slice none 0 0] 64)).below k1
  have hz := (zeroBN ((w.alloc (.cells #[U32 a, U32 b, U32 c] 24)).alloc (.cells #[U32 0, U32 0, U32 0] 24))).below k1
  have kk1 := (kk.alloc kk.size (.cells #[.bool false, .slice none 0 0] 64))
  have kk2 := kk1.trans (k1.mono kk1.size)
  rw [World.size_alloc, World.size_alloc] at hz
  have hxl2 : w.heap.size + 1 + 1 + 1 ≤ x := by simpa using hxl
  clear k1 hxl kk kk1 k0
  go_wp2_with fail
  refine (Nw.out _).mono ?_
  rintro e w2 ⟨y, rfl, hy, hyl, k2⟩
  have oz2 := oz.below k2
  have hz2 := hz.below k2
  have hx2 := hx.below k2
  have kk3 := kk2.trans (k2.mono kk2.size)
  clear oz hz hx kk2 k2
  have k3 := boxed_below w2 (.cells #[.bool false, .slice none 0 0] 64)
  have hyl2 := hy.lt
  have hs2 := hz2.lt
  go_wp2_with fail
  refine (QR.out _ _ _ _ _ (hz2.below k3) (hx2.below k3) (hy.below k3) (zeroBN w2) (by omega)).mono ?_
  rintro e w4 ⟨rfl, wm, b1, c1, b2, c2, b3⟩
  have kk4 := kk3.trans (k3.mono kk3.size)
  have o4 := ((oz2.below k3).chg c1 (by omega)).chg c2 (by omega)
  have kk5 := c1.below kk4 (by omega) kk4.size
  have kk6 := c2.below kk5 (by omega) kk5.size
  clear oz2 hz2 hx2 kk3 k3 kk4 kk5 c1 c2 b1 hy
  go_wp2_with fail
  refine (V.out _ _ b3).mono ?_
  rintro e w5 ⟨rfl, k5⟩
  have kk7 := kk6.trans (k5.mono kk6.size)
  have b5 := b2.below k5
  have qO := o4.below k5
  have q0 := qO.cell 0 (by simp)
  have qf0 := qO.frozen 0
  have q1 := qO.cell 1 (by simp)
  have qf1 := qO.frozen 1
  have q2 := qO.cell 2 (by simp)
  have qf2 := qO.frozen 2
  simp only [Nat.zero_add, List.getD_cons_zero, List.getD_cons_succ] at q0 q1 q2
  clear qO
  have n5 : w.heap.size + 1 < w5.heap.size := by have := kk7.size; have := b5.lt; omega
  clear o4 k5 b3 b2 kk6
  have r1 := set_same
  have r2 := set_off
  have r3 := set_blk
  go_wp2
  go_region_with (first | ((refine (U.out _ _ ?_).mono ?_); (exact b5.below (by repeat first | with_reducible assumption | with_reducible exact Below.refl _ _ | with_reducible refine Below.setCell ?_ (by first | exact Nat.le_refl _ | exact Below.size (by assumption) | (simp; done) | (simp; omega) | omega) _ | with_reducible refine Below.alloc ?_ (by first | exact Nat.le_refl _ | exact Below.size (by assumption) | (simp; done) | (simp; omega) | omega) _ | with_reducible refine drewN_below ?_ _ | with_reducible refine Below.drew ?_)); rintro e w' ⟨rfl, rfl⟩))
  all_goals
    go_wp2
    have hwr := HRM.out
    refine bodyPost_ret (v := .tuple #[wideV u0 u1 u2, U32 rr, .int .i64 0]) (by simp [results, Try.results19, go_sem, *]) rfl ⟨rfl, (by repeat first | with_reducible assumption | with_reducible exact Below.refl _ _ | with_reducible refine Below.setCell ?_ (by first | exact Nat.le_refl _ | exact Below.size (by assumption) | (simp; done) | (simp; omega) | omega) _ | with_reducible refine Below.alloc ?_ (by first | exact Nat.le_refl _ | exact Below.size (by assumption) | (simp; done) | (simp; omega) | omega) _ | with_reducible refine drewN_below ?_ _ | with_reducible refine Below.drew ?_)⟩
end Go.Proofs.Ytgldppmkiieoaaa
