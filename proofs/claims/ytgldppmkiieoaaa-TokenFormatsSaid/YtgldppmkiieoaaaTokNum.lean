/- ref.numberOf, ref.TokenWords -/
import Derived.Test.YtgldppmkiieoaaaTokWords
namespace Go.Proofs.Ytgldppmkiieoaaa
open Go.RowKit
set_option maxRecDepth 20000

theorem tokN_lt {c i m t : Nat} (h : tokFault ⟨c, i, m, t⟩ = 0) : tokN c i m t < 73786976294838206464 := by
  obtain ⟨⟨c0, c1⟩, ⟨i0, i1⟩, ⟨t0, t1⟩, m0, m1⟩ := tokFault_zero h
  simp only at c0 c1 i0 i1 t0 t1 m0 m1
  unfold tokN
  omega
set_option maxHeartbeats 4000000 in
theorem numberOf_any (c i m t : Nat) (w : World) (h : tokFault ⟨c, i, m, t⟩ = 0) : Calls Try.prog 67 #[.agg #[I c, I i, I m, I t]] w (GrewBN (tokN c i m t) w) := by
  have B := Lib.hid (fun W => BodyOf_any ⟨c, i, m, t⟩ W)
  obtain ⟨⟨c0, c1⟩, ⟨i0, i1⟩, ⟨t0, t1⟩, m0, m1⟩ := tokFault_zero h
  simp only at c0 c1 i0 i1 t0 t1 m0 m1
  obtain ⟨b, hb⟩ : ∃ b, b = c * 2199023255552 + i * 2097152 + m := ⟨_, rfl⟩
  have hbv : bodyV ⟨c, i, m, t⟩ = (b : Int) := by unfold bodyV; rw [if_pos h]; unfold bodyN; simp only; omega
  rw [h, hbv] at B
  have hblt : b < 8796093022208 := by omega
  have hN : tokN c i m t = (b * 65536 + t) * 97 := by unfold tokN; rw [hb]
  rw [hN]
  have big : 18446744073709551616 < 4294967296 ^ 100 := Nat.lt_of_lt_of_le (by decide : 18446744073709551616 < 4294967296 ^ 3) (Nat.pow_le_pow_right (by decide) (by decide))
  have N1 := Lib.hid (fun W => NewInt_nat b W (by omega))
  have N2 := Lib.hid (fun W => NewInt_nat 65536 W (by decide))
  have N3 := Lib.hid (fun W => NewInt_nat t W (by omega))
  have N4 := Lib.hid (fun W => NewInt_nat 97 W (by decide))
  have M1 := Lib.hid (fun W z y hz hy => Mul_any z z y b b 65536 W hz hz hy (Nat.lt_trans (by omega) big) (Nat.lt_trans (by decide) big))
  have A := Lib.hid (fun W z y hz hy => Add_any z z y (b * 65536) (b * 65536) t W hz hz hy (Nat.lt_trans (by omega) big) (Nat.lt_trans (by omega) big))
  have M2 := Lib.hid (fun W z y hz hy => Mul_any z z y (b * 65536 + t) (b * 65536 + t) 97 W hz hz hy (Nat.lt_trans (by omega) big) (Nat.lt_trans (by decide) big))
  have k0 := boxed_below w (.cells #[I c, I i, I m, I t] 45)
  have o1 := Own.new (w := w) rfl [I c, I i, I m, I t] 45
  clear hb hbv h big hN
  generalize (b * 65536 + t) * 97 = n3 at *
  generalize b * 65536 + t = n2 at *
  generalize b * 65536 = n1 at *
  go_enter Try.func67, Try.ntmps67
  go_wp2_with fail
  refine (B.out _).mono ?_
  rintro e w1 ⟨rfl, k1⟩
  have o2 := o1.below k1
  have kk1 := k0.trans (k1.mono k0.size)
  clear o1 k0 k1
  go_wp2_with fail
  refine (N1.out _).mono ?_
  rintro e w2 ⟨z, rfl, hz, hzl, k2⟩
  have o3 := o2.below k2
  have kk2 := kk1.trans (k2.mono kk1.size)
  have hzo : w.heap.size < z := by have := o2.lt; omega
  have hs1 := kk1.size
  clear o2 k2 kk1
  go_wp2_with fail
  refine (N2.out _).mono ?_
  rintro e w3 ⟨y, rfl, hy, hyl, k3⟩
  have o4 := o3.below k3
  have kk3 := kk2.trans (k3.mono kk2.size)
  have hz3 := hz.below k3
  clear o3 k3 kk2 hz
  go_wp2_with fail
  refine (M1.out _ _ _ hz3 hy).mono ?_
  rintro e w4 ⟨rfl, hz4, c4⟩
  have o5 := o4.chg c4 (by omega)
  have kk4 := c4.below kk3 (by omega) kk3.size
  clear o4 c4 kk3 hz3 hy
  have dO := o5
  have d0 := dO.cell 0 (by simp)
  have df0 := dO.frozen 0
  have d1 := dO.cell 1 (by simp)
  have df1 := dO.frozen 1
  have d2 := dO.cell 2 (by simp)
  have df2 := dO.frozen 2
  have d3 := dO.cell 3 (by simp)
  have df3 := dO.frozen 3
  simp only [Nat.zero_add, List.getD_cons_zero, List.getD_cons_succ] at d0 d1 d2 d3
  clear dO
  go_wp2_with fail
  refine (N3.out _).mono ?_
  rintro e w5 ⟨y2, rfl, hy2, hyl2, k5⟩
  have kk5 := kk4.trans (k5.mono kk4.size)
  have hz5 := hz4.below k5
  clear o5 k5 kk4 hz4 d0 d1 d2 d3 df0 df1 df2 df3
  go_wp2_with fail
  refine (A.out _ _ _ hz5 hy2).mono ?_
  rintro e w6 ⟨rfl, hz6, c6⟩
  have kk6 := c6.below kk5 (by omega) kk5.size
  clear c6 kk5 hz5 hy2
  go_wp2_with fail
  refine (N4.out _).mono ?_
  rintro e w7 ⟨y3, rfl, hy3, hyl3, k7⟩
  have kk7 := kk6.trans (k7.mono kk6.size)
  have hz7 := hz6.below k7
  clear k7 kk6 hz6
  go_wp2_with fail
  refine (M2.out _ _ _ hz7 hy3).mono ?_
  rintro e w8 ⟨rfl, hz8, c8⟩
  have kk8 := c8.below kk7 (by omega) kk7.size
  go_wp2
  go_ret
  exact ⟨z, rfl, hz8, by omega, kk8⟩
set_option maxHeartbeats 4000000 in
theorem TokenWords_good (c i m t : Nat) (w : World) (h : tokFault ⟨c, i, m, t⟩ = 0) : Calls Try.prog 33 #[.agg #[I c, I i, I m, I t]] w (GrewW2 (tokN c i m t % 4294967296) (tokN c i m t / 4294967296 % 4294967296) (tokN c i m t / 18446744073709551616 % 4294967296) 0 w) := by
  have B := Lib.hid (fun W => TokenFault_any ⟨c, i, m, t⟩ W)
  have N := Lib.hid (fun W => numberOf_any c i m t W h)
  have hlt := tokN_lt h
  have V := Lib.hid (fun z W hz => wide96_any z (tokN c i m t) W hz (by omega))
  rw [h] at B
  clear h hlt
  generalize tokN c i m t = n at *
  generalize n % 4294967296 = n0 at *
  generalize n / 4294967296 % 4294967296 = n1 at *
  generalize n / 18446744073709551616 % 4294967296 = n2 at *
  generalize n / 79228162514264337593543950336 = n3 at *
  have k0 := boxed_below w (.cells #[I c, I i, I m, I t] 45)
  have kB := k0.alloc k0.size (.cells #[U32 0, U32 0, U32 0] 24)
  have o1 := (Own.new (w := w) rfl [I c, I i, I m, I t] 45).alloc (.cells #[U32 0, U32 0, U32 0] 24)
  have o2 := Own.new (w := w.alloc (.cells #[I c, I i, I m, I t] 45)) (g := w.heap.size + 1) (by simp) [U32 0, U32 0, U32 0] 24
  go_enter Try.func33, Try.ntmps33
  go_wp2_with fail
  refine (B.out _).mono ?_
  rintro e w1 ⟨rfl, k1⟩
  have kk1 := kB.trans (k1.mono kB.size)
  have q2 := o2.below k1
  have dO := o1.below k1
  have d0 := dO.cell 0 (by simp)
  have df0 := dO.frozen 0
  have d1 := dO.cell 1 (by simp)
  have df1 := dO.frozen 1
  have d2 := dO.cell 2 (by simp)
  have df2 := dO.frozen 2
  have d3 := dO.cell 3 (by simp)
  have df3 := dO.frozen 3
  simp only [Nat.zero_add, List.getD_cons_zero, List.getD_cons_succ] at d0 d1 d2 d3
  clear dO
  clear o1 o2 k0 kB k1
  go_wp2_with fail
  refine (N.out _).mono ?_
  rintro e w2 ⟨z, rfl, hz, hzl, k2⟩
  have q3 := q2.below k2
  have kk2 := kk1.trans (k2.mono kk1.size)
  clear q2 k2 kk1 d0 d1 d2 d3 df0 df1 df2 df3
  go_wp2_with fail
  refine (V.out _ _ hz).mono ?_
  rintro e w3 ⟨rfl, k3⟩
  have hq := (q3.below k3).lt
  have qO := q3.below k3
  have q0 := qO.cell 0 (by simp)
  have qf0 := qO.frozen 0
  have q1 := qO.cell 1 (by simp)
  have qf1 := qO.frozen 1
  have q2 := qO.cell 2 (by simp)
  have qf2 := qO.frozen 2
  simp only [Nat.zero_add, List.getD_cons_zero, List.getD_cons_succ] at q0 q1 q2
  clear qO
  have kk3 := kk2.trans (k3.mono kk2.size)
  clear q3 k3 kk2 hz
  have r1 := set_same
  have r2 := set_off
  have r3 := set_blk
  go_wp2
  exact bodyPost_ret (v := T2 (wideV n0 n1 n2) (I 0)) (by simp [results, Try.results33, go_sem, *]; try omega) rfl (⟨rfl, (by repeat first | with_reducible assumption | with_reducible exact Below.refl _ _ | with_reducible refine Below.setCell ?_ (by first | exact Nat.le_refl _ | exact Below.size (by assumption) | (simp; done) | (simp; omega) | omega) _ | with_reducible refine Below.alloc ?_ (by first | exact Nat.le_refl _ | exact Below.size (by assumption) | (simp; done) | (simp; omega) | omega) _ | with_reducible refine drewN_below ?_ _ | with_reducible refine Below.drew ?_)⟩)
end Go.Proofs.Ytgldppmkiieoaaa
