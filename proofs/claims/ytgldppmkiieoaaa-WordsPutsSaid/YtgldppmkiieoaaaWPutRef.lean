/- ref.FieldPut -/
import Derived.Test.YtgldppmkiieoaaaWPut
namespace Go.Proofs.Ytgldppmkiieoaaa
open Go.RowKit
set_option maxRecDepth 20000

set_option maxHeartbeats 4000000 in
theorem FieldPut_any (a b c lo n v : Nat) (w : World) (ha : a < 4294967296) (hb : b < 4294967296) (hc : c < 4294967296) (hn0 : 1 ≤ n) (hn : n ≤ 64) (hlo : lo + n ≤ 96) (hv : v < 2 ^ n) :
    Calls Try.prog 29 #[wideV a b c, I lo, I n, .int .u64 v] w (GrewW2 (putV (val [a, b, c]) lo v n % 4294967296) (putV (val [a, b, c]) lo v n / 4294967296 % 4294967296) (putV (val [a, b, c]) lo v n / 18446744073709551616 % 4294967296) 0 w) := by
  have hf : fieldB lo n = true := by unfold fieldB; rw [decide_eq_true_eq]; omega
  have F := Lib.hid (fun W => fieldMay_any lo n W (by constructor <;> omega) (by constructor <;> omega))
  rw [hf] at F
  have hV := val3_lt ha hb hc
  have hv64 : v < 18446744073709551616 := Nat.lt_of_lt_of_le hv (Nat.pow_le_pow_right (by decide) hn)
  have Fd := Lib.hid (fun W => Field_any a b c lo n W ha hb hc hn0 hn hlo)
  have B := Lib.hid (fun W => big96_any a b c W ha hb hc)
  have ho64 : fld (val [a, b, c]) lo n < 18446744073709551616 := Nat.lt_of_lt_of_le (fld_lt _ _ _) (Nat.pow_le_pow_right (by decide) hn)
  have big0 : 18446744073709551616 < 4294967296 ^ 100 := Nat.lt_of_lt_of_le (by decide : 18446744073709551616 < 4294967296 ^ 3) (Nat.pow_le_pow_right (by decide) (by decide))
  have big1 : val [a, b, c] < 4294967296 ^ 100 := Nat.lt_of_lt_of_le hV (Nat.le_trans (by decide : 79228162514264337593543950336 ≤ 4294967296 ^ 3) (Nat.pow_le_pow_right (by decide) (by decide)))
  have hle := fld_le (val [a, b, c]) lo n
  have hpv := putV_full (val [a, b, c]) lo v n hv
  have hpl : putV (val [a, b, c]) lo v n < 2 ^ 96 := putV_lt (by exact hV) hlo
  have big2 : v * 2 ^ lo < 4294967296 ^ 100 := Nat.lt_of_lt_of_le (Nat.mul_lt_mul_of_lt_of_le hv64 (Nat.pow_le_pow_right (by decide) (by omega : lo ≤ 96)) (Nat.two_pow_pos _)) (Nat.le_trans (by decide : 18446744073709551616 * 2 ^ 96 ≤ 4294967296 ^ 5) (Nat.pow_le_pow_right (by decide) (by decide)))
  have S := Lib.hid (fun W z hz => SetUint64_any z 0 (fld (val [a, b, c]) lo n) W hz ho64)
  have S2 := Lib.hid (fun W z hz => SetUint64_any z 0 v W hz hv64)
  have L := Lib.hid (fun W z x hz hx => Lsh_any z x 0 (fld (val [a, b, c]) lo n) lo W hz hx (Nat.lt_trans ho64 big0) (by omega))
  have L2 := Lib.hid (fun W z x hz hx => Lsh_any z x 0 v lo W hz hx (Nat.lt_trans hv64 big0) (by omega))
  have Sb := Lib.hid (fun W z y hz hy => Sub_any z z y (val [a, b, c]) (val [a, b, c]) (fld (val [a, b, c]) lo n * 2 ^ lo) W hz hz hy big1 hle)
  have A := Lib.hid (fun W z y hz hy => Add_any z z y (val [a, b, c] - fld (val [a, b, c]) lo n * 2 ^ lo) (val [a, b, c] - fld (val [a, b, c]) lo n * 2 ^ lo) (v * 2 ^ lo) W hz hz hy (Nat.lt_of_le_of_lt (Nat.sub_le _ _) big1) big2)
  rw [← hpv] at A
  have V := Lib.hid (fun z W hz => wide96_any z (putV (val [a, b, c]) lo v n) W hz (Nat.lt_trans hpl (by decide)))
  have hsh : ∀ n' : Nat, n' = n → (v : Int) / 2 ^ n' = 0 := fun n' hn' => by
    subst hn'
    have e : (v : Int) / 2 ^ n' = ((v / 2 ^ n' : Nat) : Int) := by push_cast; rfl
    rw [e, Nat.div_eq_of_lt hv]; rfl
  have HSH := Lib.hid (hsh n rfl)
  have hlo2 : ((lo : Nat) : Int) ≤ 96 := by omega
  have hn2 : ((n : Nat) : Int) ≤ 64 := by omega
  clear hf hV hv64 ho64 big0 big1 big2 hle hpv hpl hsh hv
  generalize putV (val [a, b, c]) lo v n = P at *
  generalize P % 4294967296 = p0 at *
  generalize P / 4294967296 % 4294967296 = p1 at *
  generalize P / 18446744073709551616 % 4294967296 = p2 at *
  generalize P / 79228162514264337593543950336 = p3 at *
  generalize fld (val [a, b, c]) lo n = old at *
  generalize val [a, b, c] = N at *
  generalize N - old * 2 ^ lo = D at *
  generalize old * 2 ^ lo = o2 at *
  generalize v * 2 ^ lo = v2 at *
  have hq : (v : Int) / 2 ^ n = 0 := HSH.out
  by_cases hn64 : (n : Int) < 64
  · go_enter Try.func29, Try.ntmps29
    go_wp2_with fail
    refine (F.out _).mono ?_
    rintro e w' ⟨rfl, rfl⟩
    have kA := boxed_below w (.cells #[U32 a, U32 b, U32 c] 24)
    have kB := kA.alloc kA.size (.cells #[U32 0, U32 0, U32 0] 24)
    have oR := Own.new (w := w.alloc (.cells #[U32 a, U32 b, U32 c] 24)) (g := w.heap.size + 1) (by simp) [U32 0, U32 0, U32 0] 24
    have oA := (Own.new (w := w) rfl [U32 a, U32 b, U32 c] 24).alloc (.cells #[U32 0, U32 0, U32 0] 24)
    go_wp2_with fail
    refine (Fd.out _).mono ?_
    rintro e w1 ⟨rfl, k1⟩
    have oR1 := oR.below k1
    have oA1 := oA.below k1
    have kk1 := kB.trans (k1.mono kB.size)
    clear oR oA kA kB k1
    have dO := oA1
    have d0 := dO.cell 0 (by simp)
    have df0 := dO.frozen 0
    have d1 := dO.cell 1 (by simp)
    have df1 := dO.frozen 1
    have d2 := dO.cell 2 (by simp)
    have df2 := dO.frozen 2
    simp only [Nat.zero_add, List.getD_cons_zero, List.getD_cons_succ] at d0 d1 d2
    clear dO
    clear oA1
    go_wp2_with fail
    refine (B.out _).mono ?_
    rintro e w2 ⟨x, rfl, hx, hxl, k2⟩
    have oR := oR1.below k2
    have kk := kk1.trans (k2.mono kk1.size)
    have hs1 := oR1.lt
    have hxl0 : w.heap.size + 1 < x := by omega
    clear oR1 kk1 k2 d0 d1 d2 df0 df1 df2 hs1 hxl
    have hxlt := hx.lt
    have kI := boxed_below w2 (.cells #[.bool false, .slice none 0 0] 64)
    have kJ := boxed_below (w2.alloc (.cells #[.bool false, .slice none 0 0] 64)) (.cells #[.bool false, .slice none 0 0] 64)
    have hy := (zeroBN w2).below kJ
    have hz := zeroBN (w2.alloc (.cells #[.bool false, .slice none 0 0] 64))
    have hx3 := (hx.below kI).below kJ
    have oR3 := (oR.below kI).below kJ
    have kk3 := (kk.trans (kI.mono kk.size))
    have kk4 := kk3.trans (kJ.mono kk3.size)
    have hs2 := oR.lt
    rw [World.size_alloc] at hz
    clear kI kJ kk3 hx oR kk
    go_wp2_with fail
    refine (S.out _ _ hz).mono ?_
    rintro e w3 ⟨rfl, b3, c3⟩
    have hx4 := hx3.chg hz c3 (by omega)
    have hy4 := hy.chg hz c3 (by omega)
    have oR4 := oR3.chg c3 (by omega)
    have kk5 := c3.below kk4 (by omega) kk4.size
    clear hz c3 hx3 oR3 kk4 hy
    go_wp2_with fail
    refine (L.out _ _ _ hy4 b3).mono ?_
    rintro e w4 ⟨rfl, b4, c4⟩
    have hx5 := hx4.chg hy4 c4 (by omega)
    have oR5 := oR4.chg c4 (by omega)
    have kk6 := c4.below kk5 (by omega) kk5.size
    clear hx4 hy4 c4 oR4 kk5 b3
    go_wp2_with fail
    refine (Sb.out _ _ _ hx5 b4).mono ?_
    rintro e w5 ⟨rfl, hx, c5⟩
    have oR := oR5.chg c5 (by omega)
    have kk := c5.below kk6 (by omega) kk6.size
    clear c5 oR5 kk6 hx5 b4 hxlt hs2
    have hxlt := hx.lt
    have kI := boxed_below w5 (.cells #[.bool false, .slice none 0 0] 64)
    have kJ := boxed_below (w5.alloc (.cells #[.bool false, .slice none 0 0] 64)) (.cells #[.bool false, .slice none 0 0] 64)
    have hy := (zeroBN w5).below kJ
    have hz := zeroBN (w5.alloc (.cells #[.bool false, .slice none 0 0] 64))
    have hx3 := (hx.below kI).below kJ
    have oR3 := (oR.below kI).below kJ
    have kk3 := (kk.trans (kI.mono kk.size))
    have kk4 := kk3.trans (kJ.mono kk3.size)
    have hs2 := oR.lt
    rw [World.size_alloc] at hz
    clear kI kJ kk3 hx oR kk
    go_wp2_with fail
    refine (S2.out _ _ hz).mono ?_
    rintro e w3 ⟨rfl, b3, c3⟩
    have hx4 := hx3.chg hz c3 (by omega)
    have hy4 := hy.chg hz c3 (by omega)
    have oR4 := oR3.chg c3 (by omega)
    have kk5 := c3.below kk4 (by omega) kk4.size
    clear hz c3 hx3 oR3 kk4 hy
    go_wp2_with fail
    refine (L2.out _ _ _ hy4 b3).mono ?_
    rintro e w4 ⟨rfl, b4, c4⟩
    have hx5 := hx4.chg hy4 c4 (by omega)
    have oR5 := oR4.chg c4 (by omega)
    have kk6 := c4.below kk5 (by omega) kk5.size
    clear hx4 hy4 c4 oR4 kk5 b3
    go_wp2_with fail
    refine (A.out _ _ _ hx5 b4).mono ?_
    rintro e w8 ⟨rfl, hx, c5⟩
    have oR := oR5.chg c5 (by omega)
    have kk := c5.below kk6 (by omega) kk6.size
    clear c5 oR5 kk6 hx5 b4 hxlt hs2
    go_wp2_with fail
    refine (V.out x _ hx).mono ?_
    rintro e w9 ⟨rfl, k9⟩
    have qO := oR.below k9
    have q0 := qO.cell 0 (by simp)
    have qf0 := qO.frozen 0
    have q1 := qO.cell 1 (by simp)
    have qf1 := qO.frozen 1
    have q2 := qO.cell 2 (by simp)
    have qf2 := qO.frozen 2
    simp only [Nat.zero_add, List.getD_cons_zero, List.getD_cons_succ] at q0 q1 q2
    clear qO
    have n9 : w.heap.size + 1 < w9.heap.size := by have := k9.size; have := oR.lt; omega
    have kk9 := kk.trans (k9.mono kk.size)
    clear oR k9 kk hx
    have r1 := set_same
    have r2 := set_off
    have r3 := set_blk
    go_wp2
    exact bodyPost_ret (v := T2 (wideV p0 p1 p2) (I 0)) (by simp [results, Try.results29, go_sem, *]; try omega) rfl (⟨rfl, (by repeat first | with_reducible assumption | with_reducible exact Below.refl _ _ | with_reducible refine Below.setCell ?_ (by first | exact Nat.le_refl _ | exact Below.size (by assumption) | (simp; done) | (simp; omega) | omega) _ | with_reducible refine Below.alloc ?_ (by first | exact Nat.le_refl _ | exact Below.size (by assumption) | (simp; done) | (simp; omega) | omega) _ | with_reducible refine drewN_below ?_ _ | with_reducible refine Below.drew ?_)⟩)
  · go_enter Try.func29, Try.ntmps29
    go_wp2_with fail
    refine (F.out _).mono ?_
    rintro e w' ⟨rfl, rfl⟩
    have kA := boxed_below w (.cells #[U32 a, U32 b, U32 c] 24)
    have kB := kA.alloc kA.size (.cells #[U32 0, U32 0, U32 0] 24)
    have oR := Own.new (w := w.alloc (.cells #[U32 a, U32 b, U32 c] 24)) (g := w.heap.size + 1) (by simp) [U32 0, U32 0, U32 0] 24
    have oA := (Own.new (w := w) rfl [U32 a, U32 b, U32 c] 24).alloc (.cells #[U32 0, U32 0, U32 0] 24)
    go_wp2_with fail
    refine (Fd.out _).mono ?_
    rintro e w1 ⟨rfl, k1⟩
    have oR1 := oR.below k1
    have oA1 := oA.below k1
    have kk1 := kB.trans (k1.mono kB.size)
    clear oR oA kA kB k1
    have dO := oA1
    have d0 := dO.cell 0 (by simp)
    have df0 := dO.frozen 0
    have d1 := dO.cell 1 (by simp)
    have df1 := dO.frozen 1
    have d2 := dO.cell 2 (by simp)
    have df2 := dO.frozen 2
    simp only [Nat.zero_add, List.getD_cons_zero, List.getD_cons_succ] at d0 d1 d2
    clear dO
    clear oA1
    go_wp2_with fail
    refine (B.out _).mono ?_
    rintro e w2 ⟨x, rfl, hx, hxl, k2⟩
    have oR := oR1.below k2
    have kk := kk1.trans (k2.mono kk1.size)
    have hs1 := oR1.lt
    have hxl0 : w.heap.size + 1 < x := by omega
    clear oR1 kk1 k2 d0 d1 d2 df0 df1 df2 hs1 hxl
    have hxlt := hx.lt
    have kI := boxed_below w2 (.cells #[.bool false, .slice none 0 0] 64)
    have kJ := boxed_below (w2.alloc (.cells #[.bool false, .slice none 0 0] 64)) (.cells #[.bool false, .slice none 0 0] 64)
    have hy := (zeroBN w2).below kJ
    have hz := zeroBN (w2.alloc (.cells #[.bool false, .slice none 0 0] 64))
    have hx3 := (hx.below kI).below kJ
    have oR3 := (oR.below kI).below kJ
    have kk3 := (kk.trans (kI.mono kk.size))
    have kk4 := kk3.trans (kJ.mono kk3.size)
    have hs2 := oR.lt
    rw [World.size_alloc] at hz
    clear kI kJ kk3 hx oR kk
    go_wp2_with fail
    refine (S.out _ _ hz).mono ?_
    rintro e w3 ⟨rfl, b3, c3⟩
    have hx4 := hx3.chg hz c3 (by omega)
    have hy4 := hy.chg hz c3 (by omega)
    have oR4 := oR3.chg c3 (by omega)
    have kk5 := c3.below kk4 (by omega) kk4.size
    clear hz c3 hx3 oR3 kk4 hy
    go_wp2_with fail
    refine (L.out _ _ _ hy4 b3).mono ?_
    rintro e w4 ⟨rfl, b4, c4⟩
    have hx5 := hx4.chg hy4 c4 (by omega)
    have oR5 := oR4.chg c4 (by omega)
    have kk6 := c4.below kk5 (by omega) kk5.size
    clear hx4 hy4 c4 oR4 kk5 b3
    go_wp2_with fail
    refine (Sb.out _ _ _ hx5 b4).mono ?_
    rintro e w5 ⟨rfl, hx, c5⟩
    have oR := oR5.chg c5 (by omega)
    have kk := c5.below kk6 (by omega) kk6.size
    clear c5 oR5 kk6 hx5 b4 hxlt hs2
    have hxlt := hx.lt
    have kI := boxed_below w5 (.cells #[.bool false, .slice none 0 0] 64)
    have kJ := boxed_below (w5.alloc (.cells #[.bool false, .slice none 0 0] 64)) (.cells #[.bool false, .slice none 0 0] 64)
    have hy := (zeroBN w5).below kJ
    have hz := zeroBN (w5.alloc (.cells #[.bool false, .slice none 0 0] 64))
    have hx3 := (hx.below kI).below kJ
    have oR3 := (oR.below kI).below kJ
    have kk3 := (kk.trans (kI.mono kk.size))
    have kk4 := kk3.trans (kJ.mono kk3.size)
    have hs2 := oR.lt
    rw [World.size_alloc] at hz
    clear kI kJ kk3 hx oR kk
    go_wp2_with fail
    refine (S2.out _ _ hz).mono ?_
    rintro e w3 ⟨rfl, b3, c3⟩
    have hx4 := hx3.chg hz c3 (by omega)
    have hy4 := hy.chg hz c3 (by omega)
    have oR4 := oR3.chg c3 (by omega)
    have kk5 := c3.below kk4 (by omega) kk4.size
    clear hz c3 hx3 oR3 kk4 hy
    go_wp2_with fail
    refine (L2.out _ _ _ hy4 b3).mono ?_
    rintro e w4 ⟨rfl, b4, c4⟩
    have hx5 := hx4.chg hy4 c4 (by omega)
    have oR5 := oR4.chg c4 (by omega)
    have kk6 := c4.below kk5 (by omega) kk5.size
    clear hx4 hy4 c4 oR4 kk5 b3
    go_wp2_with fail
    refine (A.out _ _ _ hx5 b4).mono ?_
    rintro e w8 ⟨rfl, hx, c5⟩
    have oR := oR5.chg c5 (by omega)
    have kk := c5.below kk6 (by omega) kk6.size
    clear c5 oR5 kk6 hx5 b4 hxlt hs2
    go_wp2_with fail
    refine (V.out x _ hx).mono ?_
    rintro e w9 ⟨rfl, k9⟩
    have qO := oR.below k9
    have q0 := qO.cell 0 (by simp)
    have qf0 := qO.frozen 0
    have q1 := qO.cell 1 (by simp)
    have qf1 := qO.frozen 1
    have q2 := qO.cell 2 (by simp)
    have qf2 := qO.frozen 2
    simp only [Nat.zero_add, List.getD_cons_zero, List.getD_cons_succ] at q0 q1 q2
    clear qO
    have n9 : w.heap.size + 1 < w9.heap.size := by have := k9.size; have := oR.lt; omega
    have kk9 := kk.trans (k9.mono kk.size)
    clear oR k9 kk hx
    have r1 := set_same
    have r2 := set_off
    have r3 := set_blk
    go_wp2
    exact bodyPost_ret (v := T2 (wideV p0 p1 p2) (I 0)) (by simp [results, Try.results29, go_sem, *]; try omega) rfl (⟨rfl, (by repeat first | with_reducible assumption | with_reducible exact Below.refl _ _ | with_reducible refine Below.setCell ?_ (by first | exact Nat.le_refl _ | exact Below.size (by assumption) | (simp; done) | (simp; omega) | omega) _ | with_reducible refine Below.alloc ?_ (by first | exact Nat.le_refl _ | exact Below.size (by assumption) | (simp; done) | (simp; omega) | omega) _ | with_reducible refine drewN_below ?_ _ | with_reducible refine Below.drew ?_)⟩)
end Go.Proofs.Ytgldppmkiieoaaa
