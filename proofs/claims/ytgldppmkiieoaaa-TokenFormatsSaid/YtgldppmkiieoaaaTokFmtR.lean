/- ref.Formatted, where the token may be -/
import Derived.Test.YtgldppmkiieoaaaTokFmt
namespace Go.Proofs.Ytgldppmkiieoaaa
open Go.RowKit
set_option maxRecDepth 20000

set_option maxHeartbeats 4000000 in
theorem Formatted_good (c i m t : Nat) (w : World) (h : tokFault ⟨c, i, m, t⟩ = 0) : Calls Try.prog 35 #[.agg #[I c, I i, I m, I t]] w (GrewFmt (tokN c i m t) w) := by
  have hlt := tokN_lt h
  have Ft := Lib.hid (fun W => TokenFault_any ⟨c, i, m, t⟩ W)
  have Nm := Lib.hid (fun W => numberOf_any c i m t W h)
  have S := Lib.hid (fun W z hz => String_any z (tokN c i m t) W hz (by omega))
  rw [h] at Ft
  clear h
  generalize tokN c i m t = N at *
  have k0 := boxed_below w (.cells #[I c, I i, I m, I t] 45)
  have o1 := Own.new (w := w) rfl [I c, I i, I m, I t] 45
  go_enter Try.func35, Try.ntmps35
  go_wp2_with fail
  refine (Ft.out _).mono ?_
  rintro e w1 ⟨rfl, k1⟩
  have kk := k0.trans (k1.mono k0.size)
  have dO := o1.below k1
  have d0 := dO.cell 0 (by simp)
  have df0 := dO.frozen 0
  have d1 := dO.cell 1 (by simp)
  have df1 := dO.frozen 1
  have d2 := dO.cell 2 (by simp)
  have df2 := dO.frozen 2
  have d3 := dO.cell 3 (by simp)
  have df3 := dO.frozen 3
  simp only [Nat.zero_add, List.getD_cons_zero, List.getD_cons_succ] at d0 d1 d2 d3
  clear dO
  clear k0 k1 o1
  go_wp2_with fail
  refine (Nm.out _).mono ?_
  rintro e w2 ⟨z, rfl, hz, hzl, k2⟩
  have kk2 := kk.trans (k2.mono kk.size)
  clear k2 kk
  go_wp2_with fail
  refine (S.out _ _ hz).mono ?_
  rintro e w3 ⟨L, hL, rfl, k3⟩
  have hL20 : L ≤ 20 := hL.le (m := 20) (by omega) (by decide)
  have kk3 := kk2.trans (k3.mono kk2.size)
  have hsz := showB_size N L
  clear k3 kk2 d0 d1 d2 d3 df0 df1 df2 df3 hz
  go_wp2
  go_loop [5] (fun v => ∃ k : Nat, k + L ≤ 20 ∧ v = .string (zs k (showB N L))) (fun v => 20 - strLen v)
  case atStart => exact ⟨0, by omega, by rw [zs_zero]⟩
  case round =>
    obtain ⟨k, hk, rfl⟩ := hrel
    have hzs := zs_size k (showB N L)
    rw [hsz] at hzs
    have hsu := Lib.hid (zs_succ k (showB N L))
    have hzs2 := zs_size (k + 1) (showB N L)
    rw [hsz] at hzs2
    generalize hz1 : zs k (showB N L) = s1 at *
    generalize hz2 : zs (k + 1) (showB N L) = s2 at *
    have hov : ¬ 9223372036854775807 < 1 + s1.size := by omega
    have hov2 : ¬ 9223372036854775807 < (⟨#[48]⟩ : ByteArray).size + s1.size := by show ¬ 9223372036854775807 < 1 + s1.size; omega
    by_cases hlt2 : k + L < 20
    · have hI : (s1.size : Int) < 20 := by omega
      clear hz1
      go_wp2
      have e1 : strLen (.string ((⟨#[48]⟩ : ByteArray) ++ s1)) = k + 1 + L := by rw [hsu.out]; exact hzs2
      have e2 : strLen (.string s1) = k + L := hzs
      exact ⟨⟨k + 1, by omega, congrArg Value.string (hsu.out.trans hz2.symm)⟩, by rw [e1, e2]; omega⟩
    · have hI : ¬ (s1.size : Int) < 20 := by omega
      have hF : Hid (zs (20 - L) (showB N L) = s1) := by unfold Hid; rw [← hz1, show 20 - L = k by omega]
      have HKK := Lib.hid hk
      clear hsu hz2 hzs2 hz1 hzs hsz hlt2 hk hov hov2
      go_wp2
      go_ret2
      refine ⟨L, hL, ?_, kk3⟩
      rw [hF.out]
      rfl
end Go.Proofs.Ytgldppmkiieoaaa
