/- ref.aged and ref.Aged -/
import Derived.Test.YtcpljkjibhindaaDebtAge
namespace Go.Proofs.Ytcpljkjibhindaa
open Go.RowKit
set_option maxRecDepth 20000
set_option maxHeartbeats 1000000 in
theorem aged_any (d : ADebt) (n : Nat) (w : World) (hok : okDebt d = true) (hn : n ≤ 2400) :
    Calls Try.prog 82 #[.agg #[I d.owed, I d.bp], I n] w (Grew (.agg #[I (ageN d.bp n d.owed), I d.bp]) w) := by
  obtain ⟨q0, q1, q2, q3⟩ := okDebt_true.1 hok
  go_enter Try.func82, Try.ntmps82
  go_wp2
  go_loopw [5] (fun i wr => ∃ k : Nat, k ≤ n ∧ i = I k ∧ wr = (w.alloc (.cells #[I (ageN d.bp k d.owed), I d.bp] 45)).alloc (.cells #[I 0, I 0] 45)) (fun i _ => n - (intOf i).toNat)
  case atStart => exact ⟨0, Nat.zero_le _, rfl, rfl⟩
  case round =>
    obtain ⟨k, hk, rfl, rfl⟩ := hrel
    obtain ⟨g0, g1⟩ := ageN_bd q0 q1 q2 (n := k)
    have hs := Lib.hid (show ageN d.bp (k + 1) d.owed = age1 d.bp (ageN d.bp k d.owed) from rfl)
    by_cases hlt : k < n
    · generalize ageN d.bp k d.owed = o at *
      have m0 : 0 ≤ o * d.bp := Int.mul_nonneg g0 q2
      have m1 : o * d.bp ≤ 1000000000 * 10000 := Int.mul_le_mul g1 q3 q2 (by omega)
      have d0 : 0 ≤ o * d.bp / 10000 := Int.ediv_nonneg m0 (by omega)
      have d1 : o * d.bp / 10000 ≤ 1000000000 := by omega
      by_cases hm : o + o * d.bp / 10000 ≤ 1000000000
      · have H := Lib.hid (show o + o * d.bp / 10000 = ageN d.bp (k + 1) d.owed by rw [hs.out]; unfold age1; omega)
        go_wp2
        exact ⟨⟨k + 1, by omega, by go_num, by rw [← H.out]⟩, by simp [intOf]; omega⟩
      · have H := Lib.hid (show 1000000000 = ageN d.bp (k + 1) d.owed by rw [hs.out]; unfold age1; omega)
        go_wp2
        exact ⟨⟨k + 1, by omega, by go_num, by rw [← H.out]⟩, by simp [intOf]; omega⟩
    · have hkn : k = n := by omega
      subst hkn
      go_wp2
      exact bodyPost_ret (v := .agg #[I (ageN d.bp k d.owed), I d.bp]) (by simp [results, Try.results82, go_sem]) rfl (Grew.intro rfl (by repeat first | exact Below.refl _ _ | assumption | refine drewN_below ?_ _ | refine Below.alloc ?_ (by first | exact Nat.le_refl _ | exact Below.size (by assumption) | (simp; done) | (simp; omega) | omega) _ | refine Below.setCell ?_ (by first | exact Nat.le_refl _ | (simp; done) | (simp; omega) | omega) _))
end Go.Proofs.Ytcpljkjibhindaa
