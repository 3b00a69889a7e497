/- meter.Words and its reference -/
import Derived.Test.YtenoigmkhlnfoaaMeter
import Derived.Test.YtenoigmkhlnfoaaOwn
namespace Go.Proofs.Ytenoigmkhlnfoaa
set_option linter.unusedSimpArgs false
set_option linter.unusedVariables false
open Go.RowKit
set_option maxRecDepth 20000

theorem or32 (x y k : Nat) (hy : y < 2 ^ k) (hb : x * 2 ^ k + y < 4294967296) : bits .or .u32 ((x * 2 ^ k : Nat) : Int) (y : Int) = ((x * 2 ^ k + y : Nat) : Int) := by
  rw [u32_or_nat _ _ (by omega) (by omega), ← Nat.shiftLeft_eq, Nat.shiftLeft_add_eq_or_of_lt hy]
def flagsM (me rev bad lk : Int) : Int := me + 256 * (rev + 256 * (bad + 256 * lk))
theorem flags_or {me rev bad lk : Int} (a1 : 0 ≤ me) (a2 : me ≤ 49) (a3 : 0 ≤ rev) (a4 : rev ≤ 15) (a7 : 0 ≤ bad) (a8 : bad ≤ 4) (a9 : 0 ≤ lk) (a10 : lk ≤ 30) :
    bits .or .u32 (bits .or .u32 (bits .or .u32 (lk * 16777216) (bad * 65536)) (rev * 256)) me = flagsM me rev bad lk := by
  obtain ⟨me, rfl⟩ := Int.eq_ofNat_of_zero_le a1
  obtain ⟨rev, rfl⟩ := Int.eq_ofNat_of_zero_le a3
  obtain ⟨bad, rfl⟩ := Int.eq_ofNat_of_zero_le a7
  obtain ⟨lk, rfl⟩ := Int.eq_ofNat_of_zero_le a9
  have e1 : bits .or .u32 ((lk : Int) * 16777216) ((bad : Int) * 65536) = ((lk * 256 + bad) * 2 ^ 16 : Nat) := by
    have := or32 lk (bad * 65536) 24 (by omega) (by omega)
    rw [show ((lk * 2 ^ 24 : Nat) : Int) = (lk : Int) * 16777216 by omega, show ((bad * 65536 : Nat) : Int) = (bad : Int) * 65536 by omega] at this
    rw [this]; omega
  have e2 : bits .or .u32 (((lk * 256 + bad) * 2 ^ 16 : Nat) : Int) ((rev : Int) * 256) = (((lk * 256 + bad) * 256 + rev) * 2 ^ 8 : Nat) := by
    have := or32 (lk * 256 + bad) (rev * 256) 16 (by omega) (by omega)
    rw [show ((rev * 256 : Nat) : Int) = (rev : Int) * 256 by omega] at this
    rw [this]; omega
  rw [e1, e2, or32 ((lk * 256 + bad) * 256 + rev) me 8 (by omega) (by omega)]
  unfold flagsM; omega
def wordsL (m : MM) : List Int := if m.ok then [m.cr, flagsM m.me m.rev m.bad m.lk, m.h, (m.b : Int) % 4294967296, (m.b : Int) / 4294967296] else []
def wordsE (m : MM) : Int := if m.ok then 0 else 5

set_option maxHeartbeats 2000000 in
theorem WordsM_any (m : MM) (w : World) (hb : m.b < 18446744073709551616) : Calls Try.prog 68 #[m.v] w (GrewSl2 1 (wordsL m).length ((wordsL m).map U32) (wordsE m) w) := by
  obtain ⟨me, rev, cr, h, b, bad, lk⟩ := m
  simp only at hb
  have M := Lib.hid (fun W => may_meter me rev cr h b bad lk W hb)
  cases hm : mayM me rev cr h b bad lk
  · have e1 : wordsL ⟨me, rev, cr, h, b, bad, lk⟩ = [] := by simp [wordsL, MM.ok, hm]
    have e2 : wordsE ⟨me, rev, cr, h, b, bad, lk⟩ = 5 := by simp [wordsE, MM.ok, hm]
    rw [e1, e2]
    rw [hm] at M
    clear e1 e2 hm
    go_enter Try.func68, Try.ntmps68
    go_wp2_with fail
    refine (M.out _).mono ?_
    rintro e w1 ⟨rfl, k1⟩
    have k := below_box k1
    clear k1
    go_wp2
    go_ret2
    exact ⟨_, rfl, Sl.nil _ _, k⟩
  · obtain ⟨⟨a1, a2, a3, a4, a5, a6, a7, a8, a9, a10, _⟩, hw⟩ := mayM_true.1 hm
    obtain ⟨h0, h1, _⟩ := mayW_bd hw
    have e1 : wordsL ⟨me, rev, cr, h, b, bad, lk⟩ = [cr, flagsM me rev bad lk, h, (b : Int) % 4294967296, (b : Int) / 4294967296] := by simp [wordsL, MM.ok, hm]
    have e2 : wordsE ⟨me, rev, cr, h, b, bad, lk⟩ = 0 := by simp [wordsE, MM.ok, hm]
    rw [e1, e2]
    rw [hm] at M
    clear e1 e2 hm hw
    have hO := flags_or a1 a2 a3 a4 a7 a8 a9 a10
    generalize flagsM me rev bad lk = fl at *
    go_enter Try.func68, Try.ntmps68
    go_wp2_with fail
    refine (M.out _).mono ?_
    rintro e w1 ⟨rfl, k1⟩
    obtain ⟨hc, hf⟩ := bcell k1
    have k := below_box k1
    clear k1
    go_wp2
    go_ret2
    exact ⟨_, rfl, Sl.of_owns (owns_lit w1 _ _ 1 5 rfl (by unfold maxLen; omega)) (by omega), k.alloc k.size _⟩

end Go.Proofs.Ytenoigmkhlnfoaa
