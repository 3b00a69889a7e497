/- cell.Blank and its reference -/
import Derived.Test.YtenoigmkhlnfoaaIn
import Derived.Test.YtenoigmkhlnfoaaSlice
import Derived.Test.YtenoigmkhlnfoaaInfoU
namespace Go.Proofs.Ytenoigmkhlnfoaa
set_option linter.unusedSimpArgs false
set_option linter.unusedVariables false
open Go.RowKit
set_option maxRecDepth 20000

def blankN (n : Int) : Nat := if inB n 1 2048 then n.toNat else 0
def blankE (n : Int) : Int := if inB n 1 2048 then 0 else 1

theorem Blank_any (n : Int) (w : World) : Calls Try.prog 39 #[I n] w (GrewSl2 1 (blankN n) (List.replicate (blankN n) (U32 0)) (blankE n) w) := by
  obtain ⟨i0, hi, hz0, hz1, hz2⟩ := info_parts infoU32
  by_cases h : inB n 1 2048 = true
  · obtain ⟨g0, g1⟩ := inB_true.1 h
    have hN : blankN n = n.toNat := by simp [blankN, h]
    have hE : blankE n = 0 := by simp [blankE, h]
    rw [hN, hE]
    have hm := Lib.hid (show n = ((n.toNat : Nat) : Int) by omega)
    clear hN hE h
    go_enter Try.func39, Try.ntmps39
    go_wp2_with (refine wpList_make_full _ rfl (.tmp 10) (.tmp 10) 37 rfl w.heap.size 103 i0 (.int .u32 0) 1 Try.underlying37 hi hz0 hz1 .i64 .i64 _ _ n.toNat rfl rfl hm.out hm.out (by rw [hz2]; omega) (by unfold maxLen; omega) (Nat.le_refl _) ?_; intro w' hown hgrow; have hbel := Below.grown (B := w.heap.size) (Below.refl _ w) hgrow (Nat.le_refl _) (fun k hk => by cases hk); have hS := Lib.hid (Sl.of_owns hown (show n.toNat ≤ 281474976710656 by omega)); clear hown hgrow)
    go_ret2
    refine ⟨_, rfl, ?_, hbel⟩
    rw [← made_one]
    exact hS.out
  · have hN : blankN n = 0 := by simp [blankN, h]
    have hE : blankE n = 1 := by simp [blankE, h]
    rw [hN, hE]
    rw [inB_true] at h
    clear hN hE
    by_cases h1 : n < 1
    · clear h
      go_enter Try.func39, Try.ntmps39
      go_wp2
      go_ret2
      exact ⟨_, rfl, Sl.nil _ _, Below.refl _ _⟩
    · have h2 : 2048 < n := by omega
      clear h
      go_enter Try.func39, Try.ntmps39
      go_wp2
      go_ret2
      exact ⟨_, rfl, Sl.nil _ _, Below.refl _ _⟩

theorem Blanked_any (n : Int) (w : World) : Calls Try.prog 42 #[I n] w (GrewSl2 1 (blankN n) (List.replicate (blankN n) (U32 0)) (blankE n) w) := by
  obtain ⟨i0, hi, hz0, hz1, hz2⟩ := info_parts infoU32
  by_cases h : inB n 1 2048 = true
  · obtain ⟨g0, g1⟩ := inB_true.1 h
    obtain ⟨m, rfl⟩ := Int.eq_ofNat_of_zero_le (show 0 ≤ n by omega)
    have hN : blankN m = m := by simp [blankN, h]
    have hE : blankE m = 0 := by simp [blankE, h]
    rw [hN, hE]
    clear hN hE
    go_enter Try.func42, Try.ntmps42
    go_wp2_with (go_at_call 43; refine (In_any _ _ _ _).mono ?_; rintro e w' ⟨rfl, rfl⟩)
    go_loopw [4, 5] (fun v i wr => ∃ k : Nat, k ≤ m ∧ i = I k ∧ wr.ownsRow w.heap.size 103 1 v k (List.replicate k (U32 0)) ∧ Below w.heap.size w wr) (fun _ i _ => m - (intOf i).toNat)
    case atStart => exact ⟨0, Nat.zero_le _, rfl, World.ownsRow_nil _ _ _ _, Below.refl _ _⟩
    case round =>
      obtain ⟨k, hk, rfl, hown, hbw⟩ := hrel
      have hsz := hbw.size
      by_cases hlt : k < m
      · have hlt' : (k : Int) < (m : Int) := by omega
        go_wp2_with (at_builtin; refine wpList_append_own _ rfl _ _ 37 rfl w.heap.size 103 i0 (.int .u32 0) 1 4 Try.underlying37 hi hz0 hz1 hz2 rfl (by decide) _ _ _ rfl (hown.alloc _) ⟨wr.heap.size, 0, none⟩ 1 1 [U32 0] rfl rfl (news_one _ _ _) (one_oneCell rfl) (by unfold maxLen; omega) (by omega) (by simp; omega) ?_; intro v' w1 hown' hgrow _)
        have hbel := grown_below (hbw.alloc hsz _) (hown.alloc _) (Nat.le_refl _) hgrow
        rw [← List.replicate_succ'] at hown'
        clear hgrow hown
        go_wp2
        exact ⟨⟨k + 1, by omega, by go_num, hown', hbel⟩, by simp [intOf]; omega⟩
      · have hkm : k = m := by omega
        have hS := Sl.of_owns hown (by omega)
        clear hown
        rw [hkm] at hS
        go_wp2
        go_ret2
        exact ⟨_, rfl, hS, hbw⟩
  · have hN : blankN n = 0 := by simp [blankN, h]
    have hE : blankE n = 1 := by simp [blankE, h]
    rw [hN, hE]
    simp only [Bool.not_eq_true] at h
    clear hN hE
    go_enter Try.func42, Try.ntmps42
    go_wp2_with (go_at_call 43; refine (In_any _ _ _ _).mono ?_; rintro e w' ⟨rfl, rfl⟩)
    go_ret2
    exact ⟨_, rfl, Sl.nil _ _, Below.refl _ _⟩
end Go.Proofs.Ytenoigmkhlnfoaa
