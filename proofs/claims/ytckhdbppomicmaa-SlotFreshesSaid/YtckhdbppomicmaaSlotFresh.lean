/- slot.Fresh and its reference -/
import Derived.Test.YtckhdbppomicmaaBlank
namespace Go.Proofs.Ytckhdbppomicmaa
open Go.RowKit
set_option maxRecDepth 20000

def freshN (n : Int) : Nat := if inB n 1 64 then 2 * n.toNat + 2 else 0
def freshE (n : Int) : Int := if inB n 1 64 then 0 else 1
def freshL (n : Int) : List Int := if inB n 1 64 then 1 :: List.replicate (2 * n.toNat + 1) 0 else []

theorem SlotFresh_any (n : Int) (w : World) : Calls Try.prog 24 #[I n] w (GrewSl2 1 (freshN n) ((freshL n).map U32) (freshE n) w) := by
  obtain ⟨i0, hi, hz0, hz1, hz2⟩ := info_parts infoU32
  by_cases h : inB n 1 64 = true
  · obtain ⟨g0, g1⟩ := inB_true.1 h
    obtain ⟨m, rfl⟩ := Int.eq_ofNat_of_zero_le (show 0 ≤ n by omega)
    have hN : freshN m = 2 * m + 2 := by simp [freshN, h]
    have hL : freshL m = 1 :: List.replicate (2 * m + 1) 0 := by simp [freshL, h]
    have hE : freshE m = 0 := by simp [freshE, h]
    rw [hN, hE, hL]
    clear hN hE hL
    go_enter Try.func24, Try.ntmps24
    go_wp2_with (go_at_call 41; refine (In_any _ _ _ _).mono ?_; rintro e w' ⟨rfl, rfl⟩)
    go_loopw [4] (fun v wr => ∃ k : Nat, 1 ≤ k ∧ k ≤ 2 * m + 2 ∧ wr.ownsRow w.heap.size 41 1 v k (U32 1 :: List.replicate (k - 1) (U32 0)) ∧ Below w.heap.size w wr) (fun v _ => 2 * m + 2 - lenOf v)
    case atStart => exact ⟨1, Nat.le_refl _, by omega, owns_lit w [U32 1] _ 1 1 rfl (by unfold maxLen; omega), (Below.refl _ _).alloc (Nat.le_refl _) _⟩
    case round =>
      obtain ⟨k, hk0, hk, hown, hbw⟩ := hrel
      have hsz := hbw.size
      obtain ⟨g, cap, rfl, hg1, hg2⟩ := owns_pos hown hk0
      by_cases hlt : k < 2 * m + 2
      · go_wp2_with (at_builtin; refine wpList_append_own _ rfl _ _ 27 rfl w.heap.size 41 i0 (.int .u32 0) 1 4 Try.underlying27 hi hz0 hz1 hz2 rfl (by decide) _ _ _ rfl (hown.alloc _) ⟨wr.heap.size, 0, none⟩ 1 1 [U32 0] rfl rfl (news_one _ _ _) (one_oneCell rfl) (by unfold maxLen; omega) (by omega) (by simp; omega) ?_; intro v' w1 hown' hgrow _)
        have hbel := grown_below (hbw.alloc hsz _) (hown.alloc _) (Nat.le_refl _) hgrow
        have hl' : lenOf v' = k + 1 := by obtain ⟨g', c', rfl, _⟩ := owns_pos hown' (by omega); rfl
        have hcs : U32 1 :: List.replicate (k - 1) (U32 0) ++ [U32 0] = U32 1 :: List.replicate (k + 1 - 1) (U32 0) := by
          rw [List.cons_append, ← List.replicate_succ', show k - 1 + 1 = k + 1 - 1 by omega]
        rw [hcs] at hown'
        clear hgrow hown hcs
        go_wp2
        exact ⟨⟨k + 1, by omega, by omega, hown', hbel⟩, by rw [hl']; simp [lenOf]; omega⟩
      · have hkm : k = 2 * m + 2 := by omega
        have hS := Sl.of_owns hown (by omega)
        clear hown
        have Hkm := Lib.hid hkm
        clear hkm
        go_wp2
        go_ret2
        have := Hkm.out
        subst this
        exact ⟨_, rfl, by simpa using hS, hbw⟩
  · have hN : freshN n = 0 := by simp [freshN, h]
    have hE : freshE n = 1 := by simp [freshE, h]
    have hL : freshL n = [] := by simp [freshL, h]
    rw [hN, hE, hL]
    simp only [Bool.not_eq_true] at h
    clear hN hE hL
    go_enter Try.func24, Try.ntmps24
    go_wp2_with (go_at_call 41; refine (In_any _ _ _ _).mono ?_; rintro e w' ⟨rfl, rfl⟩)
    go_ret2
    exact ⟨_, rfl, Sl.nil _ _, Below.refl _ _⟩

theorem Fresh_any (n : Int) (w : World) : Calls Try.prog 23 #[I n] w (GrewSl2 1 (freshN n) ((freshL n).map U32) (freshE n) w) := by
  obtain ⟨i0, hi, hz0, hz1, hz2⟩ := info_parts infoU32
  by_cases h : inB n 1 64 = true
  · obtain ⟨g0, g1⟩ := inB_true.1 h
    have hN : freshN n = 2 * n.toNat + 2 := by simp [freshN, h]
    have hL : freshL n = 1 :: List.replicate (2 * n.toNat + 1) 0 := by simp [freshL, h]
    have hE : freshE n = 0 := by simp [freshE, h]
    rw [hN, hE, hL]
    clear hN hE hL h
    go_enter Try.func23, Try.ntmps23
    have hm := Lib.hid (show 2 * (n + 1) = ((2 * n.toNat + 2 : Nat) : Int) by omega)
    go_wp2_with (refine wpList_make_full _ rfl (.tmp 13) (.tmp 13) 27 rfl w.heap.size 41 i0 (.int .u32 0) 1 Try.underlying27 hi hz0 hz1 .i64 .i64 _ _ (2 * n.toNat + 2) rfl rfl hm.out hm.out (by rw [hz2]; omega) (by unfold maxLen; omega) (Nat.le_refl _) ?_; intro w' hown hgrow; have hbel := Below.grown (B := w.heap.size) (Below.refl _ w) hgrow (Nat.le_refl _) (fun k hk => by cases hk); have hown1 := made_int hown; have hown2 := Lib.hid hown1; have hc0 : w'.cell? ⟨w.heap.size, 0, none⟩ = some (U32 0) := (hown1.cellAt 0 (by omega)).trans (by simp); have hf0 := hown1.frozenAt 0; clear hown hown1 hgrow)
    go_ret2
    have hst := (hown2.out.stored 0 (U32 1)).1
    have hS := Sl.of_owns hst (by omega)
    refine ⟨_, rfl, ?_, hbel.setCell (Nat.le_refl _) _⟩
    rw [show (2 * n.toNat + 2) = (2 * n.toNat + 1) + 1 by omega] at hS ⊢
    simpa [List.replicate_succ] using hS
  · have hN : freshN n = 0 := by simp [freshN, h]
    have hE : freshE n = 1 := by simp [freshE, h]
    have hL : freshL n = [] := by simp [freshL, h]
    rw [hN, hE, hL]
    rw [inB_true] at h
    clear hN hE hL
    by_cases h1 : n < 1
    · clear h
      go_enter Try.func23, Try.ntmps23
      go_wp2
      go_ret2
      exact ⟨_, rfl, Sl.nil _ _, Below.refl _ _⟩
    · have h2 : 64 < n := by omega
      clear h
      go_enter Try.func23, Try.ntmps23
      go_wp2
      go_ret2
      exact ⟨_, rfl, Sl.nil _ _, Below.refl _ _⟩
end Go.Proofs.Ytckhdbppomicmaa
