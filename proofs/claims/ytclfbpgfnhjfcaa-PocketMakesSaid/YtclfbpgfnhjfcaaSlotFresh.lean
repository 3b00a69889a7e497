/- slot.Fresh and its reference -/
import Derived.Test.YtclfbpgfnhjfcaaInfoU
import Derived.Test.YtclfbpgfnhjfcaaIn
namespace Go.Proofs.Ytclfbpgfnhjfcaa
open Go.RowKit
set_option maxRecDepth 20000

def freshN (n : Int) : Nat := if inB n 1 64 then 2 * n.toNat + 2 else 0
def freshE (n : Int) : Int := if inB n 1 64 then 0 else 1
def freshL (n : Int) : List Int := if inB n 1 64 then 1 :: List.replicate (2 * n.toNat + 1) 0 else []

theorem Fresh_any (n : Int) (w : World) : Calls Try.prog 53 #[I n] w (GrewSl2 1 (freshN n) ((freshL n).map U32) (freshE n) w) := by
  obtain ⟨i0, hi, hz0, hz1, hz2⟩ := info_parts infoU32
  by_cases h : inB n 1 64 = true
  · obtain ⟨g0, g1⟩ := inB_true.1 h
    have hN : freshN n = 2 * n.toNat + 2 := by simp [freshN, h]
    have hL : freshL n = 1 :: List.replicate (2 * n.toNat + 1) 0 := by simp [freshL, h]
    have hE : freshE n = 0 := by simp [freshE, h]
    rw [hN, hE, hL]
    clear hN hE hL h
    go_enter Try.func53, Try.ntmps53
    have hm := Lib.hid (show 2 * (n + 1) = ((2 * n.toNat + 2 : Nat) : Int) by omega)
    go_wp2_with (refine wpList_make_full _ rfl (.tmp 13) (.tmp 13) 38 rfl w.heap.size 87 i0 (.int .u32 0) 1 Try.underlying38 hi hz0 hz1 .i64 .i64 _ _ (2 * n.toNat + 2) rfl rfl hm.out hm.out (by rw [hz2]; omega) (by unfold maxLen; omega) (Nat.le_refl _) ?_; intro w' hown hgrow; have hbel := Below.grown (B := w.heap.size) (Below.refl _ w) hgrow (Nat.le_refl _) (fun k hk => by cases hk); have hown1 := made_int hown; have hown2 := Lib.hid hown1; have hc0 : w'.cell? ⟨w.heap.size, 0, none⟩ = some (U32 0) := (hown1.cellAt 0 (by omega)).trans (by simp); have hf0 := hown1.frozenAt 0; clear hown hown1 hgrow)
    go_ret2
    have hst := (hown2.out.stored 0 (U32 1)).1
    have hS := Sl.of_owns hst (by omega)
    refine ⟨_, rfl, ?_, hbel.setCell (Nat.le_refl _) _⟩
    rw [show (2 * n.toNat + 2) = (2 * n.toNat + 1) + 1 by omega] at hS ⊢
    simpa [List.replicate_succ] using hS
  · have hN : freshN n = 0 := by simp [freshN, h]
    have hE : freshE n = 1 := by simp [freshE, h]
    have hL : freshL n = [] := by simp [freshL, h]
    rw [hN, hE, hL]
    rw [inB_true] at h
    clear hN hE hL
    by_cases h1 : n < 1
    · clear h
      go_enter Try.func53, Try.ntmps53
      go_wp2
      go_ret2
      exact ⟨_, rfl, Sl.nil _ _, Below.refl _ _⟩
    · have h2 : 64 < n := by omega
      clear h
      go_enter Try.func53, Try.ntmps53
      go_wp2
      go_ret2
      exact ⟨_, rfl, Sl.nil _ _, Below.refl _ _⟩
end Go.Proofs.Ytclfbpgfnhjfcaa
