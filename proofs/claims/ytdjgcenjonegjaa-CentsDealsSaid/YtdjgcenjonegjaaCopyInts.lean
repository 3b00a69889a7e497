/- ints: new memory for a list (made by wip/bin/gen_api.py) -/
import Derived.Test.YtdjgcenjonegjaaApi
namespace Go.Proofs.Ytdjgcenjonegjaa
open Go.RowKit
set_option maxRecDepth 20000

theorem info_ints : (Try.prog.info? 3).map (fun i => (i.zero, i.size, i.bytes)) = some (some (.int .i64 0), 1, 8) := by kernel_rfl

theorem ints_any (v : Value) (xs : List Int) (w : World) (h : Sl w v 1 xs.length (xs.map I)) (hby : xs.length * 8 ≤ 140737488355328) :
    Calls Try.prog 4 #[v] w (GrewSl 1 xs.length (xs.map I) w) := by
  obtain ⟨i0, hi, hz0, hz1, hz2⟩ := info_parts info_ints
  have h' := h
  obtain ⟨a, cap, rfl, hn, hl, h0, h⟩ := h
  cases a with
  | none =>
    obtain ⟨hn0, rfl⟩ := h0 rfl
    obtain rfl : xs = [] := List.length_eq_zero_iff.1 hn0
    clear h h' h0 hl
    go_enter Try.func4, Try.ntmps4
    go_wp2_with fail
    go_ret
    exact ⟨_, rfl, Sl.nil _ _, Below.refl _ _⟩
  | some ad =>
    have hnews := Lib.hid h'.news
    have hone : oneCells (xs.map I) := oneCells_map (fun _ => rfl) _
    clear h h' h0
    have Hl := Lib.hid hl
    clear hl
    have c3 : 0 + xs.length ≤ maxLen := by unfold maxLen; omega
    have c4 := Lib.hid (show (0 + xs.length) * 8 ≤ 140737488355328 by omega)
    clear hby
    go_enter Try.func4, Try.ntmps4
    go_wp2_with (at_builtin; refine wpList_append_own _ rfl _ _ 22 rfl w.heap.size 3 i0 (.int .i64 0) 1 8 Try.underlying22 hi hz0 hz1 hz2 rfl (by decide) _ 0 [] rfl (World.ownsRow_nil _ _ _ _) ad _ _ (xs.map I) rfl Hl.out hnews.out hone c3 c4.out (Nat.le_refl _) ?_; intro v' w1 hown' hgrow _)
    have hbel := Below.grown (B := w.heap.size) (Below.refl _ w) hgrow (Nat.le_refl _) (fun k hk => absurd (show (none : Option Nat) = some k from hk) (by simp))
    rw [Nat.zero_add, List.nil_append] at hown'
    have hS := Sl.of_owns hown' hn.1
    clear hown' hgrow
    go_wp2
    go_ret
    exact ⟨_, rfl, hS, hbel⟩
end Go.Proofs.Ytdjgcenjonegjaa
