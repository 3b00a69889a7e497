/- steps: new memory for a list (made by wip/bin/gen_api.py) -/
import Derived.Test.YtcpljkjibhindaaApi
namespace Go.Proofs.Ytcpljkjibhindaa
open Go.RowKit
set_option maxRecDepth 20000

theorem info_steps : (Try.prog.info? 78).map (fun i => (i.zero, i.size, i.bytes)) = some (some (.agg #[.int .i64 0, .int .i64 0]), 2, 16) := by kernel_rfl

theorem steps_any (v : Value) (xs : List AStep) (w : World) (h : Sl w v 2 xs.length (xs.flatMap AStep.cells)) (hby : xs.length * 16 ≤ 140737488355328) :
    Calls Try.prog 15 #[v] w (GrewSl 2 xs.length (xs.flatMap AStep.cells) w) := by
  obtain ⟨i0, hi, hz0, hz1, hz2⟩ := info_parts info_steps
  have h' := h
  obtain ⟨a, cap, rfl, hn, hl, h0, h⟩ := h
  cases a with
  | none =>
    obtain ⟨hn0, rfl⟩ := h0 rfl
    obtain rfl : xs = [] := List.length_eq_zero_iff.1 hn0
    clear h h' h0 hl
    go_enter Try.func15, Try.ntmps15
    go_wp2_with fail
    go_ret
    exact ⟨_, rfl, Sl.nil _ _, Below.refl _ _⟩
  | some ad =>
    have hnews := Lib.hid h'.news
    have hone : oneCells (xs.flatMap AStep.cells) := oneCells_flat (fun x u hu => by simp only [AStep.cells, List.mem_cons, List.not_mem_nil, or_false] at hu; rcases hu with rfl | rfl <;> rfl) _
    clear h h' h0
    have Hl := Lib.hid hl
    clear hl
    have c3 : 0 + xs.length ≤ maxLen := by unfold maxLen; omega
    have c4 := Lib.hid (show (0 + xs.length) * 16 ≤ 140737488355328 by omega)
    clear hby
    go_enter Try.func15, Try.ntmps15
    go_wp2_with (at_builtin; refine wpList_append_own _ rfl _ _ 22 rfl w.heap.size 78 i0 (.agg #[.int .i64 0, .int .i64 0]) 2 16 Try.underlying22 hi hz0 hz1 hz2 rfl (by decide) _ 0 [] rfl (World.ownsRow_nil _ _ _ _) ad _ _ (xs.flatMap AStep.cells) rfl Hl.out hnews.out hone c3 c4.out (Nat.le_refl _) ?_; intro v' w1 hown' hgrow _)
    have hbel := Below.grown (B := w.heap.size) (Below.refl _ w) hgrow (Nat.le_refl _) (fun k hk => absurd (show (none : Option Nat) = some k from hk) (by simp))
    rw [Nat.zero_add, List.nil_append] at hown'
    have hS := Sl.of_owns hown' hn.1
    clear hown' hgrow
    go_wp2
    go_ret
    exact ⟨_, rfl, hS, hbel⟩
end Go.Proofs.Ytcpljkjibhindaa
