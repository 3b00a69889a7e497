/- accounts: new memory -/
import Derived.Test.YtcpljkjibhindaaAcct
namespace Go.Proofs.Ytcpljkjibhindaa
open Go.RowKit
set_option maxRecDepth 20000

theorem debts_own (v : Value) (xs : List ADebt) (w : World) (h : Sl w v 2 xs.length (xs.flatMap ADebt.cells)) (hby : xs.length * 16 ≤ 140737488355328) :
    Calls Try.prog 57 #[v] w (GrewOw 45 2 xs.length (xs.flatMap ADebt.cells) w) := by
  obtain ⟨i0, hi, hz0, hz1, hz2⟩ := info_parts info_debts
  have h' := h
  obtain ⟨a, cap, rfl, hn, hl, h0, h⟩ := h
  cases a with
  | none =>
    obtain ⟨hn0, rfl⟩ := h0 rfl
    obtain rfl : xs = [] := List.length_eq_zero_iff.1 hn0
    clear h h' h0 hl
    go_enter Try.func57, Try.ntmps57
    go_wp2_with fail
    go_ret
    exact ⟨_, rfl, World.ownsRow_nil _ _ _ _, Below.refl _ _⟩
  | some ad =>
    have hnews := Lib.hid h'.news
    have hone : oneCells (xs.flatMap ADebt.cells) := oneCells_flat (fun x u hu => by simp only [ADebt.cells, List.mem_cons, List.not_mem_nil, or_false] at hu; rcases hu with rfl | rfl <;> rfl) _
    clear h h' h0
    have Hl := Lib.hid hl
    clear hl
    have c3 : 0 + xs.length ≤ maxLen := by unfold maxLen; omega
    have c4 := Lib.hid (show (0 + xs.length) * 16 ≤ 140737488355328 by omega)
    clear hby
    go_enter Try.func57, Try.ntmps57
    go_wp2_with (at_builtin; refine wpList_append_own _ rfl _ _ 37 rfl w.heap.size 45 i0 (.agg #[.int .i64 0, .int .i64 0]) 2 16 Try.underlying37 hi hz0 hz1 hz2 rfl (by decide) _ 0 [] rfl (World.ownsRow_nil _ _ _ _) ad _ _ (xs.flatMap ADebt.cells) rfl Hl.out hnews.out hone c3 c4.out (Nat.le_refl _) ?_; intro v' w1 hown' hgrow _)
    have hbel := Below.grown (B := w.heap.size) (Below.refl _ w) hgrow (Nat.le_refl _) (fun k hk => absurd (show (none : Option Nat) = some k from hk) (by simp))
    rw [Nat.zero_add, List.nil_append] at hown'
    clear hgrow
    go_wp2
    go_ret
    exact ⟨_, rfl, hown', hbel⟩

theorem owns_set {w : World} {base e sz n g j : Nat} {v : Value} {cs : List Value} (h : w.ownsRow base e sz v n cs) (hg : g < base) (x : Value) : (w.setCell ⟨g, j, none⟩ x).ownsRow base e sz v n cs := ownsRow_setCell_below h (a := ⟨g, j, none⟩) hg x

theorem accounts_any (x : AAcc) (v : Value) (xs : List ADebt) (w : World) (h : Sl w v 2 xs.length (xs.flatMap ADebt.cells)) (hby : xs.length * 16 ≤ 140737488355328) :
    Calls Try.prog 29 #[.agg #[I x.meter, I x.rev, I x.next, I x.month, I x.bought, I x.free, v]] w (GrewAcc1 x xs w) := by
  have G := Lib.hid (fun W (hW : Sl W v 2 xs.length (xs.flatMap ADebt.cells)) => debts_own v xs W hW hby)
  have hlen : xs.length ≤ 281474976710656 := by omega
  obtain ⟨x1, x2, x3, x4, x5, x6⟩ := x
  simp only [GrewAcc1] at *
  have hb1 := boxed_below w (.cells #[I x1, I x2, I x3, I x4, I x5, I x6, v] 39)
  have hb := hb1.alloc hb1.size (.cells #[I 0, I 0, I 0, I 0, I 0, I 0, .slice none 0 0] 39)
  have h1 := h.below hb
  obtain ⟨a, cap, rfl, _⟩ := h
  clear hb1
  go_enter Try.func29, Try.ntmps29
  go_wp2_with fail
  refine (G.out _ h1).mono ?_
  rintro e w1 ⟨v', rfl, hS, k1⟩
  have k := hb.trans (k1.mono hb.size)
  have cO := ((Own.new rfl [I x1, I x2, I x3, I x4, I x5, I x6, .slice a xs.length cap] 39).alloc _).below k1
  have c0 := cO.cell 0 (by simp)
  have cf0 := cO.frozen 0
  have c1 := cO.cell 1 (by simp)
  have cf1 := cO.frozen 1
  have c2 := cO.cell 2 (by simp)
  have cf2 := cO.frozen 2
  have c3 := cO.cell 3 (by simp)
  have cf3 := cO.frozen 3
  have c4 := cO.cell 4 (by simp)
  have cf4 := cO.frozen 4
  have c5 := cO.cell 5 (by simp)
  have cf5 := cO.frozen 5
  have c6 := cO.cell 6 (by simp)
  have cf6 := cO.frozen 6
  simp only [Nat.zero_add, List.getD_cons_zero, List.getD_cons_succ] at c0 c1 c2 c3 c4 c5 c6
  clear cO
  have dO := (Own.new (g := w.heap.size + 1) (by simp) [I 0, I 0, I 0, I 0, I 0, I 0, .slice none 0 0] 39).below k1
  have d0 := dO.cell 0 (by simp)
  have df0 := dO.frozen 0
  have d1 := dO.cell 1 (by simp)
  have df1 := dO.frozen 1
  have d2 := dO.cell 2 (by simp)
  have df2 := dO.frozen 2
  have d3 := dO.cell 3 (by simp)
  have df3 := dO.frozen 3
  have d4 := dO.cell 4 (by simp)
  have df4 := dO.frozen 4
  have d5 := dO.cell 5 (by simp)
  have df5 := dO.frozen 5
  have d6 := dO.cell 6 (by simp)
  have df6 := dO.frozen 6
  simp only [Nat.zero_add, List.getD_cons_zero, List.getD_cons_succ] at d0 d1 d2 d3 d4 d5 d6
  clear dO
  clear k1
  have HS := Lib.hid (owns_mono (b' := w.heap.size + 2) hS (by simp))
  have hS2 := Sl.of_owns hS hlen
  clear hS
  obtain ⟨a2, cap2, rfl, _⟩ := hS2
  have r1 := set_same
  have r2 := set_off
  have r3 := set_blk
  go_wp2
  exact bodyPost_ret (v := .agg #[I x1, I x2, I x3, I x4, I x5, I x6, .slice a2 xs.length cap2]) (by simp [results, Try.results29, go_sem, *]; try omega) rfl (⟨_, rfl, Sl.of_owns (base := w.heap.size + 2) (e := 45) (by repeat (first | with_reducible exact HS.out | refine owns_set ?_ (by omega) _)) hlen, (by repeat first | with_reducible assumption | with_reducible exact Below.refl _ _ | with_reducible refine Below.setCell ?_ (by first | exact Nat.le_refl _ | exact Below.size (by assumption) | (simp; done) | (simp; omega) | omega) _ | with_reducible refine Below.alloc ?_ (by first | exact Nat.le_refl _ | exact Below.size (by assumption) | (simp; done) | (simp; omega) | omega) _ | with_reducible refine drewN_below ?_ _ | with_reducible refine Below.drew ?_)⟩)
end Go.Proofs.Ytcpljkjibhindaa
