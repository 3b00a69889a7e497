/- book.Encode's and Decode's deferred closures -/
import Derived.Test.YtmciccnmpoijdaaBook
namespace Go.Proofs.Ytmciccnmpoijdaa
open Go Go.RowKit
set_option maxRecDepth 20000

/-- the closure's frame below, the box of e, what e holds behind it -/
def RecP (g : Nat) (k : Int) (u : FrameMode) (w : World) (e : Ending) (u' : FrameMode) (w' : World) : Prop :=
  e = .returned (.tuple #[]) ∧ u' = u ∧ ∃ w1, Below w.heap.size w w1 ∧ w' = w1.setCell ⟨g, 0, none⟩ (I k)
theorem enc_pan (g : Nat) (x k : Int) (older : List PanicEntry) (w : World) (hg : g < w.heap.size) (hc : w.cell? ⟨g, 0, none⟩ = some (I x)) (hz : w.frozen? ⟨g, 0, none⟩ = false) :
    CallsD Try.prog 29 #[.pointer (some ⟨g, 0, none⟩)] (.panicking ({ v := refV k, recovered := false } :: older)) w (RecP g k (.panicking ({ v := refV k, recovered := true } :: older)) w) := by
  refine callsD_of_wpS Try.func29 rfl fun c₀ cs hu => ?_
  have C := Lib.hid (fun W => caught_ref k x W)
  refine wpS_draw [[0, 1, 2, 3], [1, 0, 2, 3]] (by kernel_rfl) (by kernel_rfl) fun l hl => ?_
  simp only [List.mem_cons, List.not_mem_nil, or_false] at hl
  rcases hl with rfl | rfl
  all_goals
    simp [wpOpsS, go_sem, recoverD, hu, Try.ntmps29, hc, hz]
    refine (C.out _).mono ?_
    rintro e w1 ⟨rfl, k1⟩
    have kk : Below w.heap.size w w1 := (drewN_below (Below.refl _ w) 1).trans k1
    have c1 := (kk.cell (p := ⟨g, 0, none⟩) hg).trans hc
    have f1 := (kk.frozen (p := ⟨g, 0, none⟩) hg).trans hz
    simp [go_sem, c1, f1, bodyPostS, results, Try.results29, Exit.thenS]
  all_goals exact ⟨rfl, rfl, _, kk, rfl⟩
theorem enc_idle (g : Nat) (x : Int) (w : World) (hg : g < w.heap.size) (hc : w.cell? ⟨g, 0, none⟩ = some (I x)) (hz : w.frozen? ⟨g, 0, none⟩ = false) :
    CallsD Try.prog 29 #[.pointer (some ⟨g, 0, none⟩)] .returning w (RecP g x .returning w) := by
  refine callsD_of_wpS Try.func29 rfl fun c₀ cs hu => ?_
  have C := Lib.hid (fun W => caught_nil x W)
  refine wpS_draw [[0, 1, 2, 3], [1, 0, 2, 3]] (by kernel_rfl) (by kernel_rfl) fun l hl => ?_
  simp only [List.mem_cons, List.not_mem_nil, or_false] at hl
  rcases hl with rfl | rfl
  all_goals
    simp [wpOpsS, go_sem, recoverD, hu, Try.ntmps29, hc, hz]
    refine (C.out _).mono ?_
    rintro e w1 ⟨rfl, k1⟩
    have kk : Below w.heap.size w w1 := (drewN_below (Below.refl _ w) 1).trans k1
    have c1 := (kk.cell (p := ⟨g, 0, none⟩) hg).trans hc
    have f1 := (kk.frozen (p := ⟨g, 0, none⟩) hg).trans hz
    simp [go_sem, c1, f1, bodyPostS, results, Try.results29, Exit.thenS]
  all_goals exact ⟨.returning, (by cases c₀; simp_all), rfl, rfl, _, kk, rfl⟩
/-- an event is struck out -/
def zero13 (W : World) (gv : Nat) : World := (((((((((((((W.setCell ⟨gv, 0, none⟩ (I 0)).setCell ⟨gv, 1, none⟩ (I 0)).setCell ⟨gv, 2, none⟩ (I 0)).setCell ⟨gv, 3, none⟩ (I 0)).setCell ⟨gv, 4, none⟩ (I 0)).setCell ⟨gv, 5, none⟩ (I 0)).setCell ⟨gv, 6, none⟩ (I 0)).setCell ⟨gv, 7, none⟩ (I 0)).setCell ⟨gv, 8, none⟩ (I 0)).setCell ⟨gv, 9, none⟩ (I 0)).setCell ⟨gv, 10, none⟩ (I 0)).setCell ⟨gv, 11, none⟩ (I 0)).setCell ⟨gv, 12, none⟩ (I 0))
def DecP (g gv : Nat) (k : Int) (u : FrameMode) (w : World) (e : Ending) (u' : FrameMode) (w' : World) : Prop :=
  e = .returned (.tuple #[]) ∧ u' = u ∧ ∃ w1, Below w.heap.size w w1 ∧ w' = if k = 0 then w1.setCell ⟨g, 0, none⟩ (I k) else zero13 (w1.setCell ⟨g, 0, none⟩ (I k)) gv
theorem dec_pan (g gv : Nat) (x k : Int) (x0 x1 x2 x3 x4 x5 x6 x7 x8 x9 x10 x11 x12 : Int) (older : List PanicEntry) (w : World) (hk : k ≠ 0) (hgv : gv ≠ g) (hv : Own w gv [I x0, I x1, I x2, I x3, I x4, I x5, I x6, I x7, I x8, I x9, I x10, I x11, I x12]) (hg : g < w.heap.size) (hc : w.cell? ⟨g, 0, none⟩ = some (I x)) (hz : w.frozen? ⟨g, 0, none⟩ = false) :
    CallsD Try.prog 34 #[.pointer (some ⟨g, 0, none⟩), .pointer (some ⟨gv, 0, none⟩)] (.panicking ({ v := refV k, recovered := false } :: older)) w (DecP g gv k (.panicking ({ v := refV k, recovered := true } :: older)) w) := by
  refine callsD_of_wpS Try.func34 rfl fun c₀ cs hu => ?_
  have C := Lib.hid (fun W => caught_ref k x W)
  apply wpS_seq
  refine wpS_draw [[0, 1, 2, 3], [1, 0, 2, 3]] (by kernel_rfl) (by kernel_rfl) fun l hl => ?_
  simp only [List.mem_cons, List.not_mem_nil, or_false] at hl
  rcases hl with rfl | rfl
  all_goals
    simp [wpOpsS, go_sem, recoverD, hu, Try.ntmps34, hc, hz]
    refine (C.out _).mono ?_
    rintro e w1 ⟨rfl, k1⟩
    have kk : Below w.heap.size w w1 := (drewN_below (Below.refl _ w) 1).trans k1
    have c1 := (kk.cell (p := ⟨g, 0, none⟩) hg).trans hc
    have f1 := (kk.frozen (p := ⟨g, 0, none⟩) hg).trans hz
    simp [go_sem, c1, f1, bodyPostS, results, Try.results34, Exit.thenS]
  all_goals
    refine wpS_of_wp ?_
    have vO := hv.below kk
    have v0 := vO.cell 0 (by simp)
    have vf0 := vO.frozen 0
    have v1 := vO.cell 1 (by simp)
    have vf1 := vO.frozen 1
    have v2 := vO.cell 2 (by simp)
    have vf2 := vO.frozen 2
    have v3 := vO.cell 3 (by simp)
    have vf3 := vO.frozen 3
    have v4 := vO.cell 4 (by simp)
    have vf4 := vO.frozen 4
    have v5 := vO.cell 5 (by simp)
    have vf5 := vO.frozen 5
    have v6 := vO.cell 6 (by simp)
    have vf6 := vO.frozen 6
    have v7 := vO.cell 7 (by simp)
    have vf7 := vO.frozen 7
    have v8 := vO.cell 8 (by simp)
    have vf8 := vO.frozen 8
    have v9 := vO.cell 9 (by simp)
    have vf9 := vO.frozen 9
    have v10 := vO.cell 10 (by simp)
    have vf10 := vO.frozen 10
    have v11 := vO.cell 11 (by simp)
    have vf11 := vO.frozen 11
    have v12 := vO.cell 12 (by simp)
    have vf12 := vO.frozen 12
    simp only [Nat.zero_add, List.getD_cons_zero, List.getD_cons_succ] at v0 v1 v2 v3 v4 v5 v6 v7 v8 v9 v10 v11 v12
    clear vO
    have r1 := set_same
    have r2 := set_off
    have r3 := set_blk
    have n1 : ¬ g = gv := by omega
    have n2 : ¬ gv = g := by omega
    simp only [List.size_toArray, List.length_cons, List.length_nil, Array.replicate_succ, Array.replicate_zero, List.push_toArray, List.append_toArray, List.nil_append, List.cons_append, List.setIfInBounds_toArray, List.set_cons_zero, List.set_cons_succ]
    clear hc hz k1 hv
    have hb : (k != 0) = true := by simp [hk]
    go_wp2
    exact ⟨rfl, _, rfl, _, results_none rfl _ _ _, rfl, rfl, w1, kk, by rw [if_neg hk]; rfl⟩
theorem dec_idle (g gv : Nat) (x0 x1 x2 x3 x4 x5 x6 x7 x8 x9 x10 x11 x12 : Int) (w : World) (hgv : gv ≠ g) (hv : Own w gv [I x0, I x1, I x2, I x3, I x4, I x5, I x6, I x7, I x8, I x9, I x10, I x11, I x12]) (hg : g < w.heap.size) (hc : w.cell? ⟨g, 0, none⟩ = some (I 0)) (hz : w.frozen? ⟨g, 0, none⟩ = false) :
    CallsD Try.prog 34 #[.pointer (some ⟨g, 0, none⟩), .pointer (some ⟨gv, 0, none⟩)] .returning w (DecP g gv 0 .returning w) := by
  refine callsD_of_wpS Try.func34 rfl fun c₀ cs hu => ?_
  have C := Lib.hid (fun W => caught_nil 0 W)
  apply wpS_seq
  refine wpS_draw [[0, 1, 2, 3], [1, 0, 2, 3]] (by kernel_rfl) (by kernel_rfl) fun l hl => ?_
  simp only [List.mem_cons, List.not_mem_nil, or_false] at hl
  rcases hl with rfl | rfl
  all_goals
    simp [wpOpsS, go_sem, recoverD, hu, Try.ntmps34, hc, hz]
    refine (C.out _).mono ?_
    rintro e w1 ⟨rfl, k1⟩
    have kk : Below w.heap.size w w1 := (drewN_below (Below.refl _ w) 1).trans k1
    have c1 := (kk.cell (p := ⟨g, 0, none⟩) hg).trans hc
    have f1 := (kk.frozen (p := ⟨g, 0, none⟩) hg).trans hz
    simp [go_sem, c1, f1, bodyPostS, results, Try.results34, Exit.thenS]
  all_goals
    refine wpS_of_wp ?_
    have vO := hv.below kk
    have v0 := vO.cell 0 (by simp)
    have vf0 := vO.frozen 0
    have v1 := vO.cell 1 (by simp)
    have vf1 := vO.frozen 1
    have v2 := vO.cell 2 (by simp)
    have vf2 := vO.frozen 2
    have v3 := vO.cell 3 (by simp)
    have vf3 := vO.frozen 3
    have v4 := vO.cell 4 (by simp)
    have vf4 := vO.frozen 4
    have v5 := vO.cell 5 (by simp)
    have vf5 := vO.frozen 5
    have v6 := vO.cell 6 (by simp)
    have vf6 := vO.frozen 6
    have v7 := vO.cell 7 (by simp)
    have vf7 := vO.frozen 7
    have v8 := vO.cell 8 (by simp)
    have vf8 := vO.frozen 8
    have v9 := vO.cell 9 (by simp)
    have vf9 := vO.frozen 9
    have v10 := vO.cell 10 (by simp)
    have vf10 := vO.frozen 10
    have v11 := vO.cell 11 (by simp)
    have vf11 := vO.frozen 11
    have v12 := vO.cell 12 (by simp)
    have vf12 := vO.frozen 12
    simp only [Nat.zero_add, List.getD_cons_zero, List.getD_cons_succ] at v0 v1 v2 v3 v4 v5 v6 v7 v8 v9 v10 v11 v12
    clear vO
    have r1 := set_same
    have r2 := set_off
    have r3 := set_blk
    have n1 : ¬ g = gv := by omega
    have n2 : ¬ gv = g := by omega
    simp only [List.size_toArray, List.length_cons, List.length_nil, Array.replicate_succ, Array.replicate_zero, List.push_toArray, List.append_toArray, List.nil_append, List.cons_append, List.setIfInBounds_toArray, List.set_cons_zero, List.set_cons_succ]
    clear hc hz k1 hv
    go_wp2
    exact ⟨rfl, .returning, (by cases c₀; simp_all), _, results_none rfl _ _ _, rfl, rfl, w1, kk, by rw [if_pos rfl]⟩
end Go.Proofs.Ytmciccnmpoijdaa
