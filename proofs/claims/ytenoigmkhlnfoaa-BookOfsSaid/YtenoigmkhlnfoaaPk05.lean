/- one block of the call's own may turn, the rest stays · values that lie nowhere below a bound · sameDebts: are two lists the same? (made by wip/bin/gen_api.py) · debts: new memory for a list (made by wip/bin/gen_api.py) -/
import Derived.Test.YtenoigmkhlnfoaaPk02
import Derived.Test.YtenoigmkhlnfoaaPk00
namespace Go.Proofs.Ytenoigmkhlnfoaa
set_option linter.unusedSimpArgs false
set_option linter.unusedVariables false
open Go.RowKit
set_option maxRecDepth 20000

/-- of what was there only block z may have turned -/
structure Chg (z : Nat) (w w' : World) : Prop where
  os : w'.os = w.os
  tape : w'.tape = w.tape
  output : w'.output = w.output
  size : w.heap.size ≤ w'.heap.size
  block : ∀ b, b < w.heap.size → b ≠ z → w'.heap[b]? = w.heap[b]?
theorem Chg.refl (z : Nat) (w : World) : Chg z w w := ⟨rfl, rfl, rfl, Nat.le_refl _, fun _ _ _ => rfl⟩
theorem Chg.trans {z : Nat} {a b c : World} (h : Chg z a b) (k : Chg z b c) : Chg z a c :=
  ⟨k.os.trans h.os, k.tape.trans h.tape, k.output.trans h.output, Nat.le_trans h.size k.size, fun i hi hz => (k.block i (Nat.lt_of_lt_of_le hi h.size) hz).trans (h.block i hi hz)⟩
theorem Chg.of_below {z : Nat} {w w' : World} (h : Below w.heap.size w w') : Chg z w w' := ⟨h.os, h.tape, h.output, h.size, fun b hb _ => h.block b hb⟩
theorem Chg.below {z B : Nat} {a w w' : World} (h : Below B a w) (hz : B ≤ z) (k : Chg z w w') (hB : B ≤ w.heap.size) : Below B a w' :=
  h.trans ⟨k.os, k.tape, k.output, k.size, fun b hb => k.block b (by omega) (by omega)⟩
theorem Chg.set {z : Nat} {w w' : World} (h : Chg z w w') (j : Nat) (x : Value) : Chg z w (w'.setCell ⟨z, j, none⟩ x) :=
  ⟨h.os, h.tape, h.output, by simp [World.setCell]; exact h.size, fun b hb hz => by
    rw [← h.block b hb hz]; simp [World.setCell, Array.getElem?_modify, show ¬ z = b by omega]⟩
/-- a store into memory that was not there -/
theorem Chg.setNew {z : Nat} {w w' : World} (h : Chg z w w') (g j : Nat) (hg : w.heap.size ≤ g) (x : Value) : Chg z w (w'.setCell ⟨g, j, none⟩ x) :=
  ⟨h.os, h.tape, h.output, by simp [World.setCell]; exact h.size, fun b hb hz => by
    rw [← h.block b hb hz]; simp [World.setCell, Array.getElem?_modify, show ¬ g = b by omega]⟩
theorem Chg.drewN {z : Nat} {w w' : World} (h : Chg z w w') (q : Nat) : Chg z w (w'.drewN q) := ⟨h.os, h.tape, h.output, h.size, h.block⟩
/-- v does not lie in block z -/
def Far (z : Nat) (v : Value) : Prop := ∀ a n c, v = .slice (some a) n c → a.block ≠ z
theorem Far.nil (z n c : Nat) : Far z (.slice none n c) := by intro a n c h; cases h
theorem Sl.chg {z : Nat} {w w' : World} {v : Value} {sz n : Nat} {cs : List Value} (h : Sl w v sz n cs) (hf : 0 < n → Far z v) (k : Chg z w w') : Sl w' v sz n cs := by
  obtain ⟨a, cap, rfl, hn, hl, h0, h⟩ := h
  refine ⟨a, cap, rfl, hn, hl, h0, ?_⟩
  by_cases hn0 : n = 0
  · exact .inl hn0
  · obtain ⟨b, off, rfl, hb, hc⟩ := h.resolve_left hn0
    have hbz := hf (by omega) _ _ _ rfl
    refine .inr ⟨b, off, rfl, Nat.lt_of_lt_of_le hb k.size, fun j hj => ?_⟩
    rw [← hc j hj]
    exact World.cell?_of_block (w := w) (k.block b hb hbz)
theorem Sl.set {z j : Nat} {w : World} {v : Value} {sz n : Nat} {cs : List Value} (h : Sl w v sz n cs) (hf : Far z v) (x : Value) : Sl (w.setCell ⟨z, j, none⟩ x) v sz n cs :=
  h.chg (fun _ => hf) ((Chg.refl z w).set j x)
theorem Far.lit {z g o n c : Nat} (h : g ≠ z) : Far z (.slice (some ⟨g, o, none⟩) n c) := by intro a n c e; cases e; exact h
theorem Own.grown {w w' : World} {g : Nat} {cs : List Value} {row : Option Nat} (h : Own w g cs) (hg : w.grownBy w' row) (hne : some g ≠ row) : Own w' g cs := by
  have hl := h.lt
  obtain ⟨cur, e, h, hc⟩ := h
  exact ⟨cur, e, (hg.block g hl hne).trans h, hc⟩
theorem Own.chg {z : Nat} {w w' : World} {g : Nat} {cs : List Value} (h : Own w g cs) (k : Chg z w w') (hg : g ≠ z) : Own w' g cs := by
  have hl := h.lt
  obtain ⟨cur, e, h, hc⟩ := h
  exact ⟨cur, e, (k.block g hl hg).trans h, hc⟩
theorem Sl.farNew {w : World} {v : Value} {sz n z : Nat} {cs : List Value} (h : Sl w v sz n cs) (hz : w.heap.size ≤ z) : 0 < n → Far z v := by
  intro hn
  obtain ⟨a, cap, rfl, _, _, _, h⟩ := h
  obtain ⟨b, off, rfl, hb, _⟩ := h.resolve_left (by omega)
  intro a' n' c' e
  cases e
  show b ≠ z
  omega
end Go.Proofs.Ytenoigmkhlnfoaa
namespace Go.Proofs.Ytenoigmkhlnfoaa
set_option linter.unusedSimpArgs false
set_option linter.unusedVariables false
open Go.RowKit
set_option maxRecDepth 20000
/-- v lies nowhere below block B -/
def FarB (B : Nat) (v : Value) : Prop := ∀ a n c, v = .slice (some a) n c → B ≤ a.block
theorem FarB.nil (B n c : Nat) : FarB B (.slice none n c) := by intro a n c h; cases h
theorem FarB.lit {B g o n c : Nat} (h : B ≤ g) : FarB B (.slice (some ⟨g, o, none⟩) n c) := by intro a n c e; cases e; exact h
theorem FarB.of_owns {w : World} {base e sz n : Nat} {v : Value} {cs : List Value} (h : w.ownsRow base e sz v n cs) : FarB base v := by
  rintro a m c rfl
  exact (h.lt a.block rfl).1
theorem FarB.far {B z : Nat} {v : Value} (h : FarB B v) (hz : z < B) : Far z v := by
  intro a n c e
  have := h a n c e
  omega
theorem FarB.mono {B C : Nat} {v : Value} (h : FarB B v) (hC : C ≤ B) : FarB C v := fun a n c e => Nat.le_trans hC (h a n c e)
end Go.Proofs.Ytenoigmkhlnfoaa
namespace Go.Proofs.Ytenoigmkhlnfoaa
set_option linter.unusedSimpArgs false
set_option linter.unusedVariables false
open Go.RowKit
set_option maxRecDepth 20000

theorem neqDebt_run (x y : ADebt) (w : World) : (binOp .neq 60 (.agg #[I x.owed, I x.bp]) (.agg #[I y.owed, I y.bp])).run Try.prog w = .ok (.bool (!decide (x = y))) w := by
  have hpDebt : Try.prog.stoodInHeld 60 = false := by kernel_rfl
  have htDebt : Try.prog.underlying 60 = some (.struct (Try.prog.fieldsOf 60)) := by kernel_rfl
  rw [run_neq_struct, run_equalIn_struct w 9999 60 _ _ htDebt hpDebt]
  simp [go_sem]
  obtain ⟨x0, x1⟩ := x
  obtain ⟨y0, y1⟩ := y
  clear hpDebt htDebt
  simp only [ADebt.mk.injEq]
  (repeat' split) <;> simp_all

set_option maxHeartbeats 1000000 in
theorem sameDebts_any (v1 v2 : Value) (xs ys : List ADebt) (w : World) (h1 : Sl w v1 2 xs.length (xs.flatMap ADebt.cells)) (h2 : Sl w v2 2 ys.length (ys.flatMap ADebt.cells)) :
    Calls Try.prog 66 #[v1, v2] w (Grew (.bool (decide (xs = ys))) w) := by
  obtain ⟨a1, c1, rfl, hn1, _, _, h1⟩ := h1
  obtain ⟨a2, c2, rfl, hn2, _, _, h2⟩ := h2
  by_cases hl : xs.length = ys.length
  · have hb : ((xs.length : Int) != (ys.length : Int)) = false := by simp [hl]
    have hl1 : xs.length ≤ ys.length := by omega
    have hl2 : ys.length ≤ xs.length := by omega
    clear hl
    have hm : Try.prog.eqGuardType Try.prog.depth 60 = false := by kernel_rfl
    have hne := neqDebt_run
    go_enter Try.func66, Try.ntmps66
    go_wp2
    go_loopw [5] (fun i wr => ∃ k : Nat, k ≤ xs.length ∧ i = I k ∧ xs.take k = ys.take k ∧ Below w.heap.size w wr) (fun i _ => xs.length - (intOf i).toNat)
    case atStart => exact ⟨0, Nat.zero_le _, rfl, rfl, Below.refl _ _⟩
    case round =>
      obtain ⟨k, hk, rfl, htk, hbw⟩ := hrel
      have Htk := Lib.hid htk
      clear htk
      by_cases hlt : k < xs.length
      · obtain ⟨b1, o1, rfl, hb1, hc1⟩ := h1.resolve_left (by omega)
        obtain ⟨b2, o2, rfl, hb2, hc2⟩ := h2.resolve_left (by omega)
        have e1_0 : wr.cell? ⟨b1, o1 + k * 2, none⟩ = some (I (xs.getD k default).owed) := by
          have := (hbw.cell (p := ⟨b1, o1 + (k * 2 + 0), none⟩) hb1).trans (hc1 (k * 2 + 0) (by rw [length_flat _ 2 ADebt.cells_len]; exact pos_lt (by omega) (by decide)))
          rw [getD_flat _ 2 ADebt.cells_len _ _ _ (by omega) (by decide)] at this
          simpa [← Nat.add_assoc, ADebt.cells] using this
        have e1_1 : wr.cell? ⟨b1, o1 + k * 2 + 1, none⟩ = some (I (xs.getD k default).bp) := by
          have := (hbw.cell (p := ⟨b1, o1 + (k * 2 + 1), none⟩) hb1).trans (hc1 (k * 2 + 1) (by rw [length_flat _ 2 ADebt.cells_len]; exact pos_lt (by omega) (by decide)))
          rw [getD_flat _ 2 ADebt.cells_len _ _ _ (by omega) (by decide)] at this
          simpa [← Nat.add_assoc, ADebt.cells] using this
        have e2_0 : wr.cell? ⟨b2, o2 + k * 2, none⟩ = some (I (ys.getD k default).owed) := by
          have := (hbw.cell (p := ⟨b2, o2 + (k * 2 + 0), none⟩) hb2).trans (hc2 (k * 2 + 0) (by rw [length_flat _ 2 ADebt.cells_len]; exact pos_lt (by omega) (by decide)))
          rw [getD_flat _ 2 ADebt.cells_len _ _ _ (by omega) (by decide)] at this
          simpa [← Nat.add_assoc, ADebt.cells] using this
        have e2_1 : wr.cell? ⟨b2, o2 + k * 2 + 1, none⟩ = some (I (ys.getD k default).bp) := by
          have := (hbw.cell (p := ⟨b2, o2 + (k * 2 + 1), none⟩) hb2).trans (hc2 (k * 2 + 1) (by rw [length_flat _ 2 ADebt.cells_len]; exact pos_lt (by omega) (by decide)))
          rw [getD_flat _ 2 ADebt.cells_len _ _ _ (by omega) (by decide)] at this
          simpa [← Nat.add_assoc, ADebt.cells] using this
        clear hc1 hc2 h1 h2
        have hi0 : (0 : Int) ≤ (k : Int) := by omega
        have hi1 : (k : Int) < (xs.length : Int) := by omega
        have hi2 : (k : Int) < (ys.length : Int) := by omega
        by_cases hv : xs.getD k default = ys.getD k default
        · have hv' : decide (xs.getD k default = ys.getD k default) = true := decide_eq_true hv
          have hs := Lib.hid (take_succ_of hlt (by omega) Htk.out hv)
          clear hv
          generalize xs.getD k default = x at *
          generalize ys.getD k default = y at *
          go_wp2
          go_quiet (fail)
          go_wp2
          exact ⟨⟨k + 1, by omega, by go_num, hs.out, drewN_below hbw _⟩, by simp [intOf]; omega⟩
        · have hv' : decide (xs.getD k default = ys.getD k default) = false := decide_eq_false hv
          have hs := Lib.hid (ne_of_getD' hv)
          clear hv
          generalize xs.getD k default = x at *
          generalize ys.getD k default = y at *
          go_wp2
          go_quiet (fail)
          go_wp2
          go_ret
          exact Grew.intro (by rw [decide_eq_false hs.out]; rfl) (drewN_below hbw _)
      · have hs : xs = ys := by have := Htk.out; rwa [List.take_of_length_le (by omega), List.take_of_length_le (by omega)] at this
        have Hs := Lib.hid hs
        clear hs
        go_wp2
        go_ret
        exact Grew.intro (by rw [decide_eq_true Hs.out]; rfl) hbw
  · have hb : ((xs.length : Int) != (ys.length : Int)) = true := by simp; omega
    go_enter Try.func66, Try.ntmps66
    go_wp2
    go_ret
    exact Grew.intro (by rw [decide_eq_false (fun e => hl (by rw [e]))]; rfl) (Below.refl _ _)
end Go.Proofs.Ytenoigmkhlnfoaa
namespace Go.Proofs.Ytenoigmkhlnfoaa
set_option linter.unusedSimpArgs false
set_option linter.unusedVariables false
open Go.RowKit
set_option maxRecDepth 20000

theorem info_debts : (Try.prog.info? 60).map (fun i => (i.zero, i.size, i.bytes)) = some (some (.agg #[.int .i64 0, .int .i64 0]), 2, 16) := by kernel_rfl

end Go.Proofs.Ytenoigmkhlnfoaa
