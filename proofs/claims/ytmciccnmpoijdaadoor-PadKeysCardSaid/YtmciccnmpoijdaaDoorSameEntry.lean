/- sameEntries: are two lists the same? (made by wip/bin/gen_api.py) -/
import Derived.Test.YtmciccnmpoijdaaDoorApi
namespace Go.Proofs.YtmciccnmpoijdaaDoor
open Go.RowKit
set_option maxRecDepth 20000

theorem neqEntry_run (x y : AEntry) (w : World) : (binOp .neq 50 (.agg #[.string x.text, I x.code]) (.agg #[.string y.text, I y.code])).run Tryd.prog w = .ok (.bool (!decide (x = y))) w := by
  have hpEntry : Tryd.prog.stoodInHeld 50 = false := by kernel_rfl
  have htEntry : Tryd.prog.underlying 50 = some (.struct (Tryd.prog.fieldsOf 50)) := by kernel_rfl
  rw [run_neq_struct, run_equalIn_struct w 9999 50 _ _ htEntry hpEntry]
  simp [go_sem]
  obtain ⟨x0, x1⟩ := x
  obtain ⟨y0, y1⟩ := y
  clear hpEntry htEntry
  have hT : ∀ a b : ByteArray, a.toList = b.toList ↔ a = b := fun a b => ⟨fun h => by rw [ByteArray.toList_eq, ByteArray.toList_eq] at h; exact ByteArray.ext (Array.toList_inj.1 h), fun h => by rw [h]⟩
  simp only [hT]
  simp only [AEntry.mk.injEq]
  (repeat' split) <;> simp_all

set_option maxHeartbeats 1000000 in
theorem sameEntries_any (v1 v2 : Value) (xs ys : List AEntry) (w : World) (h1 : Sl w v1 2 xs.length (xs.flatMap AEntry.cells)) (h2 : Sl w v2 2 ys.length (ys.flatMap AEntry.cells)) :
    Calls Tryd.prog 11 #[v1, v2] w (Grew (.bool (decide (xs = ys))) w) := by
  obtain ⟨a1, c1, rfl, hn1, _, _, h1⟩ := h1
  obtain ⟨a2, c2, rfl, hn2, _, _, h2⟩ := h2
  by_cases hl : xs.length = ys.length
  · have hb : ((xs.length : Int) != (ys.length : Int)) = false := by simp [hl]
    have hl1 : xs.length ≤ ys.length := by omega
    have hl2 : ys.length ≤ xs.length := by omega
    clear hl
    have hm : Tryd.prog.eqGuardType Tryd.prog.depth 50 = false := by kernel_rfl
    have hne := neqEntry_run
    go_enter Tryd.func11, Tryd.ntmps11
    go_wp2
    go_loopw [5] (fun i wr => ∃ k : Nat, k ≤ xs.length ∧ i = I k ∧ xs.take k = ys.take k ∧ Below w.heap.size w wr) (fun i _ => xs.length - (intOf i).toNat)
    case atStart => exact ⟨0, Nat.zero_le _, rfl, rfl, Below.refl _ _⟩
    case round =>
      obtain ⟨k, hk, rfl, htk, hbw⟩ := hrel
      have Htk := Lib.hid htk
      clear htk
      by_cases hlt : k < xs.length
      · obtain ⟨b1, o1, rfl, hb1, hc1⟩ := h1.resolve_left (by omega)
        obtain ⟨b2, o2, rfl, hb2, hc2⟩ := h2.resolve_left (by omega)
        have e1_0 : wr.cell? ⟨b1, o1 + k * 2, none⟩ = some (.string (xs.getD k default).text) := by
          have := (hbw.cell (p := ⟨b1, o1 + (k * 2 + 0), none⟩) hb1).trans (hc1 (k * 2 + 0) (by rw [length_flat _ 2 AEntry.cells_len]; exact pos_lt (by omega) (by decide)))
          rw [getD_flat _ 2 AEntry.cells_len _ _ _ (by omega) (by decide)] at this
          simpa [← Nat.add_assoc, AEntry.cells] using this
        have e1_1 : wr.cell? ⟨b1, o1 + k * 2 + 1, none⟩ = some (I (xs.getD k default).code) := by
          have := (hbw.cell (p := ⟨b1, o1 + (k * 2 + 1), none⟩) hb1).trans (hc1 (k * 2 + 1) (by rw [length_flat _ 2 AEntry.cells_len]; exact pos_lt (by omega) (by decide)))
          rw [getD_flat _ 2 AEntry.cells_len _ _ _ (by omega) (by decide)] at this
          simpa [← Nat.add_assoc, AEntry.cells] using this
        have e2_0 : wr.cell? ⟨b2, o2 + k * 2, none⟩ = some (.string (ys.getD k default).text) := by
          have := (hbw.cell (p := ⟨b2, o2 + (k * 2 + 0), none⟩) hb2).trans (hc2 (k * 2 + 0) (by rw [length_flat _ 2 AEntry.cells_len]; exact pos_lt (by omega) (by decide)))
          rw [getD_flat _ 2 AEntry.cells_len _ _ _ (by omega) (by decide)] at this
          simpa [← Nat.add_assoc, AEntry.cells] using this
        have e2_1 : wr.cell? ⟨b2, o2 + k * 2 + 1, none⟩ = some (I (ys.getD k default).code) := by
          have := (hbw.cell (p := ⟨b2, o2 + (k * 2 + 1), none⟩) hb2).trans (hc2 (k * 2 + 1) (by rw [length_flat _ 2 AEntry.cells_len]; exact pos_lt (by omega) (by decide)))
          rw [getD_flat _ 2 AEntry.cells_len _ _ _ (by omega) (by decide)] at this
          simpa [← Nat.add_assoc, AEntry.cells] using this
        clear hc1 hc2 h1 h2
        have hi0 : (0 : Int) ≤ (k : Int) := by omega
        have hi1 : (k : Int) < (xs.length : Int) := by omega
        have hi2 : (k : Int) < (ys.length : Int) := by omega
        by_cases hv : xs.getD k default = ys.getD k default
        · have hv' : decide (xs.getD k default = ys.getD k default) = true := decide_eq_true hv
          have hs := Lib.hid (take_succ_of hlt (by omega) Htk.out hv)
          clear hv
          generalize xs.getD k default = x at *
          generalize ys.getD k default = y at *
          go_wp2
          go_quiet (fail)
          go_wp2
          exact ⟨⟨k + 1, by omega, by go_num, hs.out, drewN_below hbw _⟩, by simp [intOf]; omega⟩
        · have hv' : decide (xs.getD k default = ys.getD k default) = false := decide_eq_false hv
          have hs := Lib.hid (ne_of_getD' hv)
          clear hv
          generalize xs.getD k default = x at *
          generalize ys.getD k default = y at *
          go_wp2
          go_quiet (fail)
          go_wp2
          go_ret
          exact Grew.intro (by rw [decide_eq_false hs.out]; rfl) (drewN_below hbw _)
      · have hs : xs = ys := by have := Htk.out; rwa [List.take_of_length_le (by omega), List.take_of_length_le (by omega)] at this
        have Hs := Lib.hid hs
        clear hs
        go_wp2
        go_ret
        exact Grew.intro (by rw [decide_eq_true Hs.out]; rfl) hbw
  · have hb : ((xs.length : Int) != (ys.length : Int)) = true := by simp; omega
    go_enter Tryd.func11, Tryd.ntmps11
    go_wp2
    go_ret
    exact Grew.intro (by rw [decide_eq_false (fun e => hl (by rw [e]))]; rfl) (Below.refl _ _)
end Go.Proofs.YtmciccnmpoijdaaDoor
