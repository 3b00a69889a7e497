/- bytes of a text · one block of the call's own may turn, the rest stays -/
import Derived.Test.YtdjgcenjonegjaaGreatDoorPk05
import Derived.Laws.RangeAny
import Derived.Test.YtdjgcenjonegjaaGreatDoorOwn
set_option maxRecDepth 20000
set_option maxHeartbeats 8000000
set_option linter.unusedSimpArgs false
set_option linter.unusedVariables false
namespace Go.Proofs.YtdjgcenjonegjaaGreatDoor
section
open Go.RowKit

/-- the byte at k -/
def bat (s : ByteArray) (k : Nat) : Nat := if h : k < s.size then (s[k]'h).toNat else 0
theorem bat_eq {s : ByteArray} {k : Nat} (h : k < s.size) : (s[k]'h).toNat = bat s k := by simp [bat, h]
theorem bat_lt (s : ByteArray) (k : Nat) : bat s k < 256 := by
  unfold bat; split
  · exact UInt8.toNat_lt _
  · omega
/-- is the byte at k a digit? -/
def digAt (s : ByteArray) (k : Nat) : Bool := inB (bat s k) 48 57
/-- the digit at k -/
def dgt (s : ByteArray) (k : Nat) : Int := (bat s k : Int) - 48
def allDig (s : ByteArray) (k : Nat) : Bool := (List.range k).all (digAt s)
theorem allDig_succ {s : ByteArray} {k : Nat} (h : allDig s k = true) (hk : digAt s k = true) : allDig s (k + 1) = true := by
  unfold allDig at *; rw [List.range_succ, List.all_append, h]; simp [hk]
theorem allDig_at {s : ByteArray} {n k : Nat} (h : allDig s n = true) (hk : k < n) : digAt s k = true := by
  unfold allDig at h; rw [List.all_eq_true] at h; exact h k (List.mem_range.2 hk)
theorem allDig_no {s : ByteArray} {n k : Nat} (hk : k < n) (h : digAt s k = false) : allDig s n = false := by
  rw [← Bool.not_eq_true]; intro hh; rw [allDig_at hh hk] at h; cases h
theorem digAt_true {s : ByteArray} {k : Nat} : digAt s k = true ↔ 48 ≤ bat s k ∧ bat s k ≤ 57 := by
  unfold digAt; rw [inB_true]; omega
theorem dgt_bd {s : ByteArray} {k : Nat} (h : digAt s k = true) : 0 ≤ dgt s k ∧ dgt s k ≤ 9 := by
  have := digAt_true.1 h; unfold dgt; omega

/-- the next rune where a text is ranged over, ASCII or not -/
theorem next_ascii {P : Program} (w : World) (s : ByteArray) (k : Nat) (ty : TypeId) (h : k < s.size) (ha : bat s k < 128) :
    (Instr.next (.pointer (some ⟨w.heap.size, 0, none⟩)) true ty).run P (w.iter s k) = .ok (.tuple #[.bool true, .int .i64 k, .int .i32 (bat s k)]) (w.iter s (k + 1)) := by
  rw [← bat_eq h]; exact run_next_ascii w s k ty h (by rw [bat_eq h]; exact ha)
theorem next_high {P : Program} (w : World) (s : ByteArray) (k : Nat) (h : k < s.size) (ha : ¬ bat s k < 128) :
    ∃ (r : Nat) (q : Nat), 128 ≤ r ∧ r ≤ 2147483647 ∧ ∀ ty, (Instr.next (.pointer (some ⟨w.heap.size, 0, none⟩)) true ty).run P (w.iter s k) = .ok (.tuple #[.bool true, .int .i64 k, .int .i32 r]) (w.iter s q) :=
  ⟨_, _, (decode_high s k h (by rw [bat_eq h]; omega)).1, decode_le s k, fun ty => run_next_any w s k ty h⟩

theorem iter_below (w : World) (s : ByteArray) (k : Nat) : Below w.heap.size w (w.iter s k) := boxed_below w _

/-- ref.Digit -/
theorem Digit_any (n : Int) (w : World) : Calls Tryz.prog 52 #[.int .u8 n] w (Pure (.bool (inB n 48 57)) w) := by
  go_enter Tryz.func52, Tryz.ntmps52; go_wp2
  all_goals
    go_ret; refine Pure.intro ?_; simp only [inB]; simp [*]
    try omega

/-- what is wrong with a text of digits -/
def digsE (s : ByteArray) : Int := if s.size < 1 then 1 else if 200 < s.size then 1 else if allDig s s.size then 0 else 7
theorem digsE_zero {s : ByteArray} (h : digsE s = 0) : 1 ≤ s.size ∧ s.size ≤ 200 ∧ allDig s s.size = true := by
  unfold digsE at h
  split at h
  · omega
  · split at h
    · omega
    · split at h
      · refine ⟨by omega, by omega, by assumption⟩
      · omega

theorem empty_toList {s : ByteArray} (h : 0 < s.size) : (s.toList == []) = false := by
  rw [ByteArray.toList_eq]; rw [beq_eq_false_iff_ne]; intro hh; have : s.data.toList.length = 0 := by rw [hh]; rfl
  have e : s.size = s.data.toList.length := Array.length_toList.symm; omega
end
section
open Go.RowKit

/-- of what was there only block z may have turned -/
structure Chg (z : Nat) (w w' : World) : Prop where
  os : w'.os = w.os
  tape : w'.tape = w.tape
  output : w'.output = w.output
  size : w.heap.size ≤ w'.heap.size
  block : ∀ b, b < w.heap.size → b ≠ z → w'.heap[b]? = w.heap[b]?
theorem Chg.refl (z : Nat) (w : World) : Chg z w w := ⟨rfl, rfl, rfl, Nat.le_refl _, fun _ _ _ => rfl⟩
theorem Chg.trans {z : Nat} {a b c : World} (h : Chg z a b) (k : Chg z b c) : Chg z a c :=
  ⟨k.os.trans h.os, k.tape.trans h.tape, k.output.trans h.output, Nat.le_trans h.size k.size, fun i hi hz => (k.block i (Nat.lt_of_lt_of_le hi h.size) hz).trans (h.block i hi hz)⟩
theorem Chg.of_below {z : Nat} {w w' : World} (h : Below w.heap.size w w') : Chg z w w' := ⟨h.os, h.tape, h.output, h.size, fun b hb _ => h.block b hb⟩
theorem Chg.below {z B : Nat} {a w w' : World} (h : Below B a w) (hz : B ≤ z) (k : Chg z w w') (hB : B ≤ w.heap.size) : Below B a w' :=
  h.trans ⟨k.os, k.tape, k.output, k.size, fun b hb => k.block b (by omega) (by omega)⟩
theorem Chg.set {z : Nat} {w w' : World} (h : Chg z w w') (j : Nat) (x : Value) : Chg z w (w'.setCell ⟨z, j, none⟩ x) :=
  ⟨h.os, h.tape, h.output, by simp [World.setCell]; exact h.size, fun b hb hz => by
    rw [← h.block b hb hz]; simp [World.setCell, Array.getElem?_modify, show ¬ z = b by omega]⟩
/-- v does not lie in block z -/
def Far (z : Nat) (v : Value) : Prop := ∀ a n c, v = .slice (some a) n c → a.block ≠ z
theorem Own.chg {z : Nat} {w w' : World} {g : Nat} {cs : List Value} (h : Own w g cs) (k : Chg z w w') (hg : g ≠ z) : Own w' g cs := by
  have hl := h.lt; obtain ⟨cur, e, h, hc⟩ := h; exact ⟨cur, e, (k.block g hl hg).trans h, hc⟩
end
end Go.Proofs.YtdjgcenjonegjaaGreatDoor
