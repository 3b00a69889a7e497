/- a text that is ranged over, while memory grows behind the iterator -/
import Derived.Test.YtiiielccimchgaaDoorText
import Derived.Test.YtiiielccimchgaaDoorChg
namespace Go.Proofs.YtiiielccimchgaaDoor
open Go.RowKit
set_option maxRecDepth 20000

/-- the iterator in block g moved to p -/
def iterTo (w : World) (g : Nat) (s : ByteArray) (p : Nat) : World := { w with heap := w.heap.setIfInBounds g (.stringIter s p) }
theorem iterTo_at {w : World} {g : Nat} {s : ByteArray} {p q : Nat} (h : w.heap[g]? = some (.stringIter s p)) : (iterTo w g s q).heap[g]? = some (.stringIter s q) := by
  have hg : g < w.heap.size := (Array.getElem?_eq_some_iff.1 h).1
  simp [iterTo, hg]
theorem iterTo_size (w : World) (g : Nat) (s : ByteArray) (p : Nat) : (iterTo w g s p).heap.size = w.heap.size := by simp [iterTo]
theorem iterTo_below {B g : Nat} {a w : World} (h : Below B a w) (hg : B ≤ g) (s : ByteArray) (p : Nat) : Below B a (iterTo w g s p) :=
  ⟨h.os, h.tape, h.output, by simp [iterTo]; exact h.size, fun b hb => by rw [← h.block b hb]; simp [iterTo, Array.getElem?_setIfInBounds, show ¬ g = b by omega]⟩
theorem Own.iterTo {w : World} {g g' : Nat} {cs : List Value} (h : Own w g' cs) (hg : g ≠ g') (s : ByteArray) (p : Nat) : Own (iterTo w g s p) g' cs := by
  obtain ⟨cur, e, h, hc⟩ := h
  exact ⟨cur, e, by rw [← h]; simp [Go.Proofs.YtiiielccimchgaaDoor.iterTo, Array.getElem?_setIfInBounds, hg], hc⟩
theorem iterTo_pos {w : World} {g : Nat} {s : ByteArray} {p q : Nat} (h : w.heap[g]? = some (.stringIter s p)) : (iterTo w g s q).iterPos g = q := by
  simp [World.iterPos, iterTo_at h]
theorem iter_pos {w : World} {g : Nat} {s : ByteArray} {p : Nat} (h : w.heap[g]? = some (.stringIter s p)) : w.iterPos g = p := by simp [World.iterPos, h]
theorem next_ascii_at {P : Program} {w : World} {g : Nat} {s : ByteArray} {k : Nat} (hg : w.heap[g]? = some (.stringIter s k)) (h : k < s.size) (ha : bat s k < 128) (ty : TypeId) :
    (Instr.next (.pointer (some ⟨g, 0, none⟩)) true ty).run P w = .ok (.tuple #[.bool true, .int .i64 k, .int .i32 (bat s k)]) (iterTo w g s (k + 1)) := by
  rw [← bat_eq h] at ha ⊢
  simp only [Instr.next, getObj, setObj, Sem.run_bind, Sem.run, hg, Result.andThen, h, if_true, decode_ascii s k h ha]
  simp [goInt, Sem.run, iterTo, hg]
theorem next_high_at {P : Program} {w : World} {g : Nat} {s : ByteArray} {k : Nat} (hg : w.heap[g]? = some (.stringIter s k)) (h : k < s.size) (ha : ¬ bat s k < 128) :
    ∃ (r : Nat) (q : Nat), 128 ≤ r ∧ r ≤ 2147483647 ∧ ∀ ty, (Instr.next (.pointer (some ⟨g, 0, none⟩)) true ty).run P w = .ok (.tuple #[.bool true, .int .i64 k, .int .i32 r]) (iterTo w g s q) :=
  ⟨_, _, (decode_high s k h (by rw [bat_eq h]; omega)).1, decode_le s k, fun ty => by
    simp only [Instr.next, getObj, setObj, Sem.run_bind, Sem.run, hg, Result.andThen, h, if_true]
    simp [goInt, Sem.run, iterTo, hg]
    rfl⟩
theorem next_end_at {P : Program} {w : World} {g : Nat} {s : ByteArray} {k : Nat} (hg : w.heap[g]? = some (.stringIter s k)) (h : ¬ k < s.size) (ty : TypeId) :
    (Instr.next (.pointer (some ⟨g, 0, none⟩)) true ty).run P w = .ok (.tuple #[.bool false]) w := by
  simp [Instr.next, getObj, Sem.run, hg, h]
/-- the number that the first k digits spell -/
def decV (s : ByteArray) : Nat → Nat
  | 0 => 0
  | k + 1 => decV s k * 10 + (bat s k - 48)
theorem decV_lt {s : ByteArray} : ∀ k, allDig s k = true → decV s k < 10 ^ k
  | 0, _ => by simp [decV]
  | k + 1, h => by
    have h1 : allDig s k = true := by
      unfold allDig at h ⊢
      rw [List.range_succ, List.all_append, Bool.and_eq_true] at h
      exact h.1
    have h2 := digAt_true.1 (allDig_at h (show k < k + 1 by omega))
    have h3 := decV_lt k h1
    rw [decV, Nat.pow_succ]
    omega
end Go.Proofs.YtiiielccimchgaaDoor
