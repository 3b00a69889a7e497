/- a text, key by key: plain; the iterator's step at any byte; the decoder behind a cut -/
import Derived.Test.YtmciccnmpoijdaaDoorPadMay
import Derived.Shelf.Unicode.DecodeSlow
namespace Go.Proofs.YtmciccnmpoijdaaDoor
open Go.RowKit
set_option maxRecDepth 20000

def keysF (s : ByteArray) : Nat → Nat → ByteArray → Bool → List AEntry → ByteArray × Bool × List AEntry
  | 0, _, D, b, L => (D, b, L)
  | f + 1, p, D, b, L => if p < s.size then keysF s f (p + (Utf8.decode s p).2) (pressR D b (Utf8.decode s p).1).1 (pressR D b (Utf8.decode s p).1).2.1 (L ++ entL (pressR D b (Utf8.decode s p).1).2.2) else (D, b, L)
def keysR (s : ByteArray) : ByteArray × Bool × List AEntry := if 2000 < s.size then (⟨#[]⟩, false, []) else keysF s s.size 0 ⟨#[]⟩ false []
def keysE (s : ByteArray) : Int := if 2000 < s.size then 1 else 0
theorem width_pos (s : ByteArray) (p : Nat) : 1 ≤ (Utf8.decode s p).2 := by
  rw [Lib.decode_at]
  unfold Lib.decodeN
  repeat' split
  all_goals simp
theorem width_le (s : ByteArray) (p : Nat) : (Utf8.decode s p).2 ≤ 4 := by
  rw [Lib.decode_at]
  unfold Lib.decodeN
  repeat' split
  all_goals simp
theorem keysF_step {s : ByteArray} {f p : Nat} {D : ByteArray} {b : Bool} {L : List AEntry} {R : ByteArray × Bool × List AEntry} (h : keysF s f p D b L = R) (hf : s.size ≤ p + f) (hp : p < s.size) :
    ∃ g, keysF s g (p + (Utf8.decode s p).2) (pressR D b (Utf8.decode s p).1).1 (pressR D b (Utf8.decode s p).1).2.1 (L ++ entL (pressR D b (Utf8.decode s p).1).2.2) = R ∧ s.size ≤ p + (Utf8.decode s p).2 + g := by
  cases f with
  | zero => omega
  | succ f =>
    rw [keysF, if_pos hp] at h
    have := width_pos s p
    exact ⟨f, h, by omega⟩
theorem keysF_end {s : ByteArray} {f p : Nat} {D : ByteArray} {b : Bool} {L : List AEntry} {R : ByteArray × Bool × List AEntry} (h : keysF s f p D b L = R) (hp : ¬ p < s.size) : R = (D, b, L) := by
  cases f with
  | zero => rw [keysF] at h; exact h.symm
  | succ f => rw [keysF, if_neg hp] at h; exact h.symm
theorem entL_len (x : Option (ByteArray × Int)) : (entL x).length ≤ 1 := by
  rcases x with _ | ⟨t, c⟩ <;> simp [entL]
theorem next_at {P : Program} {w : World} {g : Nat} {s : ByteArray} {k : Nat} (hg : w.heap[g]? = some (.stringIter s k)) (h : k < s.size) (ty : TypeId) :
    (Instr.next (.pointer (some ⟨g, 0, none⟩)) true ty).run P w = .ok (.tuple #[.bool true, .int .i64 k, .int .i32 (Utf8.decode s k).1]) (iterTo w g s (k + (Utf8.decode s k).2)) := by
  simp only [Instr.next, getObj, setObj, Sem.run_bind, Sem.run, hg, Result.andThen, h, if_true]
  simp [goInt, Sem.run, iterTo, hg]
theorem get_list (s : ByteArray) (k : Nat) : s.get! k = (s.data[k]?).getD 0 := by
  cases s with | mk d =>
  show d[k]! = _
  rw [getElem!_def]
  cases d[k]? <;> rfl
theorem get_cut (s : ByteArray) (p k : Nat) : (s.extract p s.size).get! k = s.get! (p + k) := by
  rw [get_list, get_list, ByteArray.data_extract, Array.getElem?_extract]
  by_cases h : k < min s.size s.data.size - p
  · rw [if_pos h]
  · have hs : s.data.size = s.size := rfl
    rw [if_neg h, Array.getElem?_eq_none (by rw [hs] at h ⊢; omega)]
theorem decode_cut {s : ByteArray} {p : Nat} (hp : p < s.size) : Lib.decodeGo (s.extract p s.size) = Utf8.decode s p := by
  have hz : (s.extract p s.size).size = s.size - p := by simp
  unfold Lib.decodeGo
  rw [if_neg (by omega), Lib.decode_at, Lib.decode_at, hz, get_cut, get_cut, get_cut, get_cut]
  simp
theorem Own.belowB {w w' : World} {B g : Nat} {cs : List Value} (h : Own w g cs) (hb : Below B w w') (hg : g < B) : Own w' g cs := by
  obtain ⟨cur, e, h, hc⟩ := h
  exact ⟨cur, e, (hb.block g hg).trans h, hc⟩
theorem cells_ent (L : List AEntry) (t : ByteArray) (c : Int) : (L ++ [(⟨t, c⟩ : AEntry)]).flatMap AEntry.cells = L.flatMap AEntry.cells ++ [.string t, I c] := by simp [AEntry.cells]
theorem infoEntry : (Tryd.prog.info? 50).map (fun i => (i.zero, i.size, i.bytes)) = some (some (.agg #[.string ByteArray.empty, .int .i64 0]), 2, 24) := by kernel_rfl
theorem row_setK {w : World} {g gi j : Nat} {o : Option Obj} (h : w.heap[gi]? = o) (hne : g ≠ gi) (x : Value) : (w.setCell ⟨g, j, none⟩ x).heap[gi]? = o := by
  rw [← h]; simp [World.setCell, Array.getElem?_modify, hne]
/-- what Keys answers -/
def KeysP (x : ByteArray × Bool × List AEntry) (er : Int) (w : World) (e : Ending) (w' : World) : Prop := ∃ v, e = .returned (T3 v (padV x.1 x.2.1) (I er)) ∧ Sl w' v 2 x.2.2.length (x.2.2.flatMap AEntry.cells) ∧ Below w.heap.size w w'
end Go.Proofs.YtmciccnmpoijdaaDoor
