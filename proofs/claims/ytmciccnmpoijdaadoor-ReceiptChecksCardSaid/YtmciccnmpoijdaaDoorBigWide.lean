/- ref.big96 and ref.wide96 -/
import Derived.Test.YtmciccnmpoijdaaDoorBigQuo
namespace Go.Proofs.YtmciccnmpoijdaaDoor
open Go.RowKit
set_option maxRecDepth 20000

/-- a number in new memory -/
def GrewBN (n : Nat) (w : World) (e : Ending) (w' : World) : Prop := ∃ z, e = .returned (.pointer (some ⟨z, 0, none⟩)) ∧ BN w' z n ∧ w.heap.size ≤ z ∧ Below w.heap.size w w'
theorem NewInt_nat (n : Nat) (w : World) (h : n ≤ 9223372036854775807) : Calls Tryd.prog 42 #[I n] w (GrewBN n w) :=
  (NewInt_any n w (by omega) (by omega)).mono fun e w' ⟨z, he, ⟨v, h1, h2⟩, h3, h4⟩ => by
    have : decide (((n : Nat) : Int) < 0) = false := by simp
    rw [this] at h1
    exact ⟨z, he, ⟨v, h1, by simpa using h2⟩, h3, h4⟩

abbrev wideV (a b c : Nat) : Value := .agg #[.int .u32 a, .int .u32 b, .int .u32 c]
theorem val3 (a b c : Nat) : val [a, b, c] = a + 4294967296 * (b + 4294967296 * c) := by simp [val]
theorem val3_lt {a b c : Nat} (ha : a < 4294967296) (hb : b < 4294967296) (hc : c < 4294967296) : val [a, b, c] < 79228162514264337593543950336 := by rw [val3]; omega

def BigRel (W : World) (a b c z k : Nat) (wr : World) : Prop :=
  BN wr z (val ([a, b, c].drop k)) ∧ Own wr W.heap.size [U32 a, U32 b, U32 c] ∧ Below W.heap.size W wr
theorem row_set {w : World} {g k : Nat} {cs : List Value} {t : TypeId} (h : w.heap[g]? = some (.cells cs.toArray t (0, 0))) (x : Value) : (w.setCell ⟨g, k, none⟩ x).heap[g]? = some (.cells (cs.set k x).toArray t (0, 0)) := by
  simp [World.setCell, Array.getElem?_modify, h]
/-- a number behind a store into a block of words that are noughts from there on: its own words lie elsewhere, for the last one is none -/
theorem BN.store {w : World} {z n g k : Nat} {cs : List Nat} {t : TypeId} (h : BN w z n) (hz : z ≠ g) (hg : w.heap[g]? = some (.cells (wcells cs).toArray t (0, 0))) (h0 : ∀ i, k ≤ i → cs.getD i 0 = 0) (x : Value) : BN (w.setCell ⟨g, k, none⟩ x) z n := by
  obtain ⟨v, hb, l, ⟨a, cap, rfl, hn, hl, hnil, hr⟩, hC⟩ := h
  have hc : Chg g w (w.setCell ⟨g, k, none⟩ x) := (Chg.refl g w).set k x
  refine ⟨_, hb.chg hc hz, l, ⟨a, cap, rfl, hn, hl, hnil, ?_⟩, hC⟩
  rcases hr with hr | ⟨b, off, rfl, hlt, hcell⟩
  · exact .inl hr
  · refine .inr ⟨b, off, rfl, Nat.lt_of_lt_of_le hlt hc.size, fun j hj => ?_⟩
    by_cases hbg : b = g
    · subst hbg
      by_cases hjk : off + j = k
      · exfalso
        rw [wcells_len] at hj
        obtain ⟨m, hm⟩ : ∃ m, l.length = m + 1 := ⟨l.length - 1, by omega⟩
        have h1 := hcell m (by rw [wcells_len]; omega)
        rw [wcells_at (by omega), cell_of_cells hg] at h1
        have h2 := hC.2.2 m hm
        have hlt2 : off + m < cs.length := by
          have := (Array.getElem?_eq_some_iff.1 h1).1
          simpa [wcells] using this
        have h3 := h0 (off + m) (by omega)
        simp only [wcells, List.getElem?_toArray, List.getElem?_map, List.getElem?_eq_getElem hlt2, Option.map_some, Option.some.injEq] at h1
        rw [List.getD_eq_getElem?_getD, List.getElem?_eq_getElem hlt2, Option.getD_some] at h3
        rw [h3] at h1
        injection h1 with _ h4
        omega
      · rw [← hcell j hj]
        exact set_off w b k (off + j) x (fun e => hjk e.symm)
    · rw [← hcell j hj]
      exact set_blk w g b k (off + j) x (fun e => hbg e.symm)
def wd (N k i : Nat) : Nat := if i < k then N / 4294967296 ^ i % 4294967296 else 0
def WideRel (W : World) (N rest base k : Nat) (wr : World) : Prop :=
  BN wr rest (N / 4294967296 ^ k) ∧ BN wr base 4294967296 ∧ wr.heap[W.heap.size + 1]? = some (.cells (wcells [wd N k 0, wd N k 1, wd N k 2]).toArray 63 (0, 0)) ∧ Own wr W.heap.size [U32 0, U32 0, U32 0] ∧ Below W.heap.size W wr
theorem WideRel.drewN {W : World} {N rest base k : Nat} {wr : World} (h : WideRel W N rest base k wr) (q : Nat) : WideRel W N rest base k (wr.drewN q) := ⟨h.1, h.2.1, h.2.2.1, h.2.2.2.1, drewN_below h.2.2.2.2 q⟩
def GrewW (a b c d : Nat) (w : World) (e : Ending) (w' : World) : Prop := e = .returned (T2 (wideV a b c) (U32 d)) ∧ Below w.heap.size w w'
end Go.Proofs.YtmciccnmpoijdaaDoor
