/- a block of the call's own, written in place -/
import Derived.Test.YtenoigmkhlnfoaaSlice
namespace Go.Proofs.Ytenoigmkhlnfoaa
set_option linter.unusedSimpArgs false
set_option linter.unusedVariables false
open Go.RowKit
set_option maxRecDepth 20000

/-- block g begins with the cells cs, and none of it is frozen -/
def Own (w : World) (g : Nat) (cs : List Value) : Prop :=
  ∃ cur e, w.heap[g]? = some (.cells cur e (0, 0)) ∧ ∀ j, j < cs.length → cur[j]? = some (cs.getD j undef)

theorem Own.lt {w : World} {g : Nat} {cs : List Value} (h : Own w g cs) : g < w.heap.size := by
  obtain ⟨cur, e, h, _⟩ := h; exact (Array.getElem?_eq_some_iff.1 h).1
theorem Own.cell {w : World} {g : Nat} {cs : List Value} (h : Own w g cs) : ∀ j, j < cs.length → w.cell? ⟨g, 0 + j, none⟩ = some (cs.getD j undef) := by
  obtain ⟨cur, e, h, hc⟩ := h
  intro j hj
  rw [Nat.zero_add, cell_of_cells h]; exact hc j hj
theorem Own.frozen {w : World} {g : Nat} {cs : List Value} (h : Own w g cs) (j : Nat) : w.frozen? ⟨g, j, none⟩ = false := by
  obtain ⟨cur, e, h, _⟩ := h
  simp [World.frozen?, h]
theorem Own.set {w : World} {g : Nat} {cs : List Value} (h : Own w g cs) (j : Nat) (x : Value) : Own (w.setCell ⟨g, j, none⟩ x) g (cs.set j x) := by
  obtain ⟨cur, e, h, hc⟩ := h
  refine ⟨cur.setIfInBounds j x, e, ?_, ?_⟩
  · have hg := (Array.getElem?_eq_some_iff.1 h).1
    simp [World.setCell, Array.getElem?_modify, h]
  · intro i hi
    rw [List.length_set] at hi
    have := hc i hi
    have hi' := (Array.getElem?_eq_some_iff.1 this).1
    rw [List.getD_eq_getElem?_getD, List.getElem?_set, Array.getElem?_setIfInBounds]
    by_cases hij : j = i
    · subst hij; simp [hi, hi']
    · simp only [hij, if_false]; rw [this, List.getD_eq_getElem?_getD]
theorem Own.other {w : World} {g : Nat} {cs : List Value} (h : Own w g cs) {a : Addr} (ha : a.block ≠ g) (x : Value) : Own (w.setCell a x) g cs := by
  obtain ⟨cur, e, h, hc⟩ := h
  refine ⟨cur, e, ?_, hc⟩
  simp [World.setCell, Array.getElem?_modify, ha, h]
theorem Own.below {w w' : World} {g : Nat} {cs : List Value} (h : Own w g cs) (hb : Below w.heap.size w w') : Own w' g cs := by
  have hg := h.lt
  obtain ⟨cur, e, h, hc⟩ := h
  exact ⟨cur, e, (hb.block g hg).trans h, hc⟩
theorem Own.of_owns {w : World} {base e sz n m cap g : Nat} {cs : List Value} (h : w.ownsRow base e sz (.slice (some ⟨g, 0, none⟩) n cap) m cs) : Own w g cs := by
  obtain ⟨hl, h⟩ := h
  rcases h with ⟨h, _⟩ | ⟨g', cap', cur, hv, hb, hg, hc, hm, hs, ht⟩
  · cases h
  · cases hv
    refine ⟨cur, e, hg, fun j hj => ?_⟩
    rw [← ht, List.getD_eq_getElem?_getD, List.getElem?_take, if_pos (by omega), Array.getElem?_toList]
    rw [Array.getElem?_eq_getElem (by rw [hs]; have := Nat.mul_le_mul_right sz hc; omega)]
    rfl
theorem Own.new {w : World} {g : Nat} (hg : g = w.heap.size) (cs : List Value) (e : TypeId) : Own (w.alloc (.cells cs.toArray e)) g cs := by
  subst hg
  refine ⟨cs.toArray, e, heap_alloc_new w _, fun j hj => ?_⟩
  rw [List.getD_eq_getElem?_getD, List.getElem?_eq_getElem hj]; simp [hj]
theorem Own.alloc {w : World} {g : Nat} {cs : List Value} (h : Own w g cs) (o : Obj) : Own (w.alloc o) g cs := h.below (boxed_below w o)
/-- what append or make gave: nothing at all, or a block of the call's own -/
theorem owns_cases {w : World} {base e sz n : Nat} {v : Value} {cs : List Value} (h : w.ownsRow base e sz v n cs) : (v = .slice none 0 0 ∧ n = 0) ∨ ∃ g cap, v = .slice (some ⟨g, 0, none⟩) n cap ∧ base ≤ g ∧ n ≤ cap ∧ Own w g cs := by
  have h' := h
  obtain ⟨hl, h⟩ := h
  rcases h with h | ⟨g, cap, cur, hv, hb, hg, hc, hm, hs, ht⟩
  · exact .inl h
  · subst hv
    exact .inr ⟨g, cap, rfl, hb, hc, Own.of_owns h'⟩

/-! rules for the walk: a cell behind a store (have r1 := set_same; have r2 := set_off; have r3 := set_blk) -/
theorem set_same (w : World) (g j : Nat) (x : Value) : (w.setCell ⟨g, j, none⟩ x).cell? ⟨g, j, none⟩ = (w.cell? ⟨g, j, none⟩).map fun _ => x := by
  cases h : w.cell? ⟨g, j, none⟩ with
  | some u => exact World.cell?_setCell_same _ _ _ h
  | none =>
    unfold World.cell? at h
    simp only [World.setCell, World.cell?, Array.getElem?_modify, if_true]
    cases hh : w.heap[g]? with
    | none => rfl
    | some o =>
      rw [hh] at h
      cases o <;> simp_all
theorem set_off (w : World) (g i j : Nat) (x : Value) (h : i ≠ j) : (w.setCell ⟨g, i, none⟩ x).cell? ⟨g, j, none⟩ = w.cell? ⟨g, j, none⟩ :=
  World.cell?_setCell_other _ _ _ _ (fun e => h (by injection e))
theorem set_blk (w : World) (g g' i j : Nat) (x : Value) (h : g ≠ g') : (w.setCell ⟨g, i, none⟩ x).cell? ⟨g', j, none⟩ = w.cell? ⟨g', j, none⟩ :=
  World.cell?_setCell_other _ _ _ _ (fun e => h (by injection e))
theorem Own.c {w : World} {g : Nat} {cs : List Value} (h : Own w g cs) (j : Nat) (hj : j < cs.length := by simp) : w.cell? ⟨g, j, none⟩ = some (cs.getD j undef) := by
  have := h.cell j hj
  rwa [Nat.zero_add] at this
theorem Own.f {w : World} {g : Nat} {cs : List Value} (h : Own w g cs) (j : Nat) : w.frozen? ⟨g, j, none⟩ = false := h.frozen j
end Go.Proofs.Ytenoigmkhlnfoaa
