/- a slice that reads as a list of cells -/
import Derived.Test.YtfhmcahfjoliiaaDoorBase
import Derived.Laws.AppendOwnNone
namespace Go.Proofs.YtfhmcahfjoliiaaDoor
set_option linter.unusedSimpArgs false
set_option linter.unusedVariables false
open Go.RowKit
set_option maxRecDepth 20000

/-- v is a slice of n elements of sz cells each, which are cs -/
def Sl (w : World) (v : Value) (sz n : Nat) (cs : List Value) : Prop :=
  ∃ a cap, v = .slice a n cap ∧ (n ≤ 281474976710656 ∧ n ≤ cap) ∧ cs.length = n * sz ∧ (a = none → n = 0 ∧ cap = 0) ∧
    (n = 0 ∨ ∃ b off, a = some ⟨b, off, none⟩ ∧ b < w.heap.size ∧ ∀ j, j < cs.length → w.cell? ⟨b, off + j, none⟩ = some (cs.getD j undef))

theorem Sl.nil (w : World) (sz : Nat) : Sl w (.slice none 0 0) sz 0 [] := ⟨none, 0, rfl, ⟨by omega, by omega⟩, by simp, fun _ => ⟨rfl, rfl⟩, .inl rfl⟩

theorem cell_of_cells {w : World} {g : Nat} {cur : Array Value} {e : TypeId} {fz : Nat × Nat} (h : w.heap[g]? = some (.cells cur e fz)) (j : Nat) : w.cell? ⟨g, j, none⟩ = cur[j]? := cell_of_row w g j cur e fz h

theorem Sl.of_owns {w : World} {base e sz n : Nat} {v : Value} {cs : List Value} (h : w.ownsRow base e sz v n cs) (hn : n ≤ 281474976710656) : Sl w v sz n cs := by
  obtain ⟨hl, h⟩ := h
  rcases h with ⟨rfl, rfl⟩ | ⟨g, cap, cur, rfl, hb, hg, hc, hm, hs, ht⟩
  · exact ⟨none, 0, rfl, ⟨by omega, by omega⟩, hl, fun _ => ⟨rfl, rfl⟩, .inl rfl⟩
  · refine ⟨_, cap, rfl, ⟨hn, hc⟩, hl, (fun h => by cases h), .inr ⟨g, 0, rfl, (Array.getElem?_eq_some_iff.1 hg).1, fun j hj => ?_⟩⟩
    rw [Nat.zero_add, cell_of_cells hg]
    rw [← ht, List.getD_eq_getElem?_getD, List.getElem?_take, if_pos (by omega), Array.getElem?_toList]
    rw [Array.getElem?_eq_getElem (by rw [hs]; have := Nat.mul_le_mul_right sz hc; omega)]
    rfl

/-- each value is one cell -/
def oneCells (cs : List Value) : Prop := ∀ u ∈ cs, u.oneCell' = true
/-- the call returns a slice that reads as cs, in new memory -/
def GrewSl (sz n : Nat) (cs : List Value) (w : World) (e : Ending) (w' : World) : Prop := ∃ v, e = .returned v ∧ Sl w' v sz n cs ∧ Below w.heap.size w w'

/-- the call returns a slice of its own, in new memory -/
def GrewOw (t sz n : Nat) (cs : List Value) (w : World) (e : Ending) (w' : World) : Prop := ∃ v, e = .returned v ∧ w'.ownsRow w.heap.size t sz v n cs ∧ Below w.heap.size w w'
/-- the call returns a slice that reads as cs, in new memory, and a number -/
def GrewSl2 (sz n : Nat) (cs : List Value) (k : Int) (w : World) (e : Ending) (w' : World) : Prop := ∃ v, e = .returned (T2 v (I k)) ∧ Sl w' v sz n cs ∧ Below w.heap.size w w'
theorem grown_below {w0 w w' : World} {v : Value} {base e sz n : Nat} {cs : List Value} (h : Below w0.heap.size w0 w) (ho : w.ownsRow base e sz v n cs) (hb : w0.heap.size ≤ base) (hg : w.grownBy w' v.ownBlock) : Below w0.heap.size w0 w' :=
  h.grown hg h.size (fun k hk => Nat.le_trans hb (ho.lt k hk).1)
theorem cell_one (w : World) (x : Value) (e : TypeId) : (w.alloc (.cells #[x] e)).cell? ⟨w.heap.size, 0, none⟩ = some x := by
  rw [cell_of_cells (heap_alloc_new w _)]; rfl
theorem news_lit (w : World) (cs : List Value) (e : TypeId) : ∀ (j : Nat) (u : Value), cs[j]? = some u → (w.alloc (.cells cs.toArray e)).cell? ((⟨w.heap.size, 0, none⟩ : Addr).add j) = some u := by
  intro j u hj
  have h : (w.alloc (.cells cs.toArray e)).cell? ⟨w.heap.size, j, none⟩ = some u := by rw [cell_of_cells (heap_alloc_new w _)]; simpa using hj
  unfold Addr.add
  split
  · subst_vars; exact h
  · simpa using h
theorem oneCells_lit {cs : List Value} (h : cs.all Value.oneCell' = true) : ∀ u ∈ cs, u.oneCell' = true := by simpa using h
theorem owns_mono {w : World} {b b' e sz n : Nat} {v : Value} {cs : List Value} (h : w.ownsRow b e sz v n cs) (hb : b' ≤ b) : w.ownsRow b' e sz v n cs := by
  obtain ⟨hl, h⟩ := h
  refine ⟨hl, h.imp id ?_⟩
  rintro ⟨g, cap, cur, hv, hg, r⟩
  exact ⟨g, cap, cur, hv, Nat.le_trans hb hg, r⟩
/-- its length, for a loop's measure -/
def lenOf : Value → Nat | .slice _ n _ => n | _ => 0
/-- a slice literal of plain cells -/
theorem owns_lit (w : World) (cs : List Value) (e sz n : Nat) (hl : cs.length = n * sz) (hn : n ≤ maxLen) : (w.alloc (.cells cs.toArray e)).ownsRow w.heap.size e sz (.slice (some ⟨w.heap.size, 0, none⟩) n n) n cs :=
  ⟨hl, .inr ⟨w.heap.size, n, cs.toArray, rfl, Nat.le_refl _, heap_alloc_new w _, Nat.le_refl _, hn, by simpa using hl, by rw [← hl]; simp⟩⟩

/-- numbers as cells -/
abbrev U32 (n : Int) : Value := .int .u32 n

end Go.Proofs.YtfhmcahfjoliiaaDoor
