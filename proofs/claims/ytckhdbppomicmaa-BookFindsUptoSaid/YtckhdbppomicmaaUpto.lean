/- what the bound of the narrower form gives -/
import Derived.Test.YtckhdbppomicmaaLift
import Derived.Test.YtckhdbppomicmaaDecode
import Derived.JoinedCond
import Derived.Deep.CondSized
namespace Go.Proofs.Ytckhdbppomicmaa
open Go.ChangeShapes Go.WideShapes Go.ChangeAt Go.RowKit
set_option maxRecDepth 20000

theorem bulk_one {H : Type} (d : DataW H) : 1 ≤ Rows.uptoBulk d := by
  cases d with
  | lit l => cases l <;> simp [Rows.uptoBulk]
  | nil => simp [Rows.uptoBulk]
  | ptr d => simp [Rows.uptoBulk]
  | slice elems spare => simp [Rows.uptoBulk]
  | agg parts => simp [Rows.uptoBulk]
  | iface t d => simp [Rows.uptoBulk]
  | map entries => simp [Rows.uptoBulk]
  | held h => simp [Rows.uptoBulk]
theorem bulk_len {H : Type} (l : List (DataW H)) : l.length ≤ Rows.uptoBulkAll l := by
  induction l with
  | nil => simp [Rows.uptoBulkAll]
  | cons x r ih => have := bulk_one x; simp only [Rows.uptoBulkAll, List.length_cons]; omega
theorem bulk_part {H : Type} {d : DataW H} {l : List (DataW H)} (h : d ∈ l) : Rows.uptoBulk d ≤ Rows.uptoBulkAll l := by
  induction l with
  | nil => cases h
  | cons x r ih =>
    simp only [Rows.uptoBulkAll]
    cases List.mem_cons.1 h with
    | inl e => subst e; omega
    | inr e => have := ih e; omega
theorem bulk_bound {H : Type} {l : List (DataW H)} {d : DataW H} (hk : Rows.uptoSmall H l = true) (h : d ∈ l) : Rows.uptoBulk d ≤ 1048576 :=
  Nat.le_trans (bulk_part h) (of_decide_eq_true hk)
/-- a slice's length is within the bulk of its reading -/
theorem slice_bulk {P : Program} {H : Type} {enc : TypeId × Value → H} {W : World} {base : Nat} {f : Nat → Bool} {b : Bool} {t e : TypeId} {v : Value} {d : DataW H} {p : List MemPlace} {sz n : Nat} {cs : List Value} (ht : P.underlying t = some (.slice e))
    (h : DataW.Trod enc P W base f b t v d p) (hS : Sl W v sz n cs) : n ≤ Rows.uptoBulk d := by
  obtain ⟨a, cap, rfl, _⟩ := hS
  obtain ⟨fuel, hf⟩ := h
  rcases DataW.trod_slice ht hf with ⟨h1, h2⟩ | ⟨a', len, cap', elems, rest, m, _, h1, h2, _, _, _, hlen, _⟩
  · simp only [Value.cells] at h1
    simp at h1
    omega
  · simp only [Value.cells] at h1
    simp at h1
    simp only [Prod.mk.injEq] at h2
    obtain ⟨rfl, _⟩ := h2
    have := bulk_len (elems.map (·.1))
    rw [List.length_map] at this
    simp only [Rows.uptoBulk]
    omega
end Go.Proofs.Ytckhdbppomicmaa
