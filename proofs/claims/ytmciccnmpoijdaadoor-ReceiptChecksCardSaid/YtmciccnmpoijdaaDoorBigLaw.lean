/- great numbers as lists of words, the least first: the plain laws -/
import Derived.Test.YtmciccnmpoijdaaDoorSlice
namespace Go.Proofs.YtmciccnmpoijdaaDoor
open Go.RowKit
set_option maxRecDepth 20000

def val : List Nat → Nat
  | [] => 0
  | d :: l => d + 4294967296 * val l
theorem val_append : ∀ l r : List Nat, val (l ++ r) = val l + 4294967296 ^ l.length * val r
  | [], r => by simp [val]
  | d :: l, r => by
    simp only [List.cons_append, val, List.length_cons]
    rw [val_append l r, Nat.pow_succ, Nat.mul_add, Nat.mul_comm (4294967296 ^ l.length) 4294967296, Nat.mul_assoc]
    omega
def allW (l : List Nat) : Prop := ∀ d ∈ l, d < 4294967296
theorem val_lt : ∀ {l : List Nat}, allW l → val l < 4294967296 ^ l.length
  | [], _ => by simp [val]
  | d :: l, h => by
    have h1 := h d (by simp)
    have h2 := val_lt (l := l) (fun x hx => h x (by simp [hx]))
    simp only [val, List.length_cons]
    rw [Nat.pow_succ]
    omega
/-- the words of n, without a nought at the end -/
def Can (l : List Nat) (n : Nat) : Prop := val l = n ∧ allW l ∧ (∀ k, l.length = k + 1 → l.getD k 0 ≠ 0)
theorem allW_take {l : List Nat} (h : allW l) (k : Nat) : allW (l.take k) := fun d hd => h d (List.mem_of_mem_take hd)
/-- one word fewer where it is nought -/
theorem val_take {l : List Nat} {q : Nat} (hq : q < l.length) (h0 : l.getD q 0 = 0) : val (l.take (q + 1)) = val (l.take q) := by
  rw [List.take_add_one, List.getElem?_eq_getElem hq, val_append]
  rw [List.getD_eq_getElem?_getD, List.getElem?_eq_getElem hq] at h0
  simp only [Option.getD_some] at h0
  simp [h0, val]
theorem can_take {l : List Nat} (h : allW l) {q : Nat} (hq : q ≤ l.length) (hv : val (l.take q) = val l) (hl : ∀ k, q = k + 1 → l.getD k 0 ≠ 0) : Can (l.take q) (val l) := by
  refine ⟨hv, allW_take h q, fun k hk => ?_⟩
  rw [List.length_take] at hk
  have hqk : q = k + 1 := by omega
  have := hl k hqk
  rw [List.getD_eq_getElem?_getD, List.getElem?_take, if_pos (by omega), ← List.getD_eq_getElem?_getD]
  exact this
theorem can_zero {l : List Nat} (h : Can l 0) : l = [] := by
  obtain ⟨h1, h2, h3⟩ := h
  cases l with
  | nil => rfl
  | cons d r =>
    exfalso
    have hk := h3 r.length (by simp)
    have : ∀ (l : List Nat) (k : Nat), val l = 0 → l.getD k 0 = 0 := by
      intro l
      induction l with
      | nil => intro k _; simp
      | cons a l ih =>
        intro k hv
        simp only [val] at hv
        cases k with
        | zero => simp; omega
        | succ k => have := ih k (by omega); simpa using this
    exact hk (this _ _ h1)
/-- so many words at the most -/
theorem can_len {l : List Nat} {n k : Nat} (h : Can l n) (hn : n < 4294967296 ^ k) : l.length ≤ k := by
  refine Decidable.byContradiction fun hc => ?_
  obtain ⟨h1, h2, h3⟩ := h
  obtain ⟨m, hm⟩ : ∃ m, l.length = m + 1 := ⟨l.length - 1, by omega⟩
  have hlast := h3 m hm
  have e : l = l.take m ++ [l.getD m 0] := by
    have := List.take_add_one (l := l) (i := m)
    rw [List.take_of_length_le (by omega)] at this
    rw [List.getD_eq_getElem?_getD]
    rw [List.getElem?_eq_getElem (by omega)] at this ⊢
    exact this
  have hv : val l = val (l.take m) + 4294967296 ^ m * l.getD m 0 := by
    conv => lhs; rw [e]
    rw [val_append, List.length_take, Nat.min_eq_left (by omega)]
    simp [val]
  have h5 : 4294967296 ^ k ≤ 4294967296 ^ m := Nat.pow_le_pow_right (by decide) (by omega)
  have h6 : 4294967296 ^ m * 1 ≤ 4294967296 ^ m * l.getD m 0 := Nat.mul_le_mul_left _ (by omega)
  omega

/-- words as cells -/
def wcells (l : List Nat) : List Value := l.map fun (d : Nat) => U32 d
theorem wcells_len (l : List Nat) : (wcells l).length = l.length := by simp [wcells]
/-- v reads as the words of n -/
def Abs (w : World) (v : Value) (n : Nat) : Prop := ∃ l : List Nat, Sl w v 1 l.length (wcells l) ∧ Can l n
theorem Abs.below {w w' : World} {v : Value} {n : Nat} (h : Abs w v n) (hb : Below w.heap.size w w') : Abs w' v n := by
  obtain ⟨l, h1, h2⟩ := h; exact ⟨l, h1.below hb, h2⟩
/-- the call returns the words of n, in new memory -/
def GrewAbs (n : Nat) (w : World) (e : Ending) (w' : World) : Prop := ∃ v, e = .returned v ∧ Abs w' v n ∧ Below w.heap.size w w'
end Go.Proofs.YtmciccnmpoijdaaDoor
