/- cell.Apply: the plain law -/
import Derived.Test.YtebcdabdnmeeaaaIn
import Derived.Test.YtebcdabdnmeeaaaApi
namespace Go.Proofs.Ytebcdabdnmeeaaa
open Go.RowKit
set_option maxRecDepth 20000

/-- the words behind the first k writes -/
def putsL (xs : List Int) (ws : List AWrite) : Nat → List Int
  | 0 => xs
  | k + 1 => (putsL xs ws k).set (ws.getD k default).at_.toNat (ws.getD k default).word
/-- the word at a place behind the first k writes -/
def lastI (xs : List Int) (ws : List AWrite) (at_ : Nat) : Nat → Int
  | 0 => xs.getD at_ 0
  | k + 1 => if (ws.getD k default).at_ = at_ then (ws.getD k default).word else lastI xs ws at_ k
theorem putsL_len (xs : List Int) (ws : List AWrite) : ∀ k, (putsL xs ws k).length = xs.length
  | 0 => rfl
  | k + 1 => by simp only [putsL, List.length_set]; exact putsL_len xs ws k
theorem puts_last (xs : List Int) (ws : List AWrite) (at_ : Nat) (ha : at_ < xs.length) : ∀ k, (∀ j, j < k → 0 ≤ (ws.getD j default).at_ ∧ (ws.getD j default).at_ < xs.length) → (putsL xs ws k).getD at_ 0 = lastI xs ws at_ k
  | 0, _ => rfl
  | k + 1, h => by
    have ih := puts_last xs ws at_ ha k (fun j hj => h j (by omega))
    obtain ⟨h0, h1⟩ := h k (by omega)
    simp only [putsL, lastI]
    generalize ws.getD k default = x at *
    rw [List.getD_eq_getElem?_getD, List.getElem?_set]
    by_cases he : x.at_ = at_
    · rw [if_pos he, if_pos (by omega), if_pos (by rw [putsL_len]; omega)]; rfl
    · rw [if_neg he, if_neg (by omega), ← List.getD_eq_getElem?_getD]; exact ih
theorem puts_map (xs : List Int) (ws : List AWrite) (k : Nat) (h : ∀ j, j < k → 0 ≤ (ws.getD j default).at_ ∧ (ws.getD j default).at_ < xs.length) : putsL xs ws k = (List.range xs.length).map fun a => lastI xs ws a k := by
  apply List.ext_getElem
  · simp [putsL_len]
  · intro i h1 h2
    rw [putsL_len] at h1
    have := puts_last xs ws i h1 k h
    rw [List.getD_eq_getElem?_getD, List.getElem?_eq_getElem (by rw [putsL_len]; exact h1)] at this
    simpa using this
/-- are the places of all writes there? -/
def atsOk (n : Nat) (ws : List AWrite) : Bool := ws.all fun x => inB x.at_ 0 ((n : Int) - 1)
theorem atsOk_at {n : Nat} {ws : List AWrite} (h : atsOk n ws = true) {j : Nat} (hj : j < ws.length) : 0 ≤ (ws.getD j default).at_ ∧ (ws.getD j default).at_ < n := by
  unfold atsOk at h
  rw [List.all_eq_true] at h
  have := inB_true.1 (h (ws.getD j default) (by rw [List.getD_eq_getElem?_getD, List.getElem?_eq_getElem hj]; exact List.getElem_mem hj))
  omega
theorem atsOk_no {n : Nat} {ws : List AWrite} {j : Nat} (hj : j < ws.length) (h : ¬ (0 ≤ (ws.getD j default).at_ ∧ (ws.getD j default).at_ < n)) : atsOk n ws = false := by
  rw [← Bool.not_eq_true]; intro hh; exact h (atsOk_at hh hj)
def applySz (n m : Nat) : Bool := decide (1 ≤ n ∧ n ≤ 2048 ∧ m ≤ 4096)
def applyOk (xs : List Int) (ws : List AWrite) (k : Int) : Bool := atsOk xs.length ws && inB k 0 ws.length
def applyE (xs : List Int) (ws : List AWrite) (k : Int) : Int := if applySz xs.length ws.length then (if applyOk xs ws k then 0 else 2) else 1
def applyL (xs : List Int) (ws : List AWrite) (k : Int) : List Int := if applyE xs ws k = 0 then putsL xs ws k.toNat else []
end Go.Proofs.Ytebcdabdnmeeaaa
