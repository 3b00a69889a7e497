/- what a text of an amount says: plain -/
import Derived.Test.YtmciccnmpoijdaaTexts
namespace Go.Proofs.Ytmciccnmpoijdaa
open Go.RowKit
set_option maxRecDepth 20000

/-- the number that the first k of some digits spell, no more than one beyond the greatest -/
def capN (f : Nat → Nat) : Nat → Int
  | 0 => 0
  | k + 1 => min (10 * capN f k + ((f k : Int) - 48)) 1000000000001
theorem capN_congr {f g : Nat → Nat} : ∀ {k : Nat}, (∀ j, j < k → f j = g j) → capN f k = capN g k
  | 0, _ => rfl
  | k + 1, h => by rw [capN, capN, capN_congr (k := k) (fun j hj => h j (by omega)), h k (by omega)]
theorem capN_bd {f : Nat → Nat} : ∀ {k : Nat}, (∀ j, j < k → 48 ≤ f j ∧ f j ≤ 57) → 0 ≤ capN f k ∧ capN f k ≤ 1000000000001
  | 0, _ => by simp [capN]
  | k + 1, h => by
    have h1 := capN_bd (f := f) (k := k) (fun j hj => h j (by omega))
    have h2 := h k (by omega)
    rw [capN]
    omega
/-- where the digits begin -/
def cfr (s : ByteArray) : Nat := if 0 < s.size ∧ bat s 0 = 45 then 1 else 0
theorem cfr_le (s : ByteArray) : cfr s ≤ s.size := by unfold cfr; split <;> omega
def cform (s : ByteArray) : Bool := decide (4 ≤ s.size - cfr s ∧ bat s (s.size - 3) = 46 ∧ ¬ (bat s (cfr s) = 48 ∧ 4 < s.size - cfr s))
/-- the k-th digit -/
def cdig (s : ByteArray) (k : Nat) : Nat := bat s (cfr s + if k < s.size - cfr s - 3 then k else k + 1)
def cdigs (s : ByteArray) : Bool := (List.range (s.size - cfr s - 1)).all fun k => inB (cdig s k) 48 57
def cval (s : ByteArray) : Int := capN (cdig s) (s.size - cfr s - 1)
def centsE (s : ByteArray) : Int := if 20 < s.size then 1 else if cform s && cdigs s then (if cfr s = 1 ∧ cval s = 0 then 3 else if 1000000000000 < cval s then 2 else 0) else 3
def centsV (s : ByteArray) : Int := if centsE s = 0 then (if cfr s = 1 then - cval s else cval s) else 0
theorem centsE_bad {s : ByteArray} (h : ¬ 20 < s.size) (hb : cform s = false ∨ cdigs s = false) : centsE s = 3 := by
  unfold centsE
  rw [if_neg h, if_neg]
  rcases hb with hb | hb <;> simp [hb]
theorem cdigs_true {s : ByteArray} : cdigs s = true ↔ ∀ k, k < s.size - cfr s - 1 → 48 ≤ cdig s k ∧ cdig s k ≤ 57 := by
  unfold cdigs
  rw [List.all_eq_true]
  constructor
  · intro h k hk
    have := h k (List.mem_range.2 hk)
    rw [inB_true] at this
    omega
  · intro h k hk
    have := h k (List.mem_range.1 hk)
    rw [inB_true]
    omega
theorem cdigs_no {s : ByteArray} {k : Nat} (hk : k < s.size - cfr s - 1) (h : ¬ (48 ≤ cdig s k ∧ cdig s k ≤ 57)) : cdigs s = false := by
  rw [← Bool.not_eq_true, cdigs_true]
  intro hh
  exact h (hh k hk)
/-- the body behind a sign -/
def cbody (s : ByteArray) : ByteArray := if cfr s = 1 then s.extract 1 s.size else s
theorem cbody_size (s : ByteArray) : (cbody s).size = s.size - cfr s := by
  unfold cbody
  split
  · rename_i h; rw [size_extract _ _ _ (Nat.le_refl _), h]
  · rename_i h
    have : cfr s = 0 := by unfold cfr at h ⊢; split <;> simp_all
    rw [this]; rfl
theorem cbody_at (s : ByteArray) (k : Nat) (hk : k < s.size - cfr s) : bat (cbody s) k = bat s (cfr s + k) := by
  unfold cbody
  split
  · rename_i h; rw [bat_extract _ _ _ _ (Nat.le_refl _) (by omega), h]
  · rename_i h
    have : cfr s = 0 := by unfold cfr at h ⊢; split <;> simp_all
    rw [this, Nat.zero_add]
/-- no point, or one that does not stand third from the end -/
theorem cents_nopoint {s : ByteArray} (hs : ¬ 20 < s.size) (h : ∀ j, j < (cbody s).size → bat (cbody s) j ≠ 46) : centsE s = 3 := by
  apply centsE_bad hs
  left
  rw [← Bool.not_eq_true]
  intro hf
  unfold cform at hf
  rw [decide_eq_true_eq] at hf
  obtain ⟨h1, h2, _⟩ := hf
  rw [cbody_size] at h
  have h3 := h (s.size - cfr s - 3) (by omega)
  rw [cbody_at _ _ (by omega)] at h3
  exact h3 (by rw [← h2]; congr 1; omega)
theorem cents_point {s : ByteArray} {i : Nat} (hs : ¬ 20 < s.size) (hi : i < (cbody s).size) (h : bat (cbody s) i = 46) (hn : ∀ j, j < i → bat (cbody s) j ≠ 46)
    (hb : i = 0 ∨ (cbody s).size ≠ i + 3 ∨ 1 < i ∧ bat (cbody s) 0 = 48) : centsE s = 3 := by
  apply centsE_bad hs
  rw [cbody_size] at hi hb
  rw [cbody_at _ _ hi] at h
  by_cases hf : cform s = true
  · right
    unfold cform at hf
    rw [decide_eq_true_eq] at hf
    obtain ⟨h1, h2, h3⟩ := hf
    have hle : i ≤ s.size - cfr s - 3 := by
      by_cases hc : s.size - cfr s - 3 < i
      · have := hn _ hc
        rw [cbody_at _ _ (by omega)] at this
        exact absurd (by rw [← h2]; congr 1; omega) this
      · omega
    by_cases he : i = s.size - cfr s - 3
    · exfalso
      rcases hb with hb | hb | hb
      · omega
      · omega
      · rw [cbody_at _ _ (by omega), Nat.add_zero] at hb
        exact h3 ⟨hb.2, by omega⟩
    · apply cdigs_no (k := i) (by omega)
      unfold cdig
      rw [if_pos (by omega), h]
      omega
  · left; simpa using hf
/-- the two pieces side by side -/
def ctext (s : ByteArray) : ByteArray := (cbody s).extract 0 ((cbody s).size - 3) ++ (cbody s).extract ((cbody s).size - 3 + 1) (cbody s).size
theorem ctext_size {s : ByteArray} (h : 4 ≤ (cbody s).size) : (ctext s).size = s.size - cfr s - 1 := by
  unfold ctext
  rw [ByteArray.size_append, size_extract _ _ _ (by omega), size_extract _ _ _ (Nat.le_refl _), cbody_size]
  rw [cbody_size] at h
  omega
theorem ctext_at {s : ByteArray} (h : 4 ≤ (cbody s).size) {k : Nat} (hk : k < (ctext s).size) : bat (ctext s) k = cdig s k := by
  rw [ctext_size h] at hk
  have hm := cbody_size s
  unfold ctext cdig
  rw [bat_append, size_extract _ _ _ (by omega)]
  by_cases hc : k < s.size - cfr s - 3
  · rw [if_pos (by omega), if_pos hc, bat_extract _ _ _ _ (by omega) (by omega), Nat.zero_add, cbody_at _ _ (by omega)]
  · rw [if_neg (by omega), if_neg hc, bat_extract _ _ _ _ (Nat.le_refl _) (by omega), cbody_at _ _ (by omega)]
    congr 1; omega
theorem cform_true {s : ByteArray} {i : Nat} (hi : i < (cbody s).size) (h : bat (cbody s) i = 46) (h0 : i ≠ 0) (hl : (cbody s).size = i + 3) (hz : ¬ (1 < i ∧ bat (cbody s) 0 = 48)) : cform s = true := by
  rw [cbody_size] at hi hl
  rw [cbody_at _ _ hi] at h
  rw [cbody_at _ _ (by omega)] at hz
  unfold cform
  rw [decide_eq_true_eq]
  refine ⟨by omega, by rw [← h]; congr 1; omega, ?_⟩
  rintro ⟨h1, h2⟩
  exact hz ⟨by omega, h1⟩
end Go.Proofs.Ytmciccnmpoijdaa
