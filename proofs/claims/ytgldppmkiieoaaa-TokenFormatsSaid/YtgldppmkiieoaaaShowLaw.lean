/- decimal digits of a number: the plain laws -/
import Derived.Test.YtgldppmkiieoaaaWordsLaw
import Derived.Lib.SlBytesRow
namespace Go.Proofs.Ytgldppmkiieoaaa
open Go.RowKit
set_option maxRecDepth 20000

theorem owns_kept {w w' : World} {b e sz n : Nat} {v : Value} {cs : List Value} (h : w.ownsRow b e sz v n cs) (hb : Below w.heap.size w w') : w'.ownsRow b e sz v n cs := by
  obtain ⟨hl, h⟩ := h
  refine ⟨hl, h.imp id ?_⟩
  rintro ⟨g, cap, cur, hv, hg, hh, r⟩
  exact ⟨g, cap, cur, hv, hg, (hb.block g (Array.getElem?_eq_some_iff.1 hh).1).trans hh, r⟩

def dig (N j : Nat) : Nat := 48 + N / 10 ^ j % 10
theorem dig_lt (N j : Nat) : dig N j < 58 := by unfold dig; omega
/-- the lowest L digits as bytes, the least first -/
def digB (N L : Nat) : List Nat := (List.range L).map (dig N)
theorem digB_len (N L : Nat) : (digB N L).length = L := by simp [digB]
theorem digB_succ (N L : Nat) : digB N (L + 1) = digB N L ++ [dig N L] := by simp [digB, List.range_succ]
/-- so many digits are shown -/
def IsLen (N L : Nat) : Prop := 1 ≤ L ∧ N / 10 ^ L = 0 ∧ (L = 1 ∨ N / 10 ^ (L - 1) ≠ 0)
theorem div_more {N a b : Nat} (h : N / 10 ^ a = 0) (hab : a ≤ b) : N / 10 ^ b = 0 := by
  obtain ⟨d, rfl⟩ : ∃ d, b = a + d := ⟨b - a, by omega⟩
  rw [Nat.pow_add, ← Nat.div_div_eq_div_mul, h, Nat.zero_div]
theorem IsLen.unique {N L L' : Nat} (h : IsLen N L) (h' : IsLen N L') : L = L' := by
  obtain ⟨a1, a2, a3⟩ := h
  obtain ⟨b1, b2, b3⟩ := h'
  rcases Nat.lt_trichotomy L L' with h1 | h1 | h1
  · rcases b3 with b3 | b3
    · omega
    · exact absurd (div_more a2 (show L ≤ L' - 1 by omega)) b3
  · exact h1
  · rcases a3 with a3 | a3
    · omega
    · exact absurd (div_more b2 (show L' ≤ L - 1 by omega)) a3
theorem IsLen.le {N L m : Nat} (h : IsLen N L) (hN : N < 10 ^ m) (hm : 1 ≤ m) : L ≤ m := by
  rcases h.2.2 with h1 | h1
  · omega
  · refine Decidable.byContradiction fun hc => h1 (div_more (Nat.div_eq_of_lt hN) (by omega))
/-- the digits as a text, the highest first -/
def showB (N L : Nat) : ByteArray := ⟨((List.range L).map fun p => UInt8.ofNat (dig N (L - 1 - p))).toArray⟩
theorem showB_size (N L : Nat) : (showB N L).size = L := by
  show (((List.range L).map fun p => UInt8.ofNat (dig N (L - 1 - p))).toArray).size = L
  simp
theorem showB_at {N L k : Nat} (h : k < (showB N L).size) : ((showB N L)[k]'h).toNat = dig N (L - 1 - k) := by
  have hk : k < L := by rwa [showB_size] at h
  have e : ∀ (A : Array UInt8) (hA : k < A.size), A = ((List.range L).map fun p => UInt8.ofNat (dig N (L - 1 - p))).toArray → A[k]'hA = UInt8.ofNat (dig N (L - 1 - k)) := by
    rintro A hA rfl
    simp
  refine (congrArg UInt8.toNat (e (showB N L).data h rfl)).trans ?_
  have := dig_lt N (L - 1 - k)
  simp; omega
def GrewShow (N : Nat) (w : World) (e : Ending) (w' : World) : Prop := ∃ L, IsLen N L ∧ e = .returned (.string (showB N L)) ∧ Below w.heap.size w w'
/-- the digits with the outer i of each end exchanged -/
def revMix (N L i : Nat) : List Value := (List.range L).map fun p => .int .u8 ((dig N (if p < i ∨ L ≤ p + i then L - 1 - p else p) : Nat) : Int)
theorem revMix_len (N L i : Nat) : (revMix N L i).length = L := by simp [revMix]
theorem revMix_at {N L i p : Nat} (h : p < L) : (revMix N L i).getD p undef = .int .u8 ((dig N (if p < i ∨ L ≤ p + i then L - 1 - p else p) : Nat) : Int) := by
  simp [revMix, List.getD_eq_getElem?_getD, h]
def bytesD (N L : Nat) : List Value := (digB N L).map fun (d : Nat) => .int .u8 (d : Int)
theorem bytesD_succ (N L : Nat) : bytesD N (L + 1) = bytesD N L ++ [.int .u8 ((dig N L : Nat) : Int)] := by simp [bytesD, digB_succ]
theorem revMix_zero (N L : Nat) : revMix N L 0 = bytesD N L := by
  unfold revMix bytesD digB
  rw [List.map_map]
  apply List.map_congr_left
  intro p hp
  rw [List.mem_range] at hp
  rw [if_neg (by omega)]
  rfl
theorem revMix_succ {N L i : Nat} (h : 2 * i + 1 < L) : ((revMix N L i).set i (.int .u8 ((dig N (L - 1 - i) : Nat) : Int))).set (L - 1 - i) (.int .u8 ((dig N i : Nat) : Int)) = revMix N L (i + 1) := by
  apply List.ext_getElem?
  intro p
  by_cases hp : p < L
  · rw [List.getElem?_set, List.getElem?_set]
    simp only [revMix, List.length_set, List.length_map, List.length_range, List.getElem?_map, List.getElem?_range hp, Option.map_some]
    by_cases h1 : L - 1 - i = p
    · rw [if_pos h1, if_pos (by omega)]
      rw [if_pos (by omega), show L - 1 - p = i by omega]
    · rw [if_neg h1]
      by_cases h2 : i = p
      · rw [if_pos h2, if_pos (by omega)]
        rw [if_pos (by omega), ← h2]
      · rw [if_neg h2]
        by_cases h3 : p < i ∨ L ≤ p + i
        · rw [if_pos h3, if_pos (by omega)]
        · rw [if_neg h3, if_neg (by omega)]
  · rw [List.getElem?_eq_none (by simp [revMix_len]; omega), List.getElem?_eq_none (by simp [revMix_len]; omega)]
theorem revMix_done {N L i : Nat} (h : L ≤ 2 * i + 1) (p : Nat) (hp : p < L) : (revMix N L i).getD p undef = .int .u8 ((dig N (L - 1 - p) : Nat) : Int) := by
  rw [revMix_at hp]
  by_cases h3 : p < i ∨ L ≤ p + i
  · rw [if_pos h3]
  · rw [if_neg h3, show L - 1 - p = p by omega]
theorem show_bytes {w : World} {g N L i : Nat} (h : L ≤ 2 * i + 1) (hO : Own w g (revMix N L i)) : Go.Lib.Bytes w g 0 (showB N L) := by
  intro k hk
  have hk' : k < L := by rwa [showB_size] at hk
  rw [hO.cell k (by rw [revMix_len]; exact hk'), revMix_done h k hk', showB_at hk]
end Go.Proofs.Ytgldppmkiieoaaa
