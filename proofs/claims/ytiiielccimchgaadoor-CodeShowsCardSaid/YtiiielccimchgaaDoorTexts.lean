/- pieces of texts: bytes of a cut, of two texts side by side; strings.Cut and strings.CutPrefix at one byte -/
import Derived.Test.YtiiielccimchgaaDoorText
import Derived.Lib.CutLaws
import Derived.Lib.IndexBytes
namespace Go.Proofs.YtiiielccimchgaaDoor
open Go.RowKit
set_option maxRecDepth 20000

theorem bat_list (s : ByteArray) (k : Nat) : bat s k = (s.data.toList[k]?.map UInt8.toNat).getD 0 := by
  unfold bat
  by_cases h : k < s.size
  · have h' : k < s.data.toList.length := by rw [Array.length_toList]; exact h
    rw [dif_pos h, List.getElem?_eq_getElem h']
    simp [ByteArray.getElem_eq_getElem_data]
  · have h' : s.data.toList.length ≤ k := by rw [Array.length_toList]; exact Nat.le_of_not_lt h
    rw [dif_neg h, List.getElem?_eq_none h']
    rfl
theorem bat_ge {s : ByteArray} {k : Nat} (h : s.size ≤ k) : bat s k = 0 := by unfold bat; rw [dif_neg (by omega)]
theorem bat_extract (s : ByteArray) (a b k : Nat) (_hb : b ≤ s.size) (h : a + k < b) : bat (s.extract a b) k = bat s (a + k) := by
  rw [bat_list, bat_list, Go.Lib.extract_data, List.getElem?_take, if_pos (by omega), List.getElem?_drop]
theorem bat_append (a b : ByteArray) (k : Nat) : bat (a ++ b) k = if k < a.size then bat a k else bat b (k - a.size) := by
  have e : a.size = a.data.toList.length := Array.length_toList.symm
  rw [bat_list, ByteArray.data_append, Array.toList_append]
  by_cases h : k < a.size
  · rw [if_pos h, bat_list, List.getElem?_append_left (by omega)]
  · rw [if_neg h, bat_list, List.getElem?_append_right (by omega), e]
theorem size_extract (s : ByteArray) (a b : Nat) (hb : b ≤ s.size) : (s.extract a b).size = b - a := by rw [ByteArray.size_extract]; omega
theorem bat_ext {a b : ByteArray} (hs : a.size = b.size) (h : ∀ k, k < a.size → bat a k = bat b k) : a = b := by
  apply ByteArray.ext
  apply Array.ext
  · exact hs
  · intro i h1 h2
    have := h i h1
    unfold bat at this
    rw [dif_pos (show i < a.size from h1), dif_pos (show i < b.size from h2)] at this
    exact UInt8.toNat_inj.1 this

theorem occ1 (s : ByteArray) (c : UInt8) (j : Nat) : Go.Lib.occAt s.data.toList [c] j = true ↔ j < s.size ∧ bat s j = c.toNat := by
  unfold Go.Lib.occAt
  rw [List.isPrefixOf_iff_prefix]
  by_cases h : j < s.size
  · have h' : j < s.data.toList.length := by rw [Array.length_toList]; exact h
    rw [List.drop_eq_getElem_cons h']
    have hb : bat s j = (s.data.toList[j]'h').toNat := by rw [bat_list, List.getElem?_eq_getElem h']; rfl
    constructor
    · rintro ⟨r, hr⟩
      have : c = s.data.toList[j]'h' := by injection hr
      exact ⟨h, by rw [hb, this]⟩
    · rintro ⟨_, h2⟩
      have : c = s.data.toList[j]'h' := UInt8.toNat_inj.1 (by rw [← h2, hb])
      exact ⟨_, by rw [this]; rfl⟩
  · have h' : s.data.toList.length ≤ j := by rw [Array.length_toList]; exact Nat.le_of_not_lt h
    rw [List.drop_eq_nil_of_le h']
    constructor
    · rintro ⟨r, hr⟩; simp at hr
    · rintro ⟨h2, _⟩; omega
/-- the first place of a byte -/
theorem index1 (s : ByteArray) (c : UInt8) : (Go.Lib.index s.data.toList [c] = -1 ∧ ∀ j, j < s.size → bat s j ≠ c.toNat) ∨ ∃ i : Nat, Go.Lib.index s.data.toList [c] = i ∧ i < s.size ∧ bat s i = c.toNat ∧ ∀ j, j < i → bat s j ≠ c.toNat := by
  rcases Go.Lib.index_spec s.data.toList [c] with ⟨h, hn⟩ | ⟨i, h, hi, ho, hn⟩
  · refine .inl ⟨h, fun j hj he => ?_⟩
    have := hn j (by rw [Array.length_toList]; exact Nat.le_of_lt hj)
    rw [(occ1 s c j).2 ⟨hj, he⟩] at this
    cases this
  · obtain ⟨h1, h2⟩ := (occ1 s c i).1 ho
    refine .inr ⟨i, h, h1, h2, fun j hj he => ?_⟩
    have := hn j hj
    rw [(occ1 s c j).2 ⟨by omega, he⟩] at this
    cases this
/-- strings.Cut at one byte, cell by cell -/
theorem cut1_miss (s : ByteArray) (c : UInt8) (h : Go.Lib.index s.data.toList [c] = -1) :
    (⟨(Go.Lib.cut s.data.toList [c]).1.toArray⟩ : ByteArray) = s ∧ (⟨(Go.Lib.cut s.data.toList [c]).2.1.toArray⟩ : ByteArray) = ⟨#[]⟩ ∧ (Go.Lib.cut s.data.toList [c]).2.2 = false :=
  Go.Lib.cutB_miss s ⟨#[c]⟩ h
theorem cut1_hit (s : ByteArray) (c : UInt8) (i : Nat) (h : Go.Lib.index s.data.toList [c] = i) :
    (⟨(Go.Lib.cut s.data.toList [c]).1.toArray⟩ : ByteArray) = s.extract 0 i ∧ (⟨(Go.Lib.cut s.data.toList [c]).2.1.toArray⟩ : ByteArray) = s.extract (i + 1) s.size ∧ (Go.Lib.cut s.data.toList [c]).2.2 = true :=
  Go.Lib.cutB_hit s ⟨#[c]⟩ i h
theorem pre1_yes (s : ByteArray) (c : UInt8) (h : 0 < s.size) (hc : bat s 0 = c.toNat) : (⟨(Go.Lib.trimPrefix s.data.toList [c]).toArray⟩ : ByteArray) = s.extract 1 s.size ∧ Go.Lib.hasPrefix s.data.toList [c] = true := by
  have hp : Go.Lib.hasPrefix s.data.toList [c] = true := by
    have := (occ1 s c 0).2 ⟨h, hc⟩
    unfold Go.Lib.occAt at this
    rwa [List.drop_zero] at this
  refine ⟨?_, hp⟩
  rw [Go.Lib.trimPrefix, if_pos hp]
  apply ByteArray.ext
  apply Array.toList_inj.1
  rw [Go.Lib.extract_to_end]
  rfl
theorem pre1_no (s : ByteArray) (c : UInt8) (h : ¬ (0 < s.size ∧ bat s 0 = c.toNat)) : (⟨(Go.Lib.trimPrefix s.data.toList [c]).toArray⟩ : ByteArray) = s ∧ Go.Lib.hasPrefix s.data.toList [c] = false := by
  have hp : Go.Lib.hasPrefix s.data.toList [c] = false := by
    rw [← Bool.not_eq_true]
    intro hh
    exact h ((occ1 s c 0).1 (by unfold Go.Lib.occAt; rwa [List.drop_zero]))
  refine ⟨?_, hp⟩
  rw [Go.Lib.trimPrefix, if_neg (by rw [hp]; decide)]
end Go.Proofs.YtiiielccimchgaaDoor
