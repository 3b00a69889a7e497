/- pieces of texts: bytes of a cut, of two texts side by side; strings.Cut and strings.CutPrefix at one byte -/
import Derived.Test.YtdjgcenjonegjaaGreatDoorPk08
import Derived.Lib.CutLaws
import Derived.Lib.IndexBytes
set_option maxRecDepth 20000
set_option maxHeartbeats 8000000
set_option linter.unusedSimpArgs false
set_option linter.unusedVariables false
namespace Go.Proofs.YtdjgcenjonegjaaGreatDoor
open Go.RowKit

theorem bat_list (s : ByteArray) (k : Nat) : bat s k = (s.data.toList[k]?.map UInt8.toNat).getD 0 := by
  unfold bat
  by_cases h : k < s.size
  · have h' : k < s.data.toList.length := by rw [Array.length_toList]; exact h
    rw [dif_pos h, List.getElem?_eq_getElem h']; simp [ByteArray.getElem_eq_getElem_data]
  · have h' : s.data.toList.length ≤ k := by rw [Array.length_toList]; exact Nat.le_of_not_lt h
    rw [dif_neg h, List.getElem?_eq_none h']
    rfl
theorem bat_extract (s : ByteArray) (a b k : Nat) (_hb : b ≤ s.size) (h : a + k < b) : bat (s.extract a b) k = bat s (a + k) := by
  rw [bat_list, bat_list, Go.Lib.extract_data, List.getElem?_take, if_pos (by omega), List.getElem?_drop]
theorem size_extract (s : ByteArray) (a b : Nat) (hb : b ≤ s.size) : (s.extract a b).size = b - a := by rw [ByteArray.size_extract]; omega
end Go.Proofs.YtdjgcenjonegjaaGreatDoor
