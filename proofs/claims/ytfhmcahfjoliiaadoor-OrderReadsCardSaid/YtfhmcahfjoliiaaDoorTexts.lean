/- pieces of texts: bytes of a cut, of two texts side by side; strings.Cut and strings.CutPrefix at one byte -/
import Derived.Test.YtfhmcahfjoliiaaDoorText
import Derived.Lib.CutLaws
import Derived.Lib.IndexBytes
namespace Go.Proofs.YtfhmcahfjoliiaaDoor
set_option linter.unusedSimpArgs false
set_option linter.unusedVariables false
open Go.RowKit
set_option maxRecDepth 20000

theorem bat_list (s : ByteArray) (k : Nat) : bat s k = (s.data.toList[k]?.map UInt8.toNat).getD 0 := by
  unfold bat
  by_cases h : k < s.size
  · have h' : k < s.data.toList.length := by rw [Array.length_toList]; exact h
    rw [dif_pos h, List.getElem?_eq_getElem h']
    simp [ByteArray.getElem_eq_getElem_data]
  · have h' : s.data.toList.length ≤ k := by rw [Array.length_toList]; exact Nat.le_of_not_lt h
    rw [dif_neg h, List.getElem?_eq_none h']
    rfl
theorem bat_append (a b : ByteArray) (k : Nat) : bat (a ++ b) k = if k < a.size then bat a k else bat b (k - a.size) := by
  have e : a.size = a.data.toList.length := Array.length_toList.symm
  rw [bat_list, ByteArray.data_append, Array.toList_append]
  by_cases h : k < a.size
  · rw [if_pos h, bat_list, List.getElem?_append_left (by omega)]
  · rw [if_neg h, bat_list, List.getElem?_append_right (by omega), e]
end Go.Proofs.YtfhmcahfjoliiaaDoor
