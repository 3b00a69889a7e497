/- ref.next: the next word of a line -/
import Derived.Test.YtfhmcahfjoliiaaDoorOrdNum
namespace Go.Proofs.YtfhmcahfjoliiaaDoor
set_option linter.unusedSimpArgs false
set_option linter.unusedVariables false
open Go Go.RowKit
set_option maxRecDepth 20000

def hasBl (r : ByteArray) : Bool := (Go.Lib.cut r.data.toList (⟨#[32]⟩ : ByteArray).data.toList).2.2
/-- what is left of a line from a place on -/
def frm (s : ByteArray) (a : Nat) : ByteArray := s.extract a s.size
theorem frm_list (s : ByteArray) (a : Nat) : (frm s a).data.toList = s.data.toList.drop a := by
  unfold frm
  have e : s.data.toList.length = s.size := Array.length_toList
  rw [Go.Lib.extract_data, List.take_of_length_le (by rw [List.length_drop]; omega)]
theorem noBlank_mid (s : ByteArray) (a i : Nat) (hi : i ≤ s.size) (h : ∀ j, a ≤ j → j < i → bat s j ≠ 32) : noBlank ((s.data.toList.drop a).take (i - a)) := by
  intro b hb e
  obtain ⟨j, hj⟩ := List.mem_iff_getElem?.1 hb
  rw [List.getElem?_take] at hj
  split at hj
  · rename_i hlt
    rw [List.getElem?_drop] at hj
    have := h (a + j) (by omega) (by omega)
    rw [bat_list, hj, e] at this
    exact this rfl
  · cases hj
theorem next_hit (s : ByteArray) (a i : Nat) (ha : a ≤ i) (hi : i < s.size) (hb : bat s i = 32) (h : ∀ j, a ≤ j → j < i → bat s j ≠ 32) : hdB (frm s a) = s.extract a i ∧ tlB (frm s a) = frm s (i + 1) ∧ hasBl (frm s a) = true := by
  have el : s.data.toList.length = s.size := Array.length_toList
  have hi' : i < s.data.toList.length := by omega
  have h32 : s.data.toList[i] = 32 := by
    rw [bat_list, List.getElem?_eq_getElem hi'] at hb
    exact UInt8.toNat_inj.1 hb
  have e : s.data.toList.drop a = (s.data.toList.drop a).take (i - a) ++ 32 :: s.data.toList.drop (i + 1) := by
    have e1 : s.data.toList.drop i = 32 :: s.data.toList.drop (i + 1) := by rw [List.drop_eq_getElem_cons hi', h32]
    rw [← e1, show i = a + (i - a) by omega, ← List.drop_drop, show a + (i - a) - a = i - a by omega, List.take_append_drop]
  unfold hdB tlB hasBl
  rw [frm_list, show (⟨#[32]⟩ : ByteArray).data.toList = [32] from rfl, e, cut_hit _ _ (noBlank_mid s a i (by omega) h)]
  refine ⟨?_, ?_, rfl⟩
  · apply ByteArray.ext
    apply Array.toList_inj.1
    rw [Go.Lib.extract_data]
  · apply ByteArray.ext
    apply Array.toList_inj.1
    rw [frm_list]
theorem next_miss (s : ByteArray) (a : Nat) (h : ∀ j, a ≤ j → j < s.size → bat s j ≠ 32) : hdB (frm s a) = frm s a ∧ tlB (frm s a) = ⟨#[]⟩ ∧ hasBl (frm s a) = false := by
  have el : s.data.toList.length = s.size := Array.length_toList
  have hn : noBlank (s.data.toList.drop a) := by
    have := noBlank_mid s a s.size (Nat.le_refl _) h
    rwa [List.take_of_length_le (by rw [List.length_drop]; omega)] at this
  unfold hdB tlB hasBl
  rw [frm_list, show (⟨#[32]⟩ : ByteArray).data.toList = [32] from rfl, cut_miss _ hn]
  refine ⟨?_, rfl, rfl⟩
  apply ByteArray.ext
  apply Array.toList_inj.1
  rw [frm_list]
def nxI (s : ByteArray) (a : Nat) : Int := if hasBl (frm s a) = true then (a : Int) + ((hdB (frm s a)).size : Int) + 1 else -1
set_option maxHeartbeats 1000000 in
theorem next_any (s : ByteArray) (a : Nat) (w : World) (ha : a ≤ s.size) (hs : s.size ≤ 200) : Calls Tryd.prog 11 #[.string s, I a] w (Pure (T2 (.string (hdB (frm s a))) (I (nxI s a))) w) := by
  go_enter Tryd.func11, Tryd.ntmps11
  go_wp2
  go_loop [6] (fun i => ∃ k : Nat, a ≤ k ∧ k ≤ s.size ∧ i = I k ∧ Hid (∀ j, a ≤ j → j < k → bat s j ≠ 32)) (fun i => s.size - (intOf i).toNat)
  case atStart => exact ⟨a, Nat.le_refl _, ha, rfl, fun j h1 h2 => by omega⟩
  case round =>
    obtain ⟨k, hak, hk, rfl, hno⟩ := hrel
    by_cases hlt : k < s.size
    · have hb := bat_eq hlt
      have j0 : (0 : Int) ≤ (k : Int) := by omega
      have j1 : (k : Int) < (s.size : Int) := by omega
      have j2 : (a : Int) ≤ (k : Int) := by omega
      have j3 : (0 : Int) ≤ (a : Int) := by omega
      by_cases h32 : bat s k = 32
      · obtain ⟨n1, n2, n3⟩ := next_hit s a k hak hlt h32 hno.out
        have HR := Lib.hid (show T2 (.string (s.extract a k)) (I ((k : Int) + 1)) = T2 (.string (hdB (frm s a))) (I (nxI s a)) by
          unfold nxI
          rw [n3, if_pos rfl, n1, ByteArray.size_extract, show (a : Int) + ((min k s.size - a : Nat) : Int) + 1 = (k : Int) + 1 by omega])
        rw [h32] at hb
        clear hno n1 n2 n3 h32
        go_wp2
        go_ret2
        exact Pure.intro HR.out
      · have HN := Lib.hid (show ∀ j, a ≤ j → j < k + 1 → bat s j ≠ 32 from fun j h1 h2 => by
          by_cases e : j = k
          · subst e; exact h32
          · exact hno.out j h1 (by omega))
        have h32' : ¬ ((bat s k : Nat) : Int) = 32 := by omega
        clear hno
        generalize bat s k = bk at *
        go_wp2
        go_round
        case rel => exact ⟨k + 1, by omega, by omega, by go_num, HN.out⟩
        case measure => simp [intOf]; omega
    · obtain rfl : k = s.size := by omega
      obtain ⟨n1, n2, n3⟩ := next_miss s a hno.out
      have HR := Lib.hid (show T2 (.string (s.extract a s.size)) (I (-1)) = T2 (.string (hdB (frm s a))) (I (nxI s a)) by
        unfold nxI
        rw [n3, n1]; rfl)
      have j2 : (a : Int) ≤ (s.size : Int) := by omega
      have j3 : (0 : Int) ≤ (a : Int) := by omega
      clear hno n1 n2 n3
      go_wp2
      go_ret2
      exact Pure.intro HR.out
end Go.Proofs.YtfhmcahfjoliiaaDoor
