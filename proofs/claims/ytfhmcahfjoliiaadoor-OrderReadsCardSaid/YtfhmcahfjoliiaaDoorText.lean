/- bytes of a text -/
import Derived.Test.YtfhmcahfjoliiaaDoorIn
import Derived.Laws.RangeAny
namespace Go.Proofs.YtfhmcahfjoliiaaDoor
set_option linter.unusedSimpArgs false
set_option linter.unusedVariables false
open Go.RowKit
set_option maxRecDepth 20000

/-- the byte at k -/
def bat (s : ByteArray) (k : Nat) : Nat := if h : k < s.size then (s[k]'h).toNat else 0
theorem bat_eq {s : ByteArray} {k : Nat} (h : k < s.size) : (s[k]'h).toNat = bat s k := by simp [bat, h]
/-- is the byte at k a digit? -/
def digAt (s : ByteArray) (k : Nat) : Bool := inB (bat s k) 48 57
/-- the digit at k -/
def dgt (s : ByteArray) (k : Nat) : Int := (bat s k : Int) - 48
def allDig (s : ByteArray) (k : Nat) : Bool := (List.range k).all (digAt s)
theorem allDig_succ {s : ByteArray} {k : Nat} (h : allDig s k = true) (hk : digAt s k = true) : allDig s (k + 1) = true := by
  unfold allDig at *
  rw [List.range_succ, List.all_append, h]
  simp [hk]
theorem allDig_at {s : ByteArray} {n k : Nat} (h : allDig s n = true) (hk : k < n) : digAt s k = true := by
  unfold allDig at h
  rw [List.all_eq_true] at h
  exact h k (List.mem_range.2 hk)
theorem allDig_no {s : ByteArray} {n k : Nat} (hk : k < n) (h : digAt s k = false) : allDig s n = false := by
  rw [← Bool.not_eq_true]
  intro hh
  rw [allDig_at hh hk] at h
  cases h
theorem digAt_true {s : ByteArray} {k : Nat} : digAt s k = true ↔ 48 ≤ bat s k ∧ bat s k ≤ 57 := by
  unfold digAt; rw [inB_true]; omega
/-- ref.Digit -/
theorem Digit_any (n : Int) (w : World) : Calls Tryd.prog 24 #[.int .u8 n] w (Pure (.bool (inB n 48 57)) w) := by
  go_enter Tryd.func24, Tryd.ntmps24
  go_wp2
  all_goals
    go_ret
    refine Pure.intro ?_
    simp only [inB]
    simp [*]
    try omega

/-- what is wrong with a text of digits -/
def digsE (s : ByteArray) : Int := if s.size < 1 then 1 else if 200 < s.size then 1 else if allDig s s.size then 0 else 7
end Go.Proofs.YtfhmcahfjoliiaaDoor
