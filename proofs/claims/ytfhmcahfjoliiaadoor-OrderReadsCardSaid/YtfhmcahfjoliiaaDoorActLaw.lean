/- ref.ActShown: what it answers -/
import Derived.Test.YtfhmcahfjoliiaaDoorActWord
import Derived.Test.YtfhmcahfjoliiaaDoorOwn
import Derived.Deep.DeepCutAuto
import Derived.Lib.QuietBelow
import Derived.Deep.RegionWith
namespace Go.Proofs.YtfhmcahfjoliiaaDoor
set_option linter.unusedSimpArgs false
set_option linter.unusedVariables false
open Go Go.RowKit
set_option maxRecDepth 20000
/-- a line's end in a text -/
def nlIn (s : ByteArray) : Bool := (List.range s.size).any fun k => decide (bat s k = 10)
theorem nlIn_true {s : ByteArray} {k : Nat} (hk : k < s.size) (h : bat s k = 10) : nlIn s = true := by
  unfold nlIn
  rw [List.any_eq_true]
  exact ⟨k, List.mem_range.2 hk, by simp [h]⟩
theorem nlIn_false {s : ByteArray} (h : ∀ k, k < s.size → bat s k ≠ 10) : nlIn s = false := by
  unfold nlIn
  rw [← Bool.not_eq_true, List.any_eq_true]
  rintro ⟨k, hk, hb⟩
  exact h k (List.mem_range.1 hk) (by simpa using hb)
def acV2 (ki me cu : Int) : Bool := decide (actW ki = ⟨#[]⟩) || (!inB cu (-1) 4096) || (!inB me 0 1000000000000)
def acV4 (A B C : Bool) (a b c : Int) : Bool := (A && !inB a 0 1000000000000) || (B && !inB b 0 1000000000000) || (C && !inB c 0 1000000000000)
def acV6 (A B C : Bool) (ki a b c : Int) (te : ByteArray) : Bool := (!A && decide (a ≠ 0)) || (!B && decide (b ≠ 0)) || (!C && decide (c ≠ 0)) || (decide (ki ≠ 6) && decide (te ≠ ⟨#[]⟩))
/-- the line of an order; its fault -/
def acS0 (ki me a b c : Int) : ByteArray := actW ki ++ ⟨#[32]⟩ ++ decS me.toNat ++ numP (actA ki) a ++ numP (actB ki) b ++ numP (actC ki) c
def acS (ki me a b c : Int) (te : ByteArray) (cu : Int) : ByteArray :=
  let s := if 0 ≤ cu then ⟨#[99, 117, 116, 32]⟩ ++ decS cu.toNat ++ ⟨#[32]⟩ ++ acS0 ki me a b c else acS0 ki me a b c
  if ki = 6 then s ++ ⟨#[32]⟩ ++ te else s
def acE (ki me a b c : Int) (te : ByteArray) (cu : Int) : Int :=
  if acV2 ki me cu = true then 2 else if acV4 (actA ki) (actB ki) (actC ki) a b c = true then 2 else if acV6 (actA ki) (actB ki) (actC ki) ki a b c te = true then 3 else if nlIn te = true then 3 else if 120 < (acS ki me a b c te cu).size then 1 else 0
def acT (ki me a b c : Int) (te : ByteArray) (cu : Int) : ByteArray := if acE ki me a b c te cu = 0 then acS ki me a b c te cu else ⟨#[]⟩
def AcP (ki me a b c : Int) (te : ByteArray) (cu : Int) (w : World) (e : Ending) (w' : World) : Prop := Grew (T2 (.string (acT ki me a b c te cu)) (I (acE ki me a b c te cu))) w e w'
theorem AcP.bad {ki me a b c cu k : Int} {te : ByteArray} {w w' : World} (h : acE ki me a b c te cu = k) (hk : k ≠ 0) (hb : Below w.heap.size w w') : AcP ki me a b c te cu w (.returned (T2 (.string ⟨#[]⟩) (I k))) w' := by
  unfold AcP acT
  rw [h, if_neg hk]
  exact ⟨rfl, hb⟩
theorem AcP.ok {ki me a b c cu : Int} {te s : ByteArray} {w w' : World} (h : acE ki me a b c te cu = 0) (hs : acS ki me a b c te cu = s) (hb : Below w.heap.size w w') : AcP ki me a b c te cu w (.returned (T2 (.string s) (I 0))) w' := by
  unfold AcP acT
  rw [h, if_pos rfl, hs]
  exact ⟨rfl, hb⟩
theorem acE_2 {ki me a b c cu : Int} {te : ByteArray} (h : acV2 ki me cu = true) : acE ki me a b c te cu = 2 := by unfold acE; rw [if_pos h]
theorem acE_4 {ki me a b c cu : Int} {te : ByteArray} (h : acV2 ki me cu = false) (h4 : acV4 (actA ki) (actB ki) (actC ki) a b c = true) : acE ki me a b c te cu = 2 := by unfold acE; rw [if_neg (by simp [h]), if_pos h4]
theorem acE_6 {ki me a b c cu : Int} {te : ByteArray} (h : acV2 ki me cu = false) (h4 : acV4 (actA ki) (actB ki) (actC ki) a b c = false) (h6 : acV6 (actA ki) (actB ki) (actC ki) ki a b c te = true) : acE ki me a b c te cu = 3 := by unfold acE; rw [if_neg (by simp [h]), if_neg (by simp [h4]), if_pos h6]
theorem acE_n {ki me a b c cu : Int} {te : ByteArray} (h : acV2 ki me cu = false) (h4 : acV4 (actA ki) (actB ki) (actC ki) a b c = false) (h6 : acV6 (actA ki) (actB ki) (actC ki) ki a b c te = false) (hn : nlIn te = true) : acE ki me a b c te cu = 3 := by unfold acE; rw [if_neg (by simp [h]), if_neg (by simp [h4]), if_neg (by simp [h6]), if_pos hn]
theorem acE_s {ki me a b c cu : Int} {te : ByteArray} (h : acV2 ki me cu = false) (h4 : acV4 (actA ki) (actB ki) (actC ki) a b c = false) (h6 : acV6 (actA ki) (actB ki) (actC ki) ki a b c te = false) (hn : nlIn te = false) (hs : 120 < (acS ki me a b c te cu).size) : acE ki me a b c te cu = 1 := by unfold acE; rw [if_neg (by simp [h]), if_neg (by simp [h4]), if_neg (by simp [h6]), if_neg (by simp [hn]), if_pos hs]
theorem acE_0 {ki me a b c cu : Int} {te : ByteArray} (h : acV2 ki me cu = false) (h4 : acV4 (actA ki) (actB ki) (actC ki) a b c = false) (h6 : acV6 (actA ki) (actB ki) (actC ki) ki a b c te = false) (hn : nlIn te = false) (hs : ¬ 120 < (acS ki me a b c te cu).size) : acE ki me a b c te cu = 0 := by unfold acE; rw [if_neg (by simp [h]), if_neg (by simp [h4]), if_neg (by simp [h6]), if_neg (by simp [hn]), if_neg hs]
theorem te_empty (s : ByteArray) : s.toList.isEmpty = decide (s = ⟨#[]⟩) := by
  by_cases h : s = ⟨#[]⟩
  · subst h
    rw [decide_eq_true rfl, ByteArray.toList_eq]; rfl
  · have hn : ¬ s.toList = [] := fun e => h (ByteArray.ext (Array.toList_inj.1 (by rw [← ByteArray.toList_eq]; exact e)))
    cases hs : s.toList with
    | nil => exact absurd hs hn
    | cons => simp [h]
theorem actW_size (k : Int) : (actW k).size ≤ 8 := by
  unfold actW
  repeat' split
  all_goals decide
/-- what is left unrefused by the numbers' bounds -/
theorem acV4_one {A : Bool} {a : Int} (h : (A && !inB a 0 1000000000000) = false) : (A = true → 0 ≤ a ∧ a < 9223372036854775808) ∧ (A = true → a < 9223372036854775808) := by
  have k : A = true → 0 ≤ a ∧ a ≤ 1000000000000 := fun e => by
    subst e
    cases hb : inB a 0 1000000000000
    · rw [hb] at h; cases h
    · exact inB_true.1 hb
  exact ⟨fun e => by have := k e; omega, fun e => by have := k e; omega⟩
theorem acV4_in {A B C : Bool} {a b c : Int} (h : acV4 A B C a b c = false) : ((A = true → 0 ≤ a ∧ a < 9223372036854775808) ∧ (A = true → a < 9223372036854775808)) ∧ ((B = true → 0 ≤ b ∧ b < 9223372036854775808) ∧ (B = true → b < 9223372036854775808)) ∧ ((C = true → 0 ≤ c ∧ c < 9223372036854775808) ∧ (C = true → c < 9223372036854775808)) := by
  unfold acV4 at h
  rw [Bool.or_eq_false_iff, Bool.or_eq_false_iff] at h
  exact ⟨acV4_one h.1.1, acV4_one h.1.2, acV4_one h.2⟩
theorem numP_size' {b : Bool} {n : Int} (h : b = true → n < 9223372036854775808) : (numP b n).size ≤ 21 := by
  cases b with
  | false => unfold numP; rw [if_neg (by decide)]; decide
  | true => have := numP_size (b := true) (h rfl); omega
end Go.Proofs.YtfhmcahfjoliiaaDoor
