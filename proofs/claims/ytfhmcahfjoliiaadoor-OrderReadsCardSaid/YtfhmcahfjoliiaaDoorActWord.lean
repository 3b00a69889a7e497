/- ref.ActWord, ref.numberPart: the words of the orders -/
import Derived.Test.YtfhmcahfjoliiaaDoorDec
namespace Go.Proofs.YtfhmcahfjoliiaaDoor
set_option linter.unusedSimpArgs false
set_option linter.unusedVariables false
open Go Go.RowKit
set_option maxRecDepth 20000
abbrev kRegister : ByteArray := ⟨#[114, 101, 103, 105, 115, 116, 101, 114]⟩
abbrev kSell : ByteArray := ⟨#[115, 101, 108, 108]⟩
abbrev kGrant : ByteArray := ⟨#[103, 114, 97, 110, 116]⟩
abbrev kRekey : ByteArray := ⟨#[114, 101, 107, 101, 121]⟩
abbrev kCharge : ByteArray := ⟨#[99, 104, 97, 114, 103, 101]⟩
abbrev kKey : ByteArray := ⟨#[107, 101, 121]⟩
abbrev kTick : ByteArray := ⟨#[116, 105, 99, 107]⟩
/-- the word of a kind; which numbers stand behind it -/
def actW (k : Int) : ByteArray := if k = 1 then kRegister else if k = 2 then kSell else if k = 3 then kGrant else if k = 4 then kRekey else if k = 5 then kCharge else if k = 6 then kKey else if k = 7 then kTick else ⟨#[]⟩
def actA (k : Int) : Bool := decide (k = 2) || decide (k = 3) || decide (k = 5) || decide (k = 7)
def actB (k : Int) : Bool := decide (k = 2) || decide (k = 5)
def actC (k : Int) : Bool := decide (k = 2) || decide (k = 3) || decide (k = 4)
theorem ActWord_any (k : Int) (w : World) : Calls Tryd.prog 13 #[I k] w (Pure (.tuple #[.string (actW k), .bool (actA k), .bool (actB k), .bool (actC k)]) w) := by
  go_enter Tryd.func13, Tryd.ntmps13
  go_wp2
  all_goals
    exact bodyPost_ret (v := .tuple #[.string (actW k), .bool (actA k), .bool (actB k), .bool (actC k)]) (by simp_all [results, Tryd.results13, go_sem, actW, actA, actB, actC]) rfl ⟨rfl, rfl⟩
def numP (b : Bool) (n : Int) : ByteArray := if b = true then ⟨#[32]⟩ ++ decS n.toNat else ⟨#[]⟩
theorem numP_size {b : Bool} {n : Int} (h : n < 9223372036854775808) : (numP b n).size ≤ 20 := by
  unfold numP
  split
  · rw [ByteArray.size_append]
    have := decS_20 (n := n.toNat) (by omega)
    have h1 : (⟨#[32]⟩ : ByteArray).size = 1 := rfl
    omega
  · decide
theorem numberPart_any (b : Bool) (n : Int) (w : World) (hn : b = true → 0 ≤ n ∧ n < 9223372036854775808) : Calls Tryd.prog 27 #[.bool b, I n] w (Grew (.string (numP b n)) w) := by
  cases b with
  | false =>
    clear hn
    go_enter Tryd.func27, Tryd.ntmps27
    go_wp2
    go_ret
    exact ⟨rfl, below_auto⟩
  | true =>
    obtain ⟨h0, h1⟩ := hn rfl
    obtain ⟨m, rfl⟩ := Int.eq_ofNat_of_zero_le h0
    have A := Lib.hid (fun W => Dec_nat m W (by omega))
    have s1 := decS_20 (n := m) (by omega)
    have e : numP true (m : Int) = ⟨#[32]⟩ ++ decS m := rfl
    rw [e]
    generalize decS m = a at *
    have hov : ¬ 9223372036854775807 < (⟨#[32]⟩ : ByteArray).size + a.size := by
      have h2 : (⟨#[32]⟩ : ByteArray).size = 1 := rfl
      omega
    clear hn h0 h1 s1 e
    go_enter Tryd.func27, Tryd.ntmps27
    go_wp2_with fail
    refine (A.out _).mono ?_
    rintro e w1 ⟨rfl, k1⟩
    go_wp2
    go_ret
    exact ⟨rfl, k1⟩
end Go.Proofs.YtfhmcahfjoliiaaDoor
