/- order.Show: the line out of its words, in plain terms -/
import Derived.Test.YtfhmcahfjoliiaaDoorOrdBare
import Derived.Test.YtfhmcahfjoliiaaDoorActLaw
import Derived.Test.YtfhmcahfjoliiaaDoorTexts
import Derived.Test.YtfhmcahfjoliiaaDoorEqActS
import Derived.Lib.IndexLaws
import Derived.Test.YtfhmcahfjoliiaaDoorShelf
namespace Go.Proofs.YtfhmcahfjoliiaaDoor
set_option linter.unusedSimpArgs false
set_option linter.unusedVariables false
open Go Go.RowKit
set_option maxRecDepth 20000

/-- words with a blank between two -/
def jn (l : List ByteArray) : ByteArray := ⟨(Go.Lib.join (l.map (·.data.toList)) (⟨#[32]⟩ : ByteArray).data.toList).toArray⟩
theorem jn_one (x : ByteArray) : jn [x] = x := by
  apply ByteArray.ext
  unfold jn
  simp [Go.Lib.join, List.intercalate]
theorem jn_cons (x y : ByteArray) (l : List ByteArray) : jn (x :: y :: l) = x ++ (⟨#[32]⟩ ++ jn (y :: l)) := by
  apply ByteArray.ext
  unfold jn
  simp [Go.Lib.join, List.intercalate, ByteArray.data_append]
theorem jn_snoc (x y : ByteArray) : ∀ (l : List ByteArray), jn (x :: l ++ [y]) = jn (x :: l) ++ (⟨#[32]⟩ ++ y) := by
  intro l
  induction l generalizing x with
  | nil => show jn [x, y] = _; rw [jn_cons, jn_one, jn_one]
  | cons z l ih => show jn (x :: z :: (l ++ [y])) = _; rw [jn_cons, jn_cons, show z :: (l ++ [y]) = z :: l ++ [y] from rfl, ih z, ByteArray.append_assoc, ByteArray.append_assoc]
def numV (me a b c : Int) (l : List Nat) : List Int := l.map fun o => [0, me, a, b, c].getD o 0
def strV (wd : ByteArray) (l : List Int) : List ByteArray := wd :: l.map fun n => decS n.toNat
/-- the words of an order make its line -/
theorem jn_ac (ki me a b c : Int) (A B C : Bool) (hA : A = actA ki) (hB : B = actB ki) (hC : C = actC ki) : jn (strV (actW ki) (numV me a b c (offs A B C 3))) = acS0 ki me a b c := by
  unfold acS0
  rw [← hA, ← hB, ← hC]
  generalize actW ki = wd
  clear hA hB hC
  cases A <;> cases B <;> cases C <;> simp [strV, numV, offs, flg, numP, jn_one, jn_cons, ByteArray.append_assoc]
  all_goals (apply ByteArray.ext; simp [ByteArray.data_append])
theorem num_good {me a b c : Int} {A B C : Bool} (h : ∀ x ∈ numV me a b c (offs A B C 3), inB x 0 1000000000000 = true) : inB me 0 1000000000000 = true ∧ acV4 A B C a b c = false := by
  unfold acV4
  cases A <;> cases B <;> cases C <;> simp [numV, offs, flg] at h <;> simp [h]
/-- what is bare, and what is not -/
theorem bare_v6 {ki a b c : Int} {te : ByteArray} {A B C : Bool} : (!decide ((⟨0, 0, if A = true then 0 else a, if B = true then 0 else b, if C = true then 0 else c, if ki = 6 then ⟨#[]⟩ else te, 0⟩ : AAct) = ⟨0, 0, 0, 0, 0, ⟨#[]⟩, 0⟩)) = acV6 A B C ki a b c te := by
  unfold acV6
  cases A <;> cases B <;> cases C <;> by_cases h6 : ki = 6 <;> by_cases ha : a = 0 <;> by_cases hb : b = 0 <;> by_cases hc : c = 0 <;> by_cases ht : te = ⟨#[]⟩ <;> simp [h6, ha, hb, hc, ht]
theorem has_nl (te : ByteArray) : decide (0 ≤ Go.Lib.indexByte te.data.toList 10) = nlIn te := by
  have hb : ∀ k : Nat, te.data.toList[k]? = some 10 → k < te.size ∧ bat te k = 10 := fun k h => by
    have hk := (List.getElem?_eq_some_iff.1 h).1
    refine ⟨by simpa using hk, ?_⟩
    rw [bat_list, h]; rfl
  by_cases c : Go.Lib.indexByte te.data.toList 10 = -1
  · rw [c, decide_eq_false (by omega)]
    symm
    refine nlIn_false (fun k hk hbk => ?_)
    have hn := Go.Lib.indexByte_none c k
    apply hn
    have hk' : k < te.data.toList.length := by simpa using hk
    rw [List.getElem?_eq_getElem hk']
    rw [bat_list, List.getElem?_eq_getElem hk'] at hbk
    have : (te.data.toList[k]).toNat = (10 : UInt8).toNat := hbk
    rw [UInt8.toNat_inj.1 this]
  · have h0 := Go.Lib.indexByte_ge te.data.toList 10
    obtain ⟨o, ho⟩ : ∃ o : Nat, Go.Lib.indexByte te.data.toList 10 = o := ⟨(Go.Lib.indexByte te.data.toList 10).toNat, by omega⟩
    obtain ⟨h1, _⟩ := Go.Lib.indexByte_some ho
    obtain ⟨h2, h3⟩ := hb o h1
    rw [ho, decide_eq_true (by omega), nlIn_true h2 h3]
end Go.Proofs.YtfhmcahfjoliiaaDoor
