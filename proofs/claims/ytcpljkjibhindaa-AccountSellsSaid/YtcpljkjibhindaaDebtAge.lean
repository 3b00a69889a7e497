/- debt.Age: the plain law (the walks are not begun) -/
import Derived.Test.YtcpljkjibhindaaDebt
namespace Go.Proofs.Ytcpljkjibhindaa
open Go.RowKit
set_option maxRecDepth 20000
def age1 (bp o : Int) : Int := min (o + o * bp / 10000) 1000000000
def ageN (bp : Int) : Nat → Int → Int
  | 0, o => o
  | n + 1, o => age1 bp (ageN bp n o)
theorem age1_bd {bp o : Int} (h0 : 0 ≤ o) (p0 : 0 ≤ bp) : 0 ≤ age1 bp o ∧ age1 bp o ≤ 1000000000 := by
  have h2 : 0 ≤ o * bp / 10000 := Int.ediv_nonneg (Int.mul_nonneg h0 p0) (by omega)
  unfold age1; omega
theorem ageN_bd {bp o : Int} (h0 : 0 ≤ o) (h1 : o ≤ 1000000000) (p0 : 0 ≤ bp) : ∀ n, 0 ≤ ageN bp n o ∧ ageN bp n o ≤ 1000000000
  | 0 => ⟨h0, h1⟩
  | n + 1 => age1_bd (ageN_bd h0 h1 p0 n).1 p0
/-- where nothing grows, nothing grows later -/
theorem ageN_still {bp o : Int} (h1 : o ≤ 1000000000) (n : Nat) (h : o * bp / 10000 = 0) : ageN bp n o = o := by
  induction n with
  | zero => rfl
  | succ n ih => unfold ageN; rw [ih]; unfold age1; rw [h]; omega
theorem ageN_add (bp : Int) (m n : Nat) (o : Int) : ageN bp (n + m) o = ageN bp n (ageN bp m o) := by
  induction n with
  | zero => simp [ageN]
  | succ n ih => rw [show n + 1 + m = (n + m) + 1 by omega]; unfold ageN; rw [ih]
def aged (n : Nat) (d : ADebt) : ADebt := ⟨ageN d.bp n d.owed, d.bp⟩
def ageOk (xs : List ADebt) (m : Int) : Bool := debtE xs == 0 && inB m 0 2400
end Go.Proofs.Ytcpljkjibhindaa
