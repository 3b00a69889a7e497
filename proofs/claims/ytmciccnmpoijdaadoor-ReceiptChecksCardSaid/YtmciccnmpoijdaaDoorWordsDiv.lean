/- ref.Divided, and the plain law -/
import Derived.Test.YtmciccnmpoijdaaDoorWordsOver
import Derived.Test.YtmciccnmpoijdaaDoorWordsLaw
namespace Go.Proofs.YtmciccnmpoijdaaDoor
open Go.RowKit
set_option maxRecDepth 20000

theorem over_digits (a b c d : Nat) : val [a, b, c] = d * (quoO d [a, b, c] 2 + 4294967296 * (quoO d [a, b, c] 1 + 4294967296 * quoO d [a, b, c] 0)) + remO d [a, b, c] 3 := by
  have e : ∀ s : Nat, s = d * (s / d) + s % d := fun s => (Nat.div_add_mod s d).symm
  have h0 := e c
  have h1 := e (4294967296 * (c % d) + b)
  have h2 := e (4294967296 * ((4294967296 * (c % d) + b) % d) + a)
  simp only [quoO, remO, List.getD_cons_zero, List.getD_cons_succ, val3, Nat.mul_zero, Nat.zero_add, Nat.sub_self, Nat.sub_zero, show 2 - 1 = 1 from rfl]
  generalize (4294967296 * ((4294967296 * (c % d) + b) % d) + a) / d = q0 at *
  generalize (4294967296 * ((4294967296 * (c % d) + b) % d) + a) % d = r0 at *
  generalize (4294967296 * (c % d) + b) / d = q1 at *
  generalize (4294967296 * (c % d) + b) % d = r1 at *
  generalize c / d = q2 at *
  generalize c % d = r2 at *
  rw [Nat.mul_add d, Nat.mul_left_comm d, Nat.mul_add d, Nat.mul_left_comm d]
  generalize d * q0 = x at *
  generalize d * q1 = y at *
  generalize d * q2 = z at *
  omega
theorem zeroBN (w : World) : BN (w.alloc (.cells #[.bool false, .slice none 0 0] 77)) w.heap.size 0 := ⟨_, zeroB w, [], Sl.nil _ _, rfl, by simp [allW], by simp⟩
end Go.Proofs.YtmciccnmpoijdaaDoor
