/- bits.Div32 -/
import Derived.Test.YtmciccnmpoijdaaDoorWordsUp
namespace Go.Proofs.YtmciccnmpoijdaaDoor
open Go.RowKit
set_option maxRecDepth 20000

set_option maxHeartbeats 1000000 in
theorem Div32_any (r x d : Nat) (w : World) (hr : r < d) (hx : x < 4294967296) (hd : d < 4294967296) :
    Calls Tryd.prog 64 #[U32 r, U32 x, U32 d] w (Grew (T2 (U32 ((4294967296 * r + x) / d : Nat)) (U32 ((4294967296 * r + x) % d : Nat))) w) := by
  have hor := Lib.hid (or64s r x (by omega) hx)
  have hz : (4294967296 * r + x) < 18446744073709551616 := by omega
  have hq : (4294967296 * r + x) / d < 4294967296 := by
    refine Nat.div_lt_of_lt_mul ?_
    omega
  have hm : (4294967296 * r + x) % d < 4294967296 := Nat.lt_trans (Nat.mod_lt _ (by omega)) hd
  generalize 4294967296 * r + x = z at *
  have d0 : ¬ (d : Int) = 0 := by omega
  have d1 : ¬ (d : Int) ≤ (r : Int) := by omega
  have hq2 := Lib.hid hq
  have hm2 := Lib.hid hm
  have hz2 := Lib.hid hz
  have hr2 := Lib.hid hr
  clear hz hq hm hr
  go_enter Tryd.func64, Tryd.ntmps64
  go_wp2
  have e1 : ((z : Nat) : Int).tmod (d : Int) = ((z % d : Nat) : Int) := rfl
  have e2 : ((z : Nat) : Int).tdiv (d : Int) = ((z / d : Nat) : Int) := rfl
  have e3 : IntKind.u64.wrap (((z / d : Nat) : Int)) % 4294967296 = ((z / d : Nat) : Int) := by
    have := hq2.out
    generalize z / d = q at *
    show (q : Int) % 18446744073709551616 % 4294967296 = _
    omega
  have e4 : (((z % d : Nat) : Int)) % 4294967296 = ((z % d : Nat) : Int) := by have := hm2.out; omega
  have E := Lib.hid (And.intro e1 (And.intro e2 (And.intro e3 e4)))
  clear e1 e2 e3 e4
  go_quiet (fail)
  go_wp2
  rw [hor.out, E.out.1, E.out.2.1, E.out.2.2.1, E.out.2.2.2]
  go_ret2
  exact ⟨rfl, (by repeat first | exact Below.refl _ _ | assumption | refine drewN_below ?_ _ | refine Below.alloc ?_ (by first | exact Nat.le_refl _ | exact Below.size (by assumption) | (simp; done) | (simp; omega) | omega) _ | refine Below.setCell ?_ (by first | exact Nat.le_refl _ | (simp; done) | (simp; omega) | omega) _)⟩
end Go.Proofs.YtmciccnmpoijdaaDoor
