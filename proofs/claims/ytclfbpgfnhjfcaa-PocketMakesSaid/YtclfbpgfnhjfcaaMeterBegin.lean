/- meter.Begin and its reference -/
import Derived.Test.YtclfbpgfnhjfcaaMeter
import Derived.Test.YtclfbpgfnhjfcaaOwn
namespace Go.Proofs.Ytclfbpgfnhjfcaa
open Go.RowKit
set_option maxRecDepth 20000

def begE (me : Int) : Int := if inB me 0 49 then 0 else 2
def begA (me : Int) : Int := if inB me 0 49 then me else 0
theorem beg_may (me : Int) : mayM me 0 0 0 0 0 0 = inB me 0 49 := by
  unfold mayM inB
  have : mayW 0 0 = true := by decide
  rw [this, Bool.and_true, ← Bool.decide_and]
  apply decide_eq_decide.2
  omega
set_option maxHeartbeats 1000000 in
theorem Begin_any (me : Int) (w : World) : Calls Try.prog 51 #[I me] w (Grew (T2 (MM.mk (begA me) 0 0 0 0 0 0).v (I (begE me))) w) := by
  have M := Lib.hid (fun W => may_meter me 0 0 0 0 0 0 W (by decide))
  rw [beg_may] at M
  cases hi : inB me 0 49
  · have e1 : begA me = 0 := by simp [begA, hi]
    have e2 : begE me = 2 := by simp [begE, hi]
    rw [e1, e2]
    rw [hi] at M
    clear e1 e2 hi
    go_enter Try.func51, Try.ntmps51
    go_wp2_with fail
    refine (M.out _).mono ?_
    rintro e w1 ⟨rfl, k1⟩
    have cO := (Own.new (g := w.heap.size + 1) (by simp) [I me, I 0, I 0, I 0, .int .u64 0, I 0, I 0] 53).below k1
    have c0 := cO.cell 0 (by simp)
    have cf0 := cO.frozen 0
    have c1 := cO.cell 1 (by simp)
    have cf1 := cO.frozen 1
    have c2 := cO.cell 2 (by simp)
    have cf2 := cO.frozen 2
    have c3 := cO.cell 3 (by simp)
    have cf3 := cO.frozen 3
    have c4 := cO.cell 4 (by simp)
    have cf4 := cO.frozen 4
    have c5 := cO.cell 5 (by simp)
    have cf5 := cO.frozen 5
    have c6 := cO.cell 6 (by simp)
    have cf6 := cO.frozen 6
    simp only [Nat.zero_add, List.getD_cons_zero, List.getD_cons_succ] at c0 c1 c2 c3 c4 c5 c6
    clear cO
    have dO := ((Own.new rfl [I 0, I 0, I 0, I 0, .int .u64 0, I 0, I 0] 53).alloc _).below k1
    have d0 := dO.cell 0 (by simp)
    have df0 := dO.frozen 0
    have d1 := dO.cell 1 (by simp)
    have df1 := dO.frozen 1
    have d2 := dO.cell 2 (by simp)
    have df2 := dO.frozen 2
    have d3 := dO.cell 3 (by simp)
    have df3 := dO.frozen 3
    have d4 := dO.cell 4 (by simp)
    have df4 := dO.frozen 4
    have d5 := dO.cell 5 (by simp)
    have df5 := dO.frozen 5
    have d6 := dO.cell 6 (by simp)
    have df6 := dO.frozen 6
    simp only [Nat.zero_add, List.getD_cons_zero, List.getD_cons_succ] at d0 d1 d2 d3 d4 d5 d6
    clear dO
    have k := below_box (below_box k1)
    clear k1
    have r1 := set_same
    have r2 := set_off
    have r3 := set_blk
    go_wp2
    exact bodyPost_ret (v := T2 (MM.mk 0 0 0 0 0 0 0).v (I 2)) (by simp [results, Try.results51, go_sem, *]; try omega) rfl (Grew.intro rfl (by repeat first | with_reducible assumption | with_reducible exact Below.refl _ _ | with_reducible refine Below.setCell ?_ (by first | exact Nat.le_refl _ | exact Below.size (by assumption) | (simp; done) | (simp; omega) | omega) _ | with_reducible refine Below.alloc ?_ (by first | exact Nat.le_refl _ | exact Below.size (by assumption) | (simp; done) | (simp; omega) | omega) _ | with_reducible refine drewN_below ?_ _ | with_reducible refine Below.drew ?_))
  · have e1 : begA me = me := by simp [begA, hi]
    have e2 : begE me = 0 := by simp [begE, hi]
    rw [e1, e2]
    rw [hi] at M
    clear e1 e2 hi
    go_enter Try.func51, Try.ntmps51
    go_wp2_with fail
    refine (M.out _).mono ?_
    rintro e w1 ⟨rfl, k1⟩
    have cO := (Own.new (g := w.heap.size + 1) (by simp) [I me, I 0, I 0, I 0, .int .u64 0, I 0, I 0] 53).below k1
    have c0 := cO.cell 0 (by simp)
    have cf0 := cO.frozen 0
    have c1 := cO.cell 1 (by simp)
    have cf1 := cO.frozen 1
    have c2 := cO.cell 2 (by simp)
    have cf2 := cO.frozen 2
    have c3 := cO.cell 3 (by simp)
    have cf3 := cO.frozen 3
    have c4 := cO.cell 4 (by simp)
    have cf4 := cO.frozen 4
    have c5 := cO.cell 5 (by simp)
    have cf5 := cO.frozen 5
    have c6 := cO.cell 6 (by simp)
    have cf6 := cO.frozen 6
    simp only [Nat.zero_add, List.getD_cons_zero, List.getD_cons_succ] at c0 c1 c2 c3 c4 c5 c6
    clear cO
    have dO := ((Own.new rfl [I 0, I 0, I 0, I 0, .int .u64 0, I 0, I 0] 53).alloc _).below k1
    have d0 := dO.cell 0 (by simp)
    have df0 := dO.frozen 0
    have d1 := dO.cell 1 (by simp)
    have df1 := dO.frozen 1
    have d2 := dO.cell 2 (by simp)
    have df2 := dO.frozen 2
    have d3 := dO.cell 3 (by simp)
    have df3 := dO.frozen 3
    have d4 := dO.cell 4 (by simp)
    have df4 := dO.frozen 4
    have d5 := dO.cell 5 (by simp)
    have df5 := dO.frozen 5
    have d6 := dO.cell 6 (by simp)
    have df6 := dO.frozen 6
    simp only [Nat.zero_add, List.getD_cons_zero, List.getD_cons_succ] at d0 d1 d2 d3 d4 d5 d6
    clear dO
    have k := below_box (below_box k1)
    clear k1
    have r1 := set_same
    have r2 := set_off
    have r3 := set_blk
    go_wp2
    exact bodyPost_ret (v := T2 (MM.mk me 0 0 0 0 0 0).v (I 0)) (by simp [results, Try.results51, go_sem, *]; try omega) rfl (Grew.intro rfl (by repeat first | with_reducible assumption | with_reducible exact Below.refl _ _ | with_reducible refine Below.setCell ?_ (by first | exact Nat.le_refl _ | exact Below.size (by assumption) | (simp; done) | (simp; omega) | omega) _ | with_reducible refine Below.alloc ?_ (by first | exact Nat.le_refl _ | exact Below.size (by assumption) | (simp; done) | (simp; omega) | omega) _ | with_reducible refine drewN_below ?_ _ | with_reducible refine Below.drew ?_))

end Go.Proofs.Ytclfbpgfnhjfcaa
