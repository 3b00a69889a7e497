/- meter.Begin and its reference -/
import Derived.Test.YtenoigmkhlnfoaaMeter
import Derived.Test.YtenoigmkhlnfoaaOwn
namespace Go.Proofs.Ytenoigmkhlnfoaa
set_option linter.unusedSimpArgs false
set_option linter.unusedVariables false
open Go.RowKit
set_option maxRecDepth 20000

def begE (me : Int) : Int := if inB me 0 49 then 0 else 2
def begA (me : Int) : Int := if inB me 0 49 then me else 0
theorem beg_may (me : Int) : mayM me 0 0 0 0 0 0 = inB me 0 49 := by
  unfold mayM inB
  have : mayW 0 0 = true := by decide
  rw [this, Bool.and_true, ← Bool.decide_and]
  apply decide_eq_decide.2
  omega
set_option maxHeartbeats 1000000 in
theorem Begin_any (me : Int) (w : World) : Calls Try.prog 67 #[I me] w (Grew (T2 (MM.mk (begA me) 0 0 0 0 0 0).v (I (begE me))) w) := by
  have M := Lib.hid (fun W => may_meter me 0 0 0 0 0 0 W (by decide))
  rw [beg_may] at M
  cases hi : inB me 0 49
  · have e1 : begA me = 0 := by simp [begA, hi]
    have e2 : begE me = 2 := by simp [begE, hi]
    rw [e1, e2]
    rw [hi] at M
    clear e1 e2 hi
    go_enter Try.func67, Try.ntmps67
    go_wp2_with fail
    refine (M.out _).mono ?_
    rintro e w1 ⟨rfl, k1⟩
    have cO := (Own.new (g := w.heap.size + 1) (by simp) [I me, I 0, I 0, I 0, .int .u64 0, I 0, I 0] 132).below k1
    have c0 := cO.c 0; have cf0 := cO.f 0; have c1 := cO.c 1; have cf1 := cO.f 1; have c2 := cO.c 2; have cf2 := cO.f 2; have c3 := cO.c 3; have cf3 := cO.f 3; have c4 := cO.c 4; have cf4 := cO.f 4; have c5 := cO.c 5; have cf5 := cO.f 5; have c6 := cO.c 6; have cf6 := cO.f 6
    (try simp only [List.getD_cons_zero, List.getD_cons_succ] at c0 c1 c2 c3 c4 c5 c6)
    clear cO
    have dO := ((Own.new rfl [I 0, I 0, I 0, I 0, .int .u64 0, I 0, I 0] 132).alloc _).below k1
    have d0 := dO.c 0; have df0 := dO.f 0; have d1 := dO.c 1; have df1 := dO.f 1; have d2 := dO.c 2; have df2 := dO.f 2; have d3 := dO.c 3; have df3 := dO.f 3; have d4 := dO.c 4; have df4 := dO.f 4; have d5 := dO.c 5; have df5 := dO.f 5; have d6 := dO.c 6; have df6 := dO.f 6
    (try simp only [List.getD_cons_zero, List.getD_cons_succ] at d0 d1 d2 d3 d4 d5 d6)
    clear dO
    have k := below_box (below_box k1)
    clear k1
    have r1 := set_same
    have r2 := set_off
    have r3 := set_blk
    go_wp2
    exact bodyPost_ret (v := T2 (MM.mk 0 0 0 0 0 0 0).v (I 2)) (by simp [results, Try.results67, go_sem, *]; try omega) rfl (Grew.intro rfl below_autor)
  · have e1 : begA me = me := by simp [begA, hi]
    have e2 : begE me = 0 := by simp [begE, hi]
    rw [e1, e2]
    rw [hi] at M
    clear e1 e2 hi
    go_enter Try.func67, Try.ntmps67
    go_wp2_with fail
    refine (M.out _).mono ?_
    rintro e w1 ⟨rfl, k1⟩
    have cO := (Own.new (g := w.heap.size + 1) (by simp) [I me, I 0, I 0, I 0, .int .u64 0, I 0, I 0] 132).below k1
    have c0 := cO.c 0; have cf0 := cO.f 0; have c1 := cO.c 1; have cf1 := cO.f 1; have c2 := cO.c 2; have cf2 := cO.f 2; have c3 := cO.c 3; have cf3 := cO.f 3; have c4 := cO.c 4; have cf4 := cO.f 4; have c5 := cO.c 5; have cf5 := cO.f 5; have c6 := cO.c 6; have cf6 := cO.f 6
    (try simp only [List.getD_cons_zero, List.getD_cons_succ] at c0 c1 c2 c3 c4 c5 c6)
    clear cO
    have dO := ((Own.new rfl [I 0, I 0, I 0, I 0, .int .u64 0, I 0, I 0] 132).alloc _).below k1
    have d0 := dO.c 0; have df0 := dO.f 0; have d1 := dO.c 1; have df1 := dO.f 1; have d2 := dO.c 2; have df2 := dO.f 2; have d3 := dO.c 3; have df3 := dO.f 3; have d4 := dO.c 4; have df4 := dO.f 4; have d5 := dO.c 5; have df5 := dO.f 5; have d6 := dO.c 6; have df6 := dO.f 6
    (try simp only [List.getD_cons_zero, List.getD_cons_succ] at d0 d1 d2 d3 d4 d5 d6)
    clear dO
    have k := below_box (below_box k1)
    clear k1
    have r1 := set_same
    have r2 := set_off
    have r3 := set_blk
    go_wp2
    exact bodyPost_ret (v := T2 (MM.mk me 0 0 0 0 0 0).v (I 0)) (by simp [results, Try.results67, go_sem, *]; try omega) rfl (Grew.intro rfl below_autor)

end Go.Proofs.Ytenoigmkhlnfoaa
