/- two values of type Bill held against each other (made by wip/bin/gen_api.py) · two values of type Debt held against each other (made by wip/bin/gen_api.py) · ref.EventMay · the size of a word · book.Encode · one block of the call's own may turn, the rest stays · book.Encode -/
import Derived.Test.YtenoigmkhlnfoaaPk00
import Derived.Test.YtenoigmkhlnfoaaBookCheck
import Derived.StillTailTactics
import Derived.Defers
import Derived.Test.YtenoigmkhlnfoaaPk02
namespace Go.Proofs.Ytenoigmkhlnfoaa
set_option linter.unusedSimpArgs false
set_option linter.unusedVariables false
open Go.RowKit
set_option maxRecDepth 20000
set_option maxHeartbeats 1000000 in
theorem neqBill_run (x y : ABill) (w : World) : (binOp .neq 70 (.agg #[I x.id, I x.tender, I x.debt, I x.fee, I x.price, I x.change, I x.units]) (.agg #[I y.id, I y.tender, I y.debt, I y.fee, I y.price, I y.change, I y.units])).run Try.prog w = .ok (.bool (!decide (x = y))) w := by
  have hpBill : Try.prog.stoodInHeld 70 = false := by kernel_rfl
  have htBill : Try.prog.underlying 70 = some (.struct (Try.prog.fieldsOf 70)) := by kernel_rfl
  rw [run_neq_struct, run_equalIn_struct w 9999 70 _ _ htBill hpBill]
  simp [go_sem]
  obtain ⟨x0, x1, x2, x3, x4, x5, x6⟩ := x
  obtain ⟨y0, y1, y2, y3, y4, y5, y6⟩ := y
  clear hpBill htBill
  simp only [ABill.mk.injEq]
  (repeat' split) <;> simp_all
set_option maxHeartbeats 1000000 in
theorem eqlBill_run (x y : ABill) (w : World) : (binOp .eql 70 (.agg #[I x.id, I x.tender, I x.debt, I x.fee, I x.price, I x.change, I x.units]) (.agg #[I y.id, I y.tender, I y.debt, I y.fee, I y.price, I y.change, I y.units])).run Try.prog w = .ok (.bool (decide (x = y))) w := by
  have hpBill : Try.prog.stoodInHeld 70 = false := by kernel_rfl
  have htBill : Try.prog.underlying 70 = some (.struct (Try.prog.fieldsOf 70)) := by kernel_rfl
  rw [run_eql_struct, run_equalIn_struct w 9999 70 _ _ htBill hpBill]
  simp [go_sem]
  obtain ⟨x0, x1, x2, x3, x4, x5, x6⟩ := x
  obtain ⟨y0, y1, y2, y3, y4, y5, y6⟩ := y
  clear hpBill htBill
  simp only [ABill.mk.injEq]
  (repeat' split) <;> simp_all
end Go.Proofs.Ytenoigmkhlnfoaa
namespace Go.Proofs.Ytenoigmkhlnfoaa
set_option linter.unusedSimpArgs false
set_option linter.unusedVariables false
open Go.RowKit
set_option maxRecDepth 20000
set_option maxHeartbeats 1000000 in
theorem neqDebt_run (x y : ADebt) (w : World) : (binOp .neq 60 (.agg #[I x.owed, I x.bp]) (.agg #[I y.owed, I y.bp])).run Try.prog w = .ok (.bool (!decide (x = y))) w := by
  have hpDebt : Try.prog.stoodInHeld 60 = false := by kernel_rfl
  have htDebt : Try.prog.underlying 60 = some (.struct (Try.prog.fieldsOf 60)) := by kernel_rfl
  rw [run_neq_struct, run_equalIn_struct w 9999 60 _ _ htDebt hpDebt]
  simp [go_sem]
  obtain ⟨x0, x1⟩ := x
  obtain ⟨y0, y1⟩ := y
  clear hpDebt htDebt
  simp only [ADebt.mk.injEq]
  (repeat' split) <;> simp_all
end Go.Proofs.Ytenoigmkhlnfoaa
namespace Go.Proofs.Ytenoigmkhlnfoaa
set_option linter.unusedSimpArgs false
set_option linter.unusedVariables false
open Go Go.RowKit
set_option maxRecDepth 20000

def eqD2 (a b c d : Int) : Bool := decide (a = c ∧ b = d)
theorem neqDebt2 (a b c d : Int) (w : World) : (binOp .neq 60 (.agg #[I a, I b]) (.agg #[I c, I d])).run Try.prog w = .ok (.bool (!eqD2 a b c d)) w := by
  have := neqDebt_run ⟨a, b⟩ ⟨c, d⟩ w
  simpa [eqD2] using this
theorem eqlBill2 (x3 x4 x5 x6 x7 x8 x9 y3 y4 y5 y6 y7 y8 y9 : Int) (w : World) : (binOp .eql 70 (.agg #[I x3, I x4, I x5, I x6, I x7, I x8, I x9]) (.agg #[I y3, I y4, I y5, I y6, I y7, I y8, I y9])).run Try.prog w = .ok (.bool (eqE7 x3 x4 x5 x6 x7 x8 x9 y3 y4 y5 y6 y7 y8 y9)) w := by
  have := eqlBill_run ⟨x3, x4, x5, x6, x7, x8, x9⟩ ⟨y3, y4, y5, y6, y7, y8, y9⟩ w
  simpa [eqE7] using this
variable (ki me mo id te de fe pr ch un ta ow bp : Int)
set_option maxHeartbeats 4000000 in
theorem EventMay_reg (w : World) : Calls Try.prog 33 #[evV 1 me mo id te de fe pr ch un ta ow bp] w (Grew (.bool (evMay 1 me mo id te de fe pr ch un ta ow bp)) w) := by
  have HB := Lib.hid (evMay_reg me mo id te de fe pr ch un ta ow bp)
  generalize evMay 1 me mo id te de fe pr ch un ta ow bp = b at *
  have EQ := eqlEv_run
  have EB := eqlBill2
  have ED := neqDebt2
  go_enter Try.func33, Try.ntmps33
  go_wp2_with (go_at_call 43; refine (In_any _ _ _ _).mono ?_; rintro e w' ⟨rfl, rfl⟩)
  all_goals
    clear EQ EB ED
    go_ret
    refine Grew.intro (eB (Bool.eq_iff_iff.2 ?_)) below_auto
    rw [HB.out]
    simp only [inB_true, inB_false, eqE, eqE7, eqD2, decide_eq_true_eq, decide_eq_false_iff_not, Bool.and_eq_true, Bool.false_eq_true, Bool.not_eq_true', Bool.not_eq_false', false_iff, beq_iff_eq, true_and, and_true] at * <;> omega
set_option maxHeartbeats 4000000 in
theorem EventMay_grant (w : World) : Calls Try.prog 33 #[evV 3 me mo id te de fe pr ch un ta ow bp] w (Grew (.bool (evMay 3 me mo id te de fe pr ch un ta ow bp)) w) := by
  have HB := Lib.hid (evMay_grant me mo id te de fe pr ch un ta ow bp)
  generalize evMay 3 me mo id te de fe pr ch un ta ow bp = b at *
  have EQ := eqlEv_run
  have EB := eqlBill2
  have ED := neqDebt2
  go_enter Try.func33, Try.ntmps33
  go_wp2_with (go_at_call 43; refine (In_any _ _ _ _).mono ?_; rintro e w' ⟨rfl, rfl⟩)
  all_goals
    clear EQ EB ED
    go_ret
    refine Grew.intro (eB (Bool.eq_iff_iff.2 ?_)) below_auto
    rw [HB.out]
    simp only [inB_true, inB_false, eqE, eqE7, eqD2, decide_eq_true_eq, decide_eq_false_iff_not, Bool.and_eq_true, Bool.false_eq_true, Bool.not_eq_true', Bool.not_eq_false', false_iff, beq_iff_eq, true_and, and_true] at * <;> omega
set_option maxHeartbeats 4000000 in
theorem EventMay_rekey (w : World) : Calls Try.prog 33 #[evV 4 me mo id te de fe pr ch un ta ow bp] w (Grew (.bool (evMay 4 me mo id te de fe pr ch un ta ow bp)) w) := by
  have HB := Lib.hid (evMay_rekey me mo id te de fe pr ch un ta ow bp)
  generalize evMay 4 me mo id te de fe pr ch un ta ow bp = b at *
  have EQ := eqlEv_run
  have EB := eqlBill2
  have ED := neqDebt2
  go_enter Try.func33, Try.ntmps33
  go_wp2_with (go_at_call 43; refine (In_any _ _ _ _).mono ?_; rintro e w' ⟨rfl, rfl⟩)
  all_goals
    clear EQ EB ED
    go_ret
    refine Grew.intro (eB (Bool.eq_iff_iff.2 ?_)) below_auto
    rw [HB.out]
    simp only [inB_true, inB_false, eqE, eqE7, eqD2, decide_eq_true_eq, decide_eq_false_iff_not, Bool.and_eq_true, Bool.false_eq_true, Bool.not_eq_true', Bool.not_eq_false', false_iff, beq_iff_eq, true_and, and_true] at * <;> omega
set_option maxHeartbeats 4000000 in
theorem EventMay_charge (w : World) : Calls Try.prog 33 #[evV 5 me mo id te de fe pr ch un ta ow bp] w (Grew (.bool (evMay 5 me mo id te de fe pr ch un ta ow bp)) w) := by
  have HB := Lib.hid (evMay_charge me mo id te de fe pr ch un ta ow bp)
  generalize evMay 5 me mo id te de fe pr ch un ta ow bp = b at *
  have EQ := eqlEv_run
  have EB := eqlBill2
  have ED := neqDebt2
  go_enter Try.func33, Try.ntmps33
  go_wp2_with (go_at_call 43; refine (In_any _ _ _ _).mono ?_; rintro e w' ⟨rfl, rfl⟩)
  all_goals
    clear EQ EB ED
    go_ret
    refine Grew.intro (eB (Bool.eq_iff_iff.2 ?_)) below_auto
    rw [HB.out]
    simp only [inB_true, inB_false, eqE, eqE7, eqD2, decide_eq_true_eq, decide_eq_false_iff_not, Bool.and_eq_true, Bool.false_eq_true, Bool.not_eq_true', Bool.not_eq_false', false_iff, beq_iff_eq, true_and, and_true] at * <;> omega
set_option maxHeartbeats 4000000 in
theorem EventMay_sale (w : World) : Calls Try.prog 33 #[evV 2 me mo id te de fe pr ch un ta ow bp] w (Grew (.bool (evMay 2 me mo id te de fe pr ch un ta ow bp)) w) := by
  have HB := Lib.hid (evMay_sale me mo id te de fe pr ch un ta ow bp)
  generalize evMay 2 me mo id te de fe pr ch un ta ow bp = b at *
  have EQ := eqlEv_run
  have EB := eqlBill2
  have ED := neqDebt2
  by_cases hM : (0 ≤ de ∧ de ≤ 100000000) ∧ (0 ≤ fe ∧ fe ≤ 100000000) ∧ (0 ≤ pr ∧ pr ≤ 100000000) ∧ (0 ≤ ch ∧ ch ≤ 100000000)
  · obtain ⟨⟨m1, m2⟩, ⟨m3, m4⟩, ⟨m5, m6⟩, m7, m8⟩ := hM
    go_enter Try.func33, Try.ntmps33
    go_wp2_with (go_at_call 43; refine (In_any _ _ _ _).mono ?_; rintro e w' ⟨rfl, rfl⟩)
    all_goals
      clear EQ EB ED
      go_ret
      refine Grew.intro (eB (Bool.eq_iff_iff.2 ?_)) below_auto
      rw [HB.out]
      simp only [inB_true, inB_false, eqE, eqE7, eqD2, decide_eq_true_eq, decide_eq_false_iff_not, Bool.and_eq_true, Bool.false_eq_true, Bool.not_eq_true', Bool.not_eq_false', false_iff, beq_iff_eq, true_and, and_true] at * <;> omega
  · have hd : de < 0 ∨ (100000000 < de) ∨ fe < 0 ∨ 100000000 < fe ∨ pr < 0 ∨ 100000000 < pr ∨ ch < 0 ∨ 100000000 < ch := by omega
    clear hM
    rcases hd with hd | hd | hd | hd | hd | hd | hd | hd
    all_goals
      go_enter Try.func33, Try.ntmps33
      go_wp2_with (go_at_call 43; refine (In_any _ _ _ _).mono ?_; rintro e w' ⟨rfl, rfl⟩)
      all_goals
        clear EQ EB ED
        go_ret
        refine Grew.intro (eB (Bool.eq_iff_iff.2 ?_)) below_auto
        rw [HB.out]
        simp only [inB_true, inB_false, eqE, eqE7, eqD2, decide_eq_true_eq, decide_eq_false_iff_not, Bool.and_eq_true, Bool.false_eq_true, Bool.not_eq_true', Bool.not_eq_false', false_iff, beq_iff_eq, true_and, and_true] at * <;> omega
theorem EventMay_none (w : World) (h1 : ki ≠ 1) (h2 : ki ≠ 2) (h3 : ki ≠ 3) (h4 : ki ≠ 4) (h5 : ki ≠ 5) : Calls Try.prog 33 #[evV ki me mo id te de fe pr ch un ta ow bp] w (Grew (.bool (evMay ki me mo id te de fe pr ch un ta ow bp)) w) := by
  have HB : Hid (evMay ki me mo id te de fe pr ch un ta ow bp = true ↔ False) := by
    unfold Hid evMay
    rw [if_neg h1, if_neg h2, if_neg h3, if_neg h4, if_neg h5]
    simp
  have hk : inB ki 2 4 = false := by rw [inB_false]; omega
  generalize evMay ki me mo id te de fe pr ch un ta ow bp = b at *
  have EQ := eqlEv_run
  have EB := eqlBill2
  have ED := neqDebt2
  go_enter Try.func33, Try.ntmps33
  go_wp2_with (go_at_call 43; refine (In_any _ _ _ _).mono ?_; rintro e w' ⟨rfl, rfl⟩)
  all_goals
    clear EQ EB ED
    go_ret
    refine Grew.intro (eB (Bool.eq_iff_iff.2 ?_)) below_auto
    rw [HB.out]
    simp only [inB_true, inB_false, eqE, eqE7, eqD2, decide_eq_true_eq, decide_eq_false_iff_not, Bool.and_eq_true, Bool.false_eq_true, Bool.not_eq_true', Bool.not_eq_false', false_iff, beq_iff_eq, true_and, and_true] at * <;> omega
theorem EventMay_any (w : World) : Calls Try.prog 33 #[evV ki me mo id te de fe pr ch un ta ow bp] w (Grew (.bool (evMay ki me mo id te de fe pr ch un ta ow bp)) w) := by
  by_cases h1 : ki = 1
  · subst h1; exact EventMay_reg me mo id te de fe pr ch un ta ow bp w
  by_cases h2 : ki = 2
  · subst h2; exact EventMay_sale me mo id te de fe pr ch un ta ow bp w
  by_cases h3 : ki = 3
  · subst h3; exact EventMay_grant me mo id te de fe pr ch un ta ow bp w
  by_cases h4 : ki = 4
  · subst h4; exact EventMay_rekey me mo id te de fe pr ch un ta ow bp w
  by_cases h5 : ki = 5
  · subst h5; exact EventMay_charge me mo id te de fe pr ch un ta ow bp w
  exact EventMay_none ki me mo id te de fe pr ch un ta ow bp w h1 h2 h3 h4 h5
end Go.Proofs.Ytenoigmkhlnfoaa
namespace Go.Proofs.Ytenoigmkhlnfoaa
set_option linter.unusedSimpArgs false
set_option linter.unusedVariables false
open Go.RowKit
set_option maxRecDepth 20000
theorem infoU32 : (Try.prog.info? 103).map (fun i => (i.zero, i.size, i.bytes)) = some (some (.int .u32 0), 1, 4) := by kernel_rfl
end Go.Proofs.Ytenoigmkhlnfoaa
namespace Go.Proofs.Ytenoigmkhlnfoaa
set_option linter.unusedSimpArgs false
set_option linter.unusedVariables false
open Go Go.RowKit
set_option maxRecDepth 20000

abbrev fieldsV (g : Nat) : Value := .agg #[.pointer (some ⟨g, 0, none⟩), .pointer (some ⟨g, 1, none⟩), .pointer (some ⟨g, 2, none⟩), .pointer (some ⟨g, 3, none⟩), .pointer (some ⟨g, 4, none⟩), .pointer (some ⟨g, 5, none⟩), .pointer (some ⟨g, 6, none⟩), .pointer (some ⟨g, 7, none⟩), .pointer (some ⟨g, 8, none⟩), .pointer (some ⟨g, 9, none⟩), .pointer (some ⟨g, 10, none⟩), .pointer (some ⟨g, 11, none⟩), .pointer (some ⟨g, 12, none⟩)]
set_option maxHeartbeats 2000000 in
theorem fields_any (g : Nat) (w : World) : Calls Try.prog 97 #[.pointer (some ⟨g, 0, none⟩)] w (Grew (fieldsV g) w) := by
  have O := Lib.hid (Own.new (w := w) rfl [.pointer none, .pointer none, .pointer none, .pointer none, .pointer none, .pointer none, .pointer none, .pointer none, .pointer none, .pointer none, .pointer none, .pointer none, .pointer none] 165)
  have k0 := boxed_below w (.cells #[.pointer none, .pointer none, .pointer none, .pointer none, .pointer none, .pointer none, .pointer none, .pointer none, .pointer none, .pointer none, .pointer none, .pointer none, .pointer none] 165)
  go_enter Try.func97, Try.ntmps97
  go_wp2
  generalize w.alloc (.cells #[.pointer none, .pointer none, .pointer none, .pointer none, .pointer none, .pointer none, .pointer none, .pointer none, .pointer none, .pointer none, .pointer none, .pointer none, .pointer none] 165) = W at *
  have hz : w.heap.size < W.heap.size := O.out.lt
  have zO := O.out
  have zf0 := zO.f 0; have zf1 := zO.f 1; have zf2 := zO.f 2; have zf3 := zO.f 3; have zf4 := zO.f 4; have zf5 := zO.f 5; have zf6 := zO.f 6; have zf7 := zO.f 7; have zf8 := zO.f 8; have zf9 := zO.f 9; have zf10 := zO.f 10; have zf11 := zO.f 11; have zf12 := zO.f 12; have z0 := zO.c0; have z1 := zO.c1; have z2 := zO.c2; have z3 := zO.c3; have z4 := zO.c4; have z5 := zO.c5; have z6 := zO.c6; have z7 := zO.c7; have z8 := zO.c8; have z9 := zO.c9; have z10 := zO.c10; have z11 := zO.c11; have z12 := zO.c12
  clear zO
  have y0 : ({ heap := W.heap, tape := W.tape, drawn := W.drawn + 1, os := W.os, output := W.output } : World).cell? ⟨w.heap.size, 0, none⟩ = some (.pointer none) := z0
  have yf0 : ({ heap := W.heap, tape := W.tape, drawn := W.drawn + 1, os := W.os, output := W.output } : World).frozen? ⟨w.heap.size, 0, none⟩ = false := zf0
  have y1 : ({ heap := W.heap, tape := W.tape, drawn := W.drawn + 1, os := W.os, output := W.output } : World).cell? ⟨w.heap.size, 1, none⟩ = some (.pointer none) := z1
  have yf1 : ({ heap := W.heap, tape := W.tape, drawn := W.drawn + 1, os := W.os, output := W.output } : World).frozen? ⟨w.heap.size, 1, none⟩ = false := zf1
  have y2 : ({ heap := W.heap, tape := W.tape, drawn := W.drawn + 1, os := W.os, output := W.output } : World).cell? ⟨w.heap.size, 2, none⟩ = some (.pointer none) := z2
  have yf2 : ({ heap := W.heap, tape := W.tape, drawn := W.drawn + 1, os := W.os, output := W.output } : World).frozen? ⟨w.heap.size, 2, none⟩ = false := zf2
  have y3 : ({ heap := W.heap, tape := W.tape, drawn := W.drawn + 1, os := W.os, output := W.output } : World).cell? ⟨w.heap.size, 3, none⟩ = some (.pointer none) := z3
  have yf3 : ({ heap := W.heap, tape := W.tape, drawn := W.drawn + 1, os := W.os, output := W.output } : World).frozen? ⟨w.heap.size, 3, none⟩ = false := zf3
  have y4 : ({ heap := W.heap, tape := W.tape, drawn := W.drawn + 1, os := W.os, output := W.output } : World).cell? ⟨w.heap.size, 4, none⟩ = some (.pointer none) := z4
  have yf4 : ({ heap := W.heap, tape := W.tape, drawn := W.drawn + 1, os := W.os, output := W.output } : World).frozen? ⟨w.heap.size, 4, none⟩ = false := zf4
  have y5 : ({ heap := W.heap, tape := W.tape, drawn := W.drawn + 1, os := W.os, output := W.output } : World).cell? ⟨w.heap.size, 5, none⟩ = some (.pointer none) := z5
  have yf5 : ({ heap := W.heap, tape := W.tape, drawn := W.drawn + 1, os := W.os, output := W.output } : World).frozen? ⟨w.heap.size, 5, none⟩ = false := zf5
  have y6 : ({ heap := W.heap, tape := W.tape, drawn := W.drawn + 1, os := W.os, output := W.output } : World).cell? ⟨w.heap.size, 6, none⟩ = some (.pointer none) := z6
  have yf6 : ({ heap := W.heap, tape := W.tape, drawn := W.drawn + 1, os := W.os, output := W.output } : World).frozen? ⟨w.heap.size, 6, none⟩ = false := zf6
  have y7 : ({ heap := W.heap, tape := W.tape, drawn := W.drawn + 1, os := W.os, output := W.output } : World).cell? ⟨w.heap.size, 7, none⟩ = some (.pointer none) := z7
  have yf7 : ({ heap := W.heap, tape := W.tape, drawn := W.drawn + 1, os := W.os, output := W.output } : World).frozen? ⟨w.heap.size, 7, none⟩ = false := zf7
  have y8 : ({ heap := W.heap, tape := W.tape, drawn := W.drawn + 1, os := W.os, output := W.output } : World).cell? ⟨w.heap.size, 8, none⟩ = some (.pointer none) := z8
  have yf8 : ({ heap := W.heap, tape := W.tape, drawn := W.drawn + 1, os := W.os, output := W.output } : World).frozen? ⟨w.heap.size, 8, none⟩ = false := zf8
  have y9 : ({ heap := W.heap, tape := W.tape, drawn := W.drawn + 1, os := W.os, output := W.output } : World).cell? ⟨w.heap.size, 9, none⟩ = some (.pointer none) := z9
  have yf9 : ({ heap := W.heap, tape := W.tape, drawn := W.drawn + 1, os := W.os, output := W.output } : World).frozen? ⟨w.heap.size, 9, none⟩ = false := zf9
  have y10 : ({ heap := W.heap, tape := W.tape, drawn := W.drawn + 1, os := W.os, output := W.output } : World).cell? ⟨w.heap.size, 10, none⟩ = some (.pointer none) := z10
  have yf10 : ({ heap := W.heap, tape := W.tape, drawn := W.drawn + 1, os := W.os, output := W.output } : World).frozen? ⟨w.heap.size, 10, none⟩ = false := zf10
  have y11 : ({ heap := W.heap, tape := W.tape, drawn := W.drawn + 1, os := W.os, output := W.output } : World).cell? ⟨w.heap.size, 11, none⟩ = some (.pointer none) := z11
  have yf11 : ({ heap := W.heap, tape := W.tape, drawn := W.drawn + 1, os := W.os, output := W.output } : World).frozen? ⟨w.heap.size, 11, none⟩ = false := zf11
  have y12 : ({ heap := W.heap, tape := W.tape, drawn := W.drawn + 1, os := W.os, output := W.output } : World).cell? ⟨w.heap.size, 12, none⟩ = some (.pointer none) := z12
  have yf12 : ({ heap := W.heap, tape := W.tape, drawn := W.drawn + 1, os := W.os, output := W.output } : World).frozen? ⟨w.heap.size, 12, none⟩ = false := zf12
  have kk : Below w.heap.size w ({ heap := W.heap, tape := W.tape, drawn := W.drawn + 1, os := W.os, output := W.output } : World) := ⟨k0.os, k0.tape, k0.output, k0.size, k0.block⟩
  clear z0 z1 z2 z3 z4 z5 z6 z7 z8 z9 z10 z11 z12 zf0 zf1 zf2 zf3 zf4 zf5 zf6 zf7 zf8 zf9 zf10 zf11 zf12 k0
  go_still_tail 42, (by kernel_rfl)
  generalize ({ heap := W.heap, tape := W.tape, drawn := W.drawn + 1, os := W.os, output := W.output } : World) = V at *
  have r1 := set_same
  have r2 := set_off
  have r3 := set_blk
  go_wp2
  exact bodyPost_ret (v := fieldsV g) (by simp [results, Try.results97, go_sem, *]; try omega) rfl (⟨rfl, below_autor⟩)
theorem index13 (g k : Nat) (hk : k < 13) (w : World) : (Instr.index 165 (fieldsV g) (I k)).run Try.prog w = .ok (.pointer (some ⟨g, k, none⟩)) w := by
  have h0 : (Instr.index 165 (fieldsV g) (I 0)).run Try.prog w = .ok (.pointer (some ⟨g, 0, none⟩)) w := by kernel_rfl
  have h1 : (Instr.index 165 (fieldsV g) (I 1)).run Try.prog w = .ok (.pointer (some ⟨g, 1, none⟩)) w := by kernel_rfl
  have h2 : (Instr.index 165 (fieldsV g) (I 2)).run Try.prog w = .ok (.pointer (some ⟨g, 2, none⟩)) w := by kernel_rfl
  have h3 : (Instr.index 165 (fieldsV g) (I 3)).run Try.prog w = .ok (.pointer (some ⟨g, 3, none⟩)) w := by kernel_rfl
  have h4 : (Instr.index 165 (fieldsV g) (I 4)).run Try.prog w = .ok (.pointer (some ⟨g, 4, none⟩)) w := by kernel_rfl
  have h5 : (Instr.index 165 (fieldsV g) (I 5)).run Try.prog w = .ok (.pointer (some ⟨g, 5, none⟩)) w := by kernel_rfl
  have h6 : (Instr.index 165 (fieldsV g) (I 6)).run Try.prog w = .ok (.pointer (some ⟨g, 6, none⟩)) w := by kernel_rfl
  have h7 : (Instr.index 165 (fieldsV g) (I 7)).run Try.prog w = .ok (.pointer (some ⟨g, 7, none⟩)) w := by kernel_rfl
  have h8 : (Instr.index 165 (fieldsV g) (I 8)).run Try.prog w = .ok (.pointer (some ⟨g, 8, none⟩)) w := by kernel_rfl
  have h9 : (Instr.index 165 (fieldsV g) (I 9)).run Try.prog w = .ok (.pointer (some ⟨g, 9, none⟩)) w := by kernel_rfl
  have h10 : (Instr.index 165 (fieldsV g) (I 10)).run Try.prog w = .ok (.pointer (some ⟨g, 10, none⟩)) w := by kernel_rfl
  have h11 : (Instr.index 165 (fieldsV g) (I 11)).run Try.prog w = .ok (.pointer (some ⟨g, 11, none⟩)) w := by kernel_rfl
  have h12 : (Instr.index 165 (fieldsV g) (I 12)).run Try.prog w = .ok (.pointer (some ⟨g, 12, none⟩)) w := by kernel_rfl
  match k, hk with
  | 0, _ => exact h0
  | 1, _ => exact h1
  | 2, _ => exact h2
  | 3, _ => exact h3
  | 4, _ => exact h4
  | 5, _ => exact h5
  | 6, _ => exact h6
  | 7, _ => exact h7
  | 8, _ => exact h8
  | 9, _ => exact h9
  | 10, _ => exact h10
  | 11, _ => exact h11
  | 12, _ => exact h12
end Go.Proofs.Ytenoigmkhlnfoaa
namespace Go.Proofs.Ytenoigmkhlnfoaa
set_option linter.unusedSimpArgs false
set_option linter.unusedVariables false
open Go.RowKit
set_option maxRecDepth 20000

/-- of what was there only block z may have turned -/
structure Chg (z : Nat) (w w' : World) : Prop where
  os : w'.os = w.os
  tape : w'.tape = w.tape
  output : w'.output = w.output
  size : w.heap.size ≤ w'.heap.size
  block : ∀ b, b < w.heap.size → b ≠ z → w'.heap[b]? = w.heap[b]?
theorem Chg.refl (z : Nat) (w : World) : Chg z w w := ⟨rfl, rfl, rfl, Nat.le_refl _, fun _ _ _ => rfl⟩
theorem Chg.trans {z : Nat} {a b c : World} (h : Chg z a b) (k : Chg z b c) : Chg z a c :=
  ⟨k.os.trans h.os, k.tape.trans h.tape, k.output.trans h.output, Nat.le_trans h.size k.size, fun i hi hz => (k.block i (Nat.lt_of_lt_of_le hi h.size) hz).trans (h.block i hi hz)⟩
theorem Chg.of_below {z : Nat} {w w' : World} (h : Below w.heap.size w w') : Chg z w w' := ⟨h.os, h.tape, h.output, h.size, fun b hb _ => h.block b hb⟩
theorem Chg.below {z B : Nat} {a w w' : World} (h : Below B a w) (hz : B ≤ z) (k : Chg z w w') (hB : B ≤ w.heap.size) : Below B a w' :=
  h.trans ⟨k.os, k.tape, k.output, k.size, fun b hb => k.block b (by omega) (by omega)⟩
theorem Chg.set {z : Nat} {w w' : World} (h : Chg z w w') (j : Nat) (x : Value) : Chg z w (w'.setCell ⟨z, j, none⟩ x) :=
  ⟨h.os, h.tape, h.output, by simp [World.setCell]; exact h.size, fun b hb hz => by
    rw [← h.block b hb hz]; simp [World.setCell, Array.getElem?_modify, show ¬ z = b by omega]⟩
/-- a store into memory that was not there -/
theorem Chg.setNew {z : Nat} {w w' : World} (h : Chg z w w') (g j : Nat) (hg : w.heap.size ≤ g) (x : Value) : Chg z w (w'.setCell ⟨g, j, none⟩ x) :=
  ⟨h.os, h.tape, h.output, by simp [World.setCell]; exact h.size, fun b hb hz => by
    rw [← h.block b hb hz]; simp [World.setCell, Array.getElem?_modify, show ¬ g = b by omega]⟩
theorem Chg.drewN {z : Nat} {w w' : World} (h : Chg z w w') (q : Nat) : Chg z w (w'.drewN q) := ⟨h.os, h.tape, h.output, h.size, h.block⟩
/-- v does not lie in block z -/
def Far (z : Nat) (v : Value) : Prop := ∀ a n c, v = .slice (some a) n c → a.block ≠ z
theorem Far.nil (z n c : Nat) : Far z (.slice none n c) := by intro a n c h; cases h
theorem Sl.chg {z : Nat} {w w' : World} {v : Value} {sz n : Nat} {cs : List Value} (h : Sl w v sz n cs) (hf : 0 < n → Far z v) (k : Chg z w w') : Sl w' v sz n cs := by
  obtain ⟨a, cap, rfl, hn, hl, h0, h⟩ := h
  refine ⟨a, cap, rfl, hn, hl, h0, ?_⟩
  by_cases hn0 : n = 0
  · exact .inl hn0
  · obtain ⟨b, off, rfl, hb, hc⟩ := h.resolve_left hn0
    have hbz := hf (by omega) _ _ _ rfl
    refine .inr ⟨b, off, rfl, Nat.lt_of_lt_of_le hb k.size, fun j hj => ?_⟩
    rw [← hc j hj]
    exact World.cell?_of_block (w := w) (k.block b hb hbz)
theorem Sl.set {z j : Nat} {w : World} {v : Value} {sz n : Nat} {cs : List Value} (h : Sl w v sz n cs) (hf : Far z v) (x : Value) : Sl (w.setCell ⟨z, j, none⟩ x) v sz n cs :=
  h.chg (fun _ => hf) ((Chg.refl z w).set j x)
theorem Far.lit {z g o n c : Nat} (h : g ≠ z) : Far z (.slice (some ⟨g, o, none⟩) n c) := by intro a n c e; cases e; exact h
theorem Own.grown {w w' : World} {g : Nat} {cs : List Value} {row : Option Nat} (h : Own w g cs) (hg : w.grownBy w' row) (hne : some g ≠ row) : Own w' g cs := by
  have hl := h.lt
  obtain ⟨cur, e, h, hc⟩ := h
  exact ⟨cur, e, (hg.block g hl hne).trans h, hc⟩
theorem Own.chg {z : Nat} {w w' : World} {g : Nat} {cs : List Value} (h : Own w g cs) (k : Chg z w w') (hg : g ≠ z) : Own w' g cs := by
  have hl := h.lt
  obtain ⟨cur, e, h, hc⟩ := h
  exact ⟨cur, e, (k.block g hl hg).trans h, hc⟩
theorem Sl.farNew {w : World} {v : Value} {sz n z : Nat} {cs : List Value} (h : Sl w v sz n cs) (hz : w.heap.size ≤ z) : 0 < n → Far z v := by
  intro hn
  obtain ⟨a, cap, rfl, _, _, _, h⟩ := h
  obtain ⟨b, off, rfl, hb, _⟩ := h.resolve_left (by omega)
  intro a' n' c' e
  cases e
  show b ≠ z
  omega
end Go.Proofs.Ytenoigmkhlnfoaa
namespace Go.Proofs.Ytenoigmkhlnfoaa
set_option linter.unusedSimpArgs false
set_option linter.unusedVariables false
open Go Go.RowKit
set_option maxRecDepth 20000

def encL (b : Bool) (l : List Int) : List Int := if b then l else []
def encE (b : Bool) : Int := if b then 0 else 5
def EncP (b : Bool) (l : List Int) (w : World) (e : Ending) (w' : World) : Prop := GrewSl2 1 (encL b l).length ((encL b l).map U32) (encE b) w e w'
theorem hmf_any : ∀ (fn : Fn) (first cap : Array Value) (w : World), (Instr.makeFunc fn first cap).run Try.prog w = .ok (.func fn first cap) w := fun _ _ _ _ => rfl
set_option maxHeartbeats 4000000 in
theorem Encode_no (ki me mo id te de fe pr ch un ta ow bp : Int) (w : World) (hb : evMay ki me mo id te de fe pr ch un ta ow bp = false) : Calls Try.prog 77 #[evV ki me mo id te de fe pr ch un ta ow bp] w (EncP false [] w) := by
  have C := Lib.hid (fun W => check_any me mo id te de fe pr ch un ta ow bp ki W)
  rw [hb] at C
  have hmf := hmf_any
  clear hb
  go_enter_defers Try.func77, Try.ntmps77
  go_wp2_with fail
  refine (C.out _).mono ?_
  rintro e w1 ⟨he, k1⟩
  simp only [Bool.false_eq_true, if_false] at he
  subst he
  have hO := (Own.new (w := w.alloc (.cells #[I ki, I me, I mo, I id, I te, I de, I fe, I pr, I ch, I un, I ta, I ow, I bp] 72)) (g := w.heap.size + 1) (by simp) [I 0] 30).below k1
  have kk := below_box (below_box k1)
  have hg := hO.lt
  have cO := hO
  have cf0 := cO.f 0; have c0 := cO.c0
  clear cO
  clear C k1
  refine leaves_cons (f := 102) (args := #[.pointer (some ⟨w.heap.size + 1, 0, none⟩)]) (by simp) (by simp [go_sem]) ?_
  refine (enc_pan (w.heap.size + 1) 0 5 [] _ hg c0 cf0).mono ?_
  rintro e u' w'' ⟨rfl, rfl, w2, k2, rfl⟩
  have c2 := (k2.cell (p := ⟨w.heap.size + 1, 0, none⟩) hg).trans c0
  have c3 : (w2.setCell ⟨w.heap.size + 1, 0, none⟩ (I 5)).cell? ⟨w.heap.size + 1, 0, none⟩ = some (I 5) := by rw [set_same, c2]; rfl
  have kf : Below w.heap.size w (w2.setCell ⟨w.heap.size + 1, 0, none⟩ (I 5)) := (kk.trans (k2.mono kk.size)).setCell (by simp) _
  generalize w2.setCell ⟨w.heap.size + 1, 0, none⟩ (I 5) = w3 at *
  simp [Leaves, settle, results, Try.results77, go_sem, c3]
  refine ⟨_, rfl, Sl.nil _ _, kf⟩
theorem owns_far {w : World} {base e sz n z : Nat} {v : Value} {cs : List Value} (h : w.ownsRow base e sz v n cs) (hz : z < base) : Far z v := by
  rcases owns_cases h with ⟨rfl, _⟩ | ⟨g, cap, rfl, hb, _, _⟩
  · exact Far.nil _ _ _
  · exact Far.lit (by omega)
def EncRel (W : World) (L : List Int) (v : Value) (wr : World) : Prop := wr.ownsRow W.heap.size 103 1 v L.length (L.map U32) ∧ Below W.heap.size W wr
set_option maxHeartbeats 4000000 in
theorem Encode_yes (ki me mo id te de fe pr ch un ta ow bp : Int) (w : World) (hb : evMay ki me mo id te de fe pr ch un ta ow bp = true)
    (hl : ∀ k, k < 13 → 0 ≤ [ki, me, mo, id, te, de, fe, pr, ch, un, ta, ow, bp].getD k 0 ∧ [ki, me, mo, id, te, de, fe, pr, ch, un, ta, ow, bp].getD k 0 < 4294967296) :
    Calls Try.prog 77 #[evV ki me mo id te de fe pr ch un ta ow bp] w (EncP true [ki, me, mo, id, te, de, fe, pr, ch, un, ta, ow, bp] w) := by
  have C := Lib.hid (fun W => check_any me mo id te de fe pr ch un ta ow bp ki W)
  rw [hb] at C
  have hmf := hmf_any
  have F := Lib.hid (fun W => fields_any w.heap.size W)
  have HL := Lib.hid hl
  obtain ⟨i0, hi, hz0, hz1, hz2⟩ := info_parts infoU32
  have HI := Lib.hid (fun k hk W => index13 w.heap.size k hk W)
  clear hb hl
  go_enter_defers Try.func77, Try.ntmps77
  go_wp2_with fail
  refine (C.out _).mono ?_
  rintro e w1 ⟨he, k1⟩
  simp only [if_true] at he
  subst he
  have hO := (Own.new (w := w.alloc (.cells #[I ki, I me, I mo, I id, I te, I de, I fe, I pr, I ch, I un, I ta, I ow, I bp] 72)) (g := w.heap.size + 1) (by simp) [I 0] 30).below k1
  have hV := ((Own.new (w := w) rfl [I ki, I me, I mo, I id, I te, I de, I fe, I pr, I ch, I un, I ta, I ow, I bp] 72).alloc (.cells #[I 0] 30)).below k1
  have kk := below_box (below_box k1)
  clear C k1
  go_wp2_with fail
  refine (F.out _).mono ?_
  rintro e w2 ⟨rfl, k2⟩
  have kk2 := kk.trans (k2.mono kk.size)
  have HO := Lib.hid (hO.below k2)
  have HV := Lib.hid (hV.below k2)
  clear F k2 kk hO hV
  have HLen : Hid ([ki, me, mo, id, te, de, fe, pr, ch, un, ta, ow, bp].length = 13) := rfl
  have HV' : Hid (∀ W, Below w2.heap.size w2 W → ∀ k, k < 13 → W.cell? ⟨w.heap.size, k, none⟩ = some (I ([ki, me, mo, id, te, de, fe, pr, ch, un, ta, ow, bp].getD k 0))) := Lib.hid fun W hW k hk => by
    have h := (HV.out.below hW).cell k (by simpa using hk)
    rw [Nat.zero_add] at h
    rw [h]
    match k, hk with
    | 0, _ => rfl
    | 1, _ => rfl
    | 2, _ => rfl
    | 3, _ => rfl
    | 4, _ => rfl
    | 5, _ => rfl
    | 6, _ => rfl
    | 7, _ => rfl
    | 8, _ => rfl
    | 9, _ => rfl
    | 10, _ => rfl
    | 11, _ => rfl
    | 12, _ => rfl
  generalize [ki, me, mo, id, te, de, fe, pr, ch, un, ta, ow, bp] = l at *
  go_wp2
  go_loopw [2, 5, 10] (fun v _ i wr => ∃ k : Nat, k ≤ 13 ∧ i = I k ∧ Hid (EncRel w2 (l.take k) v wr)) (fun _ _ i _ => 13 - (intOf i).toNat)
  case atStart => exact ⟨0, by decide, rfl, World.ownsRow_nil _ _ _ _, Below.refl _ _⟩
  case round =>
    obtain ⟨k, hk, rfl, hD⟩ := hrel
    obtain ⟨hown, hbw⟩ := hD.out
    by_cases hlt : k < 13
    · have hix := fun W => HI.out k hlt W
      have hcell := HV'.out wr hbw k hlt
      obtain ⟨x0, x1⟩ := HL.out k hlt
      have hsn := Lib.hid (show l.take (k + 1) = l.take k ++ [l.getD k 0] by
        rw [List.take_succ_eq_append_getElem (by rw [HLen.out]; exact hlt)]
        rw [List.getD_eq_getElem?_getD, List.getElem?_eq_getElem (by rw [HLen.out]; exact hlt)]
        rfl)
      have hlen : (l.take k).length = k := by rw [List.length_take, HLen.out]; omega
      generalize l.getD k 0 = x at *
      have hwx : IntKind.u32.wrap x = x := by show x % 4294967296 = x; omega
      have hsz := hbw.size
      have hsk : (k : Int) < 13 := by omega
      go_wp2_with (first | (at_builtin; refine wpList_append_own _ rfl _ _ 37 rfl w2.heap.size 103 i0 (.int .u32 0) 1 4 Try.underlying37 hi hz0 hz1 hz2 rfl (by decide) _ _ _ rfl (hown.alloc _) ⟨wr.heap.size, 0, none⟩ 1 1 [U32 x] rfl rfl (news_lit _ [U32 x] _) (oneCells_lit rfl) (by unfold maxLen; omega) (by omega) (by simp; omega) ?_; intro v' w1 hown' hgrow _))
      have hbel := grown_below (hbw.alloc hsz _) (hown.alloc _) (Nat.le_refl _) hgrow
      rw [hlen] at hown'
      have hD' : Hid (EncRel w2 (l.take (k + 1)) v' w1) := by
        refine ⟨?_, hbel⟩
        rw [hsn.out, List.map_append, List.length_append, hlen]
        exact hown'
      clear hown hown' hgrow hbel hbw hD
      go_wp2
      exact ⟨⟨k + 1, by omega, by go_num, hD'⟩, by simp [intOf]; try omega⟩
    · obtain rfl : k = 13 := by omega
      have htk : l.take 13 = l := List.take_of_length_le (by rw [HLen.out]; omega)
      have hS := Sl.of_owns hown (by rw [htk, HLen.out]; omega)
      rw [htk] at hS
      have hO := HO.out.below hbw
      have HOr := Lib.hid hO
      have hg := hO.lt
      have cO := hO
      have cf0 := cO.f 0; have c0 := cO.c0
      clear cO
      have kw := kk2.trans (hbw.mono kk2.size)
      have r1 := set_same
      have hfar := owns_far (z := w.heap.size + 1) hown HO.out.lt
      clear hown hbw hO HO HV hD HI
      go_wp2
      refine leaves_cons (f := 102) (args := #[.pointer (some ⟨w.heap.size + 1, 0, none⟩)]) (by simp) (by simp [go_sem]) ?_
      have hO2 : Own (wr.setCell ⟨w.heap.size + 1, 0, none⟩ (I 0)) (w.heap.size + 1) [I 0] := HOr.out.set 0 (I 0)
      have kw2 := kw.setCell (p := ⟨w.heap.size + 1, 0, none⟩) (by simp) (I 0)
      have hS2 := hS.set (z := w.heap.size + 1) (j := 0) hfar (I 0)
      have hg2 := hO2.lt
      generalize wr.setCell ⟨w.heap.size + 1, 0, none⟩ (I 0) = w4 at *
      clear c0 cf0 r1
      have cO := hO2
      have cf0 := cO.f 0; have c0 := cO.c0
      clear cO
      refine (enc_idle (w.heap.size + 1) 0 _ hg2 c0 cf0).mono ?_
      rintro e u' w'' ⟨rfl, rfl, w5, k5, rfl⟩
      have c2 := (k5.cell (p := ⟨w.heap.size + 1, 0, none⟩) hg2).trans c0
      have c3 : (w5.setCell ⟨w.heap.size + 1, 0, none⟩ (I 0)).cell? ⟨w.heap.size + 1, 0, none⟩ = some (I 0) := by rw [set_same, c2]; rfl
      have kf : Below w.heap.size w (w5.setCell ⟨w.heap.size + 1, 0, none⟩ (I 0)) := (kw2.trans (k5.mono kw2.size)).setCell (by simp) _
      have hS5 := (hS2.below k5).set (z := w.heap.size + 1) (j := 0) hfar (I 0)
      generalize w5.setCell ⟨w.heap.size + 1, 0, none⟩ (I 0) = w6 at *
      simp [Leaves, settle, results, Try.results77, go_sem, c3]
      exact ⟨_, rfl, by rw [show (encL true l).length = l.length from rfl]; exact hS5, kf⟩
end Go.Proofs.Ytenoigmkhlnfoaa
