/- two values of type Debt held against each other (made by wip/bin/gen_api.py) · ref.EventMay · what (*book.keeper).keep answers -/
import Derived.Test.YtenoigmkhlnfoaaPk00
import Derived.Test.YtenoigmkhlnfoaaPk05
import Derived.Test.YtenoigmkhlnfoaaBookCheck
import Derived.Test.YtenoigmkhlnfoaaPk24
import Derived.Test.YtenoigmkhlnfoaaPk32
import Derived.Test.YtenoigmkhlnfoaaPk11
import Derived.Deep.DeepCutAuto
import Derived.Deep.RegionLaw
import Derived.Deep.AppendLies
import Derived.Test.YtenoigmkhlnfoaaPk23
import Derived.Test.YtenoigmkhlnfoaaAcctOwe
namespace Go.Proofs.Ytenoigmkhlnfoaa
set_option linter.unusedSimpArgs false
set_option linter.unusedVariables false
open Go.RowKit
set_option maxRecDepth 20000
end Go.Proofs.Ytenoigmkhlnfoaa
namespace Go.Proofs.Ytenoigmkhlnfoaa
set_option linter.unusedSimpArgs false
set_option linter.unusedVariables false
open Go Go.RowKit
set_option maxRecDepth 20000

def eqD2 (a b c d : Int) : Bool := decide (a = c ∧ b = d)
theorem neqDebt2 (a b c d : Int) (w : World) : (binOp .neq 60 (.agg #[I a, I b]) (.agg #[I c, I d])).run Try.prog w = .ok (.bool (!eqD2 a b c d)) w := by
  have := neqDebt_run ⟨a, b⟩ ⟨c, d⟩ w
  simpa [eqD2] using this
theorem eqlBill2 (x3 x4 x5 x6 x7 x8 x9 y3 y4 y5 y6 y7 y8 y9 : Int) (w : World) : (binOp .eql 70 (.agg #[I x3, I x4, I x5, I x6, I x7, I x8, I x9]) (.agg #[I y3, I y4, I y5, I y6, I y7, I y8, I y9])).run Try.prog w = .ok (.bool (eqE7 x3 x4 x5 x6 x7 x8 x9 y3 y4 y5 y6 y7 y8 y9)) w := by
  have := eqlBill_run ⟨x3, x4, x5, x6, x7, x8, x9⟩ ⟨y3, y4, y5, y6, y7, y8, y9⟩ w
  simpa [eqE7] using this
variable (ki me mo id te de fe pr ch un ta ow bp : Int)
set_option maxHeartbeats 4000000 in
theorem EventMay_reg (w : World) : Calls Try.prog 33 #[evV 1 me mo id te de fe pr ch un ta ow bp] w (Grew (.bool (evMay 1 me mo id te de fe pr ch un ta ow bp)) w) := by
  have HB := Lib.hid (evMay_reg me mo id te de fe pr ch un ta ow bp)
  generalize evMay 1 me mo id te de fe pr ch un ta ow bp = b at *
  have EQ := eqlEv_run
  have EB := eqlBill2
  have ED := neqDebt2
  go_enter Try.func33, Try.ntmps33
  go_wp2_with (go_at_call 43; refine (In_any _ _ _ _).mono ?_; rintro e w' ⟨rfl, rfl⟩)
  all_goals
    clear EQ EB ED
    go_ret
    refine Grew.intro (eB (Bool.eq_iff_iff.2 ?_)) (by repeat first | exact Below.refl _ _ | assumption | refine drewN_below ?_ _ | refine Below.alloc ?_ (by first | exact Nat.le_refl _ | exact Below.size (by assumption) | (simp; done) | (simp; omega) | omega) _ | refine Below.setCell ?_ (by first | exact Nat.le_refl _ | (simp; done) | (simp; omega) | omega) _)
    rw [HB.out]
    simp only [inB_true, inB_false, eqE, eqE7, eqD2, decide_eq_true_eq, decide_eq_false_iff_not, Bool.and_eq_true, Bool.false_eq_true, Bool.not_eq_true', Bool.not_eq_false', false_iff, beq_iff_eq, true_and, and_true] at * <;> omega
set_option maxHeartbeats 4000000 in
theorem EventMay_grant (w : World) : Calls Try.prog 33 #[evV 3 me mo id te de fe pr ch un ta ow bp] w (Grew (.bool (evMay 3 me mo id te de fe pr ch un ta ow bp)) w) := by
  have HB := Lib.hid (evMay_grant me mo id te de fe pr ch un ta ow bp)
  generalize evMay 3 me mo id te de fe pr ch un ta ow bp = b at *
  have EQ := eqlEv_run
  have EB := eqlBill2
  have ED := neqDebt2
  go_enter Try.func33, Try.ntmps33
  go_wp2_with (go_at_call 43; refine (In_any _ _ _ _).mono ?_; rintro e w' ⟨rfl, rfl⟩)
  all_goals
    clear EQ EB ED
    go_ret
    refine Grew.intro (eB (Bool.eq_iff_iff.2 ?_)) (by repeat first | exact Below.refl _ _ | assumption | refine drewN_below ?_ _ | refine Below.alloc ?_ (by first | exact Nat.le_refl _ | exact Below.size (by assumption) | (simp; done) | (simp; omega) | omega) _ | refine Below.setCell ?_ (by first | exact Nat.le_refl _ | (simp; done) | (simp; omega) | omega) _)
    rw [HB.out]
    simp only [inB_true, inB_false, eqE, eqE7, eqD2, decide_eq_true_eq, decide_eq_false_iff_not, Bool.and_eq_true, Bool.false_eq_true, Bool.not_eq_true', Bool.not_eq_false', false_iff, beq_iff_eq, true_and, and_true] at * <;> omega
set_option maxHeartbeats 4000000 in
theorem EventMay_rekey (w : World) : Calls Try.prog 33 #[evV 4 me mo id te de fe pr ch un ta ow bp] w (Grew (.bool (evMay 4 me mo id te de fe pr ch un ta ow bp)) w) := by
  have HB := Lib.hid (evMay_rekey me mo id te de fe pr ch un ta ow bp)
  generalize evMay 4 me mo id te de fe pr ch un ta ow bp = b at *
  have EQ := eqlEv_run
  have EB := eqlBill2
  have ED := neqDebt2
  go_enter Try.func33, Try.ntmps33
  go_wp2_with (go_at_call 43; refine (In_any _ _ _ _).mono ?_; rintro e w' ⟨rfl, rfl⟩)
  all_goals
    clear EQ EB ED
    go_ret
    refine Grew.intro (eB (Bool.eq_iff_iff.2 ?_)) (by repeat first | exact Below.refl _ _ | assumption | refine drewN_below ?_ _ | refine Below.alloc ?_ (by first | exact Nat.le_refl _ | exact Below.size (by assumption) | (simp; done) | (simp; omega) | omega) _ | refine Below.setCell ?_ (by first | exact Nat.le_refl _ | (simp; done) | (simp; omega) | omega) _)
    rw [HB.out]
    simp only [inB_true, inB_false, eqE, eqE7, eqD2, decide_eq_true_eq, decide_eq_false_iff_not, Bool.and_eq_true, Bool.false_eq_true, Bool.not_eq_true', Bool.not_eq_false', false_iff, beq_iff_eq, true_and, and_true] at * <;> omega
set_option maxHeartbeats 4000000 in
theorem EventMay_charge (w : World) : Calls Try.prog 33 #[evV 5 me mo id te de fe pr ch un ta ow bp] w (Grew (.bool (evMay 5 me mo id te de fe pr ch un ta ow bp)) w) := by
  have HB := Lib.hid (evMay_charge me mo id te de fe pr ch un ta ow bp)
  generalize evMay 5 me mo id te de fe pr ch un ta ow bp = b at *
  have EQ := eqlEv_run
  have EB := eqlBill2
  have ED := neqDebt2
  go_enter Try.func33, Try.ntmps33
  go_wp2_with (go_at_call 43; refine (In_any _ _ _ _).mono ?_; rintro e w' ⟨rfl, rfl⟩)
  all_goals
    clear EQ EB ED
    go_ret
    refine Grew.intro (eB (Bool.eq_iff_iff.2 ?_)) (by repeat first | exact Below.refl _ _ | assumption | refine drewN_below ?_ _ | refine Below.alloc ?_ (by first | exact Nat.le_refl _ | exact Below.size (by assumption) | (simp; done) | (simp; omega) | omega) _ | refine Below.setCell ?_ (by first | exact Nat.le_refl _ | (simp; done) | (simp; omega) | omega) _)
    rw [HB.out]
    simp only [inB_true, inB_false, eqE, eqE7, eqD2, decide_eq_true_eq, decide_eq_false_iff_not, Bool.and_eq_true, Bool.false_eq_true, Bool.not_eq_true', Bool.not_eq_false', false_iff, beq_iff_eq, true_and, and_true] at * <;> omega
set_option maxHeartbeats 4000000 in
theorem EventMay_sale (w : World) : Calls Try.prog 33 #[evV 2 me mo id te de fe pr ch un ta ow bp] w (Grew (.bool (evMay 2 me mo id te de fe pr ch un ta ow bp)) w) := by
  have HB := Lib.hid (evMay_sale me mo id te de fe pr ch un ta ow bp)
  generalize evMay 2 me mo id te de fe pr ch un ta ow bp = b at *
  have EQ := eqlEv_run
  have EB := eqlBill2
  have ED := neqDebt2
  by_cases hM : (0 ≤ de ∧ de ≤ 100000000) ∧ (0 ≤ fe ∧ fe ≤ 100000000) ∧ (0 ≤ pr ∧ pr ≤ 100000000) ∧ (0 ≤ ch ∧ ch ≤ 100000000)
  · obtain ⟨⟨m1, m2⟩, ⟨m3, m4⟩, ⟨m5, m6⟩, m7, m8⟩ := hM
    go_enter Try.func33, Try.ntmps33
    go_wp2_with (go_at_call 43; refine (In_any _ _ _ _).mono ?_; rintro e w' ⟨rfl, rfl⟩)
    all_goals
      clear EQ EB ED
      go_ret
      refine Grew.intro (eB (Bool.eq_iff_iff.2 ?_)) (by repeat first | exact Below.refl _ _ | assumption | refine drewN_below ?_ _ | refine Below.alloc ?_ (by first | exact Nat.le_refl _ | exact Below.size (by assumption) | (simp; done) | (simp; omega) | omega) _ | refine Below.setCell ?_ (by first | exact Nat.le_refl _ | (simp; done) | (simp; omega) | omega) _)
      rw [HB.out]
      simp only [inB_true, inB_false, eqE, eqE7, eqD2, decide_eq_true_eq, decide_eq_false_iff_not, Bool.and_eq_true, Bool.false_eq_true, Bool.not_eq_true', Bool.not_eq_false', false_iff, beq_iff_eq, true_and, and_true] at * <;> omega
  · have hd : de < 0 ∨ (100000000 < de) ∨ fe < 0 ∨ 100000000 < fe ∨ pr < 0 ∨ 100000000 < pr ∨ ch < 0 ∨ 100000000 < ch := by omega
    clear hM
    rcases hd with hd | hd | hd | hd | hd | hd | hd | hd
    all_goals
      go_enter Try.func33, Try.ntmps33
      go_wp2_with (go_at_call 43; refine (In_any _ _ _ _).mono ?_; rintro e w' ⟨rfl, rfl⟩)
      all_goals
        clear EQ EB ED
        go_ret
        refine Grew.intro (eB (Bool.eq_iff_iff.2 ?_)) (by repeat first | exact Below.refl _ _ | assumption | refine drewN_below ?_ _ | refine Below.alloc ?_ (by first | exact Nat.le_refl _ | exact Below.size (by assumption) | (simp; done) | (simp; omega) | omega) _ | refine Below.setCell ?_ (by first | exact Nat.le_refl _ | (simp; done) | (simp; omega) | omega) _)
        rw [HB.out]
        simp only [inB_true, inB_false, eqE, eqE7, eqD2, decide_eq_true_eq, decide_eq_false_iff_not, Bool.and_eq_true, Bool.false_eq_true, Bool.not_eq_true', Bool.not_eq_false', false_iff, beq_iff_eq, true_and, and_true] at * <;> omega
theorem EventMay_none (w : World) (h1 : ki ≠ 1) (h2 : ki ≠ 2) (h3 : ki ≠ 3) (h4 : ki ≠ 4) (h5 : ki ≠ 5) : Calls Try.prog 33 #[evV ki me mo id te de fe pr ch un ta ow bp] w (Grew (.bool (evMay ki me mo id te de fe pr ch un ta ow bp)) w) := by
  have HB : Hid (evMay ki me mo id te de fe pr ch un ta ow bp = true ↔ False) := by
    unfold Hid evMay
    rw [if_neg h1, if_neg h2, if_neg h3, if_neg h4, if_neg h5]
    simp
  have hk : inB ki 2 4 = false := by rw [inB_false]; omega
  generalize evMay ki me mo id te de fe pr ch un ta ow bp = b at *
  have EQ := eqlEv_run
  have EB := eqlBill2
  have ED := neqDebt2
  go_enter Try.func33, Try.ntmps33
  go_wp2_with (go_at_call 43; refine (In_any _ _ _ _).mono ?_; rintro e w' ⟨rfl, rfl⟩)
  all_goals
    clear EQ EB ED
    go_ret
    refine Grew.intro (eB (Bool.eq_iff_iff.2 ?_)) (by repeat first | exact Below.refl _ _ | assumption | refine drewN_below ?_ _ | refine Below.alloc ?_ (by first | exact Nat.le_refl _ | exact Below.size (by assumption) | (simp; done) | (simp; omega) | omega) _ | refine Below.setCell ?_ (by first | exact Nat.le_refl _ | (simp; done) | (simp; omega) | omega) _)
    rw [HB.out]
    simp only [inB_true, inB_false, eqE, eqE7, eqD2, decide_eq_true_eq, decide_eq_false_iff_not, Bool.and_eq_true, Bool.false_eq_true, Bool.not_eq_true', Bool.not_eq_false', false_iff, beq_iff_eq, true_and, and_true] at * <;> omega
theorem EventMay_any (w : World) : Calls Try.prog 33 #[evV ki me mo id te de fe pr ch un ta ow bp] w (Grew (.bool (evMay ki me mo id te de fe pr ch un ta ow bp)) w) := by
  by_cases h1 : ki = 1
  · subst h1; exact EventMay_reg me mo id te de fe pr ch un ta ow bp w
  by_cases h2 : ki = 2
  · subst h2; exact EventMay_sale me mo id te de fe pr ch un ta ow bp w
  by_cases h3 : ki = 3
  · subst h3; exact EventMay_grant me mo id te de fe pr ch un ta ow bp w
  by_cases h4 : ki = 4
  · subst h4; exact EventMay_rekey me mo id te de fe pr ch un ta ow bp w
  by_cases h5 : ki = 5
  · subst h5; exact EventMay_charge me mo id te de fe pr ch un ta ow bp w
  exact EventMay_none ki me mo id te de fe pr ch un ta ow bp w h1 h2 h3 h4 h5
end Go.Proofs.Ytenoigmkhlnfoaa
namespace Go.Proofs.Ytenoigmkhlnfoaa
set_option linter.unusedSimpArgs false
set_option linter.unusedVariables false
open Go Go.RowKit
set_option maxRecDepth 20000
/-- a keeper: its block, its map, its book -/
def KState (W : World) (B kb mb : Nat) (t : PTerms) (tv : Value) (cs : List PCust) : Prop :=
  ∃ v ys, Own W kb [v, tv, I t.f, I t.b, I t.d, I t.al, .map (some mb)] ∧ OwnIdx W mb (cs.map fun c => c.acc.meter) ∧ BookAt W B v cs ys
/-- an event is kept, or it throws its code, and what was there is as it was -/
def KeepP (A B kb mb : Nat) (t : PTerms) (tv : Value) (cs : List PCust) (v : AEvent) (w : World) (e : Ending) (w' : World) : Prop :=
  (evE t cs v = 0 → e = .returned (.tuple #[]) ∧ KState w' B kb mb t tv (evC t cs v) ∧ Below A w w') ∧ (evE t cs v ≠ 0 → e = .panicked [{ v := refV (evE t cs v), recovered := false }] ∧ Below w.heap.size w w')
theorem KeepP.no {A B kb mb : Nat} {t : PTerms} {tv : Value} {cs : List PCust} {v : AEvent} {w w' : World} {k : Int} (h : evE t cs v = k) (hk : k ≠ 0) (hb : Below w.heap.size w w') : KeepP A B kb mb t tv cs v w (.panicked [{ v := refV k, recovered := false }]) w' := by
  subst h
  exact ⟨fun h => absurd h hk, fun _ => ⟨rfl, hb⟩⟩
theorem KeepP.yes {A B kb mb : Nat} {t : PTerms} {tv : Value} {cs : List PCust} {v : AEvent} {w w' : World} (h : evE t cs v = 0) (hs : KState w' B kb mb t tv (evC t cs v)) (hb : Below A w w') : KeepP A B kb mb t tv cs v w (.returned (.tuple #[])) w' := ⟨fun _ => ⟨rfl, hs, hb⟩, fun hk => absurd h hk⟩
theorem below_le {B C : Nat} {w w' : World} (h : Below B w w') (hC : C ≤ B) : Below C w w' := h.mono hC
theorem set_meters {cs : List PCust} {j : Nat} {c : PCust} (hj : j < cs.length) (hm : c.acc.meter = (cs.getD j default).acc.meter) : (cs.set j c).map (fun c => c.acc.meter) = cs.map fun c => c.acc.meter := by
  apply List.ext_getElem?
  intro i
  rw [List.getElem?_map, List.getElem?_map, List.getElem?_set]
  by_cases e : j = i
  · subst e
    rw [if_pos rfl, if_pos hj, List.getElem?_eq_getElem hj]
    simp only [Option.map_some, Option.some.injEq]
    rw [hm, List.getD_eq_getElem?_getD, List.getElem?_eq_getElem hj]
    rfl
  · rw [if_neg e]
end Go.Proofs.Ytenoigmkhlnfoaa
