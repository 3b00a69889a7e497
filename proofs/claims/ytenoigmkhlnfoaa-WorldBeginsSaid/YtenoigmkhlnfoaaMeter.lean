/- meter.may, Begin, Tick and their references -/
import Derived.Test.YtenoigmkhlnfoaaWinMay
namespace Go.Proofs.Ytenoigmkhlnfoaa
set_option linter.unusedSimpArgs false
set_option linter.unusedVariables false
open Go.RowKit
set_option maxRecDepth 20000

/-- a meter -/
structure MM where
  me : Int
  rev : Int
  cr : Int
  h : Int
  b : Nat
  bad : Int
  lk : Int
abbrev MM.v (m : MM) : Value := .agg #[I m.me, I m.rev, I m.cr, I m.h, .int .u64 m.b, I m.bad, I m.lk]
def mayM (me rev cr h : Int) (b : Nat) (bad lk : Int) : Bool := decide (0 ≤ me ∧ me ≤ 49 ∧ 0 ≤ rev ∧ rev ≤ 15 ∧ 0 ≤ cr ∧ cr ≤ 99999999 ∧ 0 ≤ bad ∧ bad ≤ 4 ∧ 0 ≤ lk ∧ lk ≤ 30 ∧ ¬ (0 < bad ∧ 0 < lk)) && mayW h b
def MM.ok (m : MM) : Bool := mayM m.me m.rev m.cr m.h m.b m.bad m.lk
theorem mayM_true {me rev cr h : Int} {b : Nat} {bad lk : Int} : mayM me rev cr h b bad lk = true ↔ (0 ≤ me ∧ me ≤ 49 ∧ 0 ≤ rev ∧ rev ≤ 15 ∧ 0 ≤ cr ∧ cr ≤ 99999999 ∧ 0 ≤ bad ∧ bad ≤ 4 ∧ 0 ≤ lk ∧ lk ≤ 30 ∧ ¬ (0 < bad ∧ 0 < lk)) ∧ mayW h b = true := by
  unfold mayM; rw [Bool.and_eq_true, decide_eq_true_eq]
theorem mayM_no {me rev cr h : Int} {b : Nat} {bad lk : Int} (hh : ¬ (0 ≤ me ∧ me ≤ 49 ∧ 0 ≤ rev ∧ rev ≤ 15 ∧ 0 ≤ cr ∧ cr ≤ 99999999 ∧ 0 ≤ bad ∧ bad ≤ 4 ∧ 0 ≤ lk ∧ lk ≤ 30 ∧ ¬ (0 < bad ∧ 0 < lk))) : mayM me rev cr h b bad lk = false := by
  rw [← Bool.not_eq_true, mayM_true]; exact fun h => hh h.1
theorem mayM_yes {me rev cr h : Int} {b : Nat} {bad lk : Int} (hh : 0 ≤ me ∧ me ≤ 49 ∧ 0 ≤ rev ∧ rev ≤ 15 ∧ 0 ≤ cr ∧ cr ≤ 99999999 ∧ 0 ≤ bad ∧ bad ≤ 4 ∧ 0 ≤ lk ∧ lk ≤ 30 ∧ ¬ (0 < bad ∧ 0 < lk)) : mayM me rev cr h b bad lk = mayW h b := by
  unfold mayM; rw [decide_eq_true hh]; rfl

set_option maxHeartbeats 4000000 in
theorem may_meter (me rev cr h : Int) (b : Nat) (bad lk : Int) (w : World) (hb : b < 18446744073709551616) : Calls Try.prog 93 #[(MM.mk me rev cr h b bad lk).v] w (Grew (.bool (mayM me rev cr h b bad lk)) w) := by
  have U := Lib.hid (fun W => Used_any h b W hb)
  have hue : Hid ((usedE h b == 0) = mayW h b) := by
    unfold usedE; cases mayW h b <;> rfl
  have Y := Lib.hid (fun hh => mayM_yes (me := me) (rev := rev) (cr := cr) (h := h) (b := b) (bad := bad) (lk := lk) hh)
  have N := Lib.hid (fun hh => mayM_no (me := me) (rev := rev) (cr := cr) (h := h) (b := b) (bad := bad) (lk := lk) hh)
  generalize usedL h b = L at *
  generalize usedE h b = E at *
  generalize mayW h b = mw at *
  generalize mayM me rev cr h b bad lk = mm at *
  by_cases hA : 0 ≤ me ∧ me ≤ 49 ∧ 0 ≤ rev ∧ rev ≤ 15 ∧ 0 ≤ cr ∧ cr ≤ 99999999
  · obtain ⟨a1, a2, a3, a4, a5, a6⟩ := hA
    by_cases hB : 0 ≤ bad ∧ bad ≤ 4 ∧ 0 ≤ lk ∧ lk ≤ 30 ∧ ¬ (0 < bad ∧ 0 < lk)
    · obtain ⟨b1, b2, b3, b4, b5⟩ := hB
      rw [Y.out ⟨a1, a2, a3, a4, a5, a6, b1, b2, b3, b4, b5⟩]
      clear Y N
      by_cases h0 : 0 < bad
      · have h1 : ¬ 0 < lk := by omega
        clear b5
        go_enter Try.func93, Try.ntmps93
        go_wp2_with fail
        refine (U.out _).mono ?_
        rintro e w1 ⟨v, rfl, hS, k1⟩
        have k := below_box k1
        clear k1 hS
        go_wp2
        go_ret
        exact Grew.intro (eB hue.out) k
      · clear b5
        go_enter Try.func93, Try.ntmps93
        go_wp2_with fail
        refine (U.out _).mono ?_
        rintro e w1 ⟨v, rfl, hS, k1⟩
        have k := below_box k1
        clear k1 hS
        go_wp2
        go_ret
        exact Grew.intro (eB hue.out) k
    · rw [N.out (by omega)]
      have hcase : bad < 0 ∨ (0 ≤ bad ∧ 5 ≤ bad) ∨ (0 ≤ bad ∧ bad < 5 ∧ lk < 0) ∨ (0 ≤ bad ∧ bad < 5 ∧ 0 ≤ lk ∧ 30 < lk) ∨ (0 < bad ∧ bad < 5 ∧ 0 < lk ∧ lk ≤ 30) := by omega
      clear Y N U hue hB
      rcases hcase with c1 | ⟨c1, c2⟩ | ⟨c1, c2, c3⟩ | ⟨c1, c2, c3, c4⟩ | ⟨c1, c2, c3, c4⟩
      all_goals
        go_enter Try.func93, Try.ntmps93
        go_wp2
        go_ret
        exact Grew.intro rfl below_auto
  · rw [N.out (by omega)]
    have hcase : me < 0 ∨ (0 ≤ me ∧ 50 ≤ me) ∨ (0 ≤ me ∧ me < 50 ∧ rev < 0) ∨ (0 ≤ me ∧ me < 50 ∧ 0 ≤ rev ∧ 15 < rev) ∨ (0 ≤ me ∧ me < 50 ∧ 0 ≤ rev ∧ rev ≤ 15 ∧ cr < 0) ∨ (0 ≤ me ∧ me < 50 ∧ 0 ≤ rev ∧ rev ≤ 15 ∧ 0 ≤ cr ∧ 99999999 < cr) := by omega
    clear Y N U hue hA
    rcases hcase with c1 | ⟨c1, c2⟩ | ⟨c1, c2, c3⟩ | ⟨c1, c2, c3, c4⟩ | ⟨c1, c2, c3, c4, c5⟩ | ⟨c1, c2, c3, c4, c5, c6⟩
    all_goals
      go_enter Try.func93, Try.ntmps93
      go_wp2
      go_ret
      exact Grew.intro rfl below_auto

end Go.Proofs.Ytenoigmkhlnfoaa
