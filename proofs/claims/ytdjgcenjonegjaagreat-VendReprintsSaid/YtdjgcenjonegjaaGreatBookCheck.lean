/- book.check: which events may be -/
import Derived.Test.YtdjgcenjonegjaaGreatPk03
set_option maxRecDepth 20000
set_option maxHeartbeats 8000000
set_option linter.unusedSimpArgs false
set_option linter.unusedVariables false
namespace Go.Proofs.YtdjgcenjonegjaaGreat
open Go Go.RowKit

def mx (a b : Int) : Int := if b > a then b else a
def mx4 (a b c d : Int) : Int := mx (mx (mx a b) c) d
theorem run_mx4 (a b c d : Int) (w : World) : (Builtin.max_ #[3, 3, 3, 3] 3 #[.int .i64 a, .int .i64 b, .int .i64 c, .int .i64 d]).run Tryz.prog w = .ok (.int .i64 (mx4 a b c d)) w := by
  simp [Builtin.max_, Builtin.max2, mx4, mx]
theorem mx4_le {a b c d z : Int} : mx4 a b c d ≤ z ↔ a ≤ z ∧ b ≤ z ∧ c ≤ z ∧ d ≤ z := by
  unfold mx4 mx
  (repeat' split) <;> omega
variable (me mo id te de fe pr ch un ta ow bp : Int)
theorem evMay_reg : evMay 1 me mo id te de fe pr ch un ta ow bp = true ↔ (0 ≤ me ∧ me ≤ 49) ∧ mo = 0 ∧ (id = 0 ∧ te = 0 ∧ de = 0 ∧ fe = 0 ∧ pr = 0 ∧ ch = 0 ∧ un = 0) ∧ ta = 0 ∧ ow = 0 ∧ bp = 0 := by
  simp only [evMay, mayReg, Bool.and_eq_true, inB_true, if_pos, decide_eq_true_eq]
theorem evMay_sale : evMay 2 me mo id te de fe pr ch un ta ow bp = true ↔ (0 ≤ me ∧ me ≤ 49) ∧ (0 ≤ de ∧ 0 ≤ fe ∧ 0 ≤ pr ∧ 0 ≤ ch) ∧ (1 ≤ te ∧ te ≤ 100000000) ∧ de + fe + pr + ch = te ∧ (1 ≤ un ∧ un ≤ 2097151) ∧ (0 ≤ mo ∧ mo ≤ 2399) ∧ (1 ≤ id ∧ id ≤ 1048575) ∧ (0 ≤ ta ∧ ta ≤ 65535) ∧ ow = 0 ∧ bp = 0 := by
  simp [evMay, maySale, inB_true]
theorem evMay_grant : evMay 3 me mo id te de fe pr ch un ta ow bp = true ↔ (0 ≤ me ∧ me ≤ 49) ∧ (1 ≤ un ∧ un ≤ 2097151) ∧ (0 ≤ mo ∧ mo ≤ 2399) ∧ (1 ≤ id ∧ id ≤ 1048575) ∧ (0 ≤ ta ∧ ta ≤ 65535) ∧ (te = 0 ∧ de = 0 ∧ fe = 0 ∧ pr = 0 ∧ ch = 0) ∧ ow = 0 ∧ bp = 0 := by
  simp [evMay, mayGrant, inB_true]
theorem evMay_rekey : evMay 4 me mo id te de fe pr ch un ta ow bp = true ↔ (0 ≤ me ∧ me ≤ 49) ∧ (1 ≤ id ∧ id ≤ 1048575) ∧ (0 ≤ ta ∧ ta ≤ 65535) ∧ mo = 0 ∧ (te = 0 ∧ de = 0 ∧ fe = 0 ∧ pr = 0 ∧ ch = 0 ∧ un = 0) ∧ ow = 0 ∧ bp = 0 := by
  simp [evMay, mayRekey, inB_true]
theorem evMay_charge : evMay 5 me mo id te de fe pr ch un ta ow bp = true ↔ (0 ≤ me ∧ me ≤ 49) ∧ (1 ≤ ow ∧ ow ≤ 1000000000) ∧ (0 ≤ bp ∧ bp ≤ 10000) ∧ mo = 0 ∧ (id = 0 ∧ te = 0 ∧ de = 0 ∧ fe = 0 ∧ pr = 0 ∧ ch = 0 ∧ un = 0) ∧ ta = 0 := by
  simp [evMay, mayCharge, inB_true]
theorem check_reg (w : World) : Calls Tryz.prog 77 #[evV 1 me mo id te de fe pr ch un ta ow bp] w (EvP (evMay 1 me mo id te de fe pr ch un ta ow bp) w) := by
  have HB := Lib.hid (evMay_reg me mo id te de fe pr ch un ta ow bp); generalize evMay 1 me mo id te de fe pr ch un ta ow bp = b at *; have EQ := eqlEv_run; have MX := run_mx4; go_enter Tryz.func77, Tryz.ntmps77
  go_wp2_with (go_at_call 121; refine (bwithin_any _ _ _ _).mono ?_; rintro e w' ⟨rfl, rfl⟩)
  all_goals
    refine (want_any _ _ _).mono ?_; rintro e w' (⟨hbb, rfl, rfl⟩ | ⟨hbb, rfl, rfl⟩); rotate_left
    · exact ⟨rfl, EvP.no (Bool.eq_false_iff.2 fun hh => by have hc := HB.out.1 hh; first | omega | (rw [inB_false] at hbb; omega) | (rw [decide_eq_false_iff_not] at hbb; omega) | (unfold eqE at hbb; rw [decide_eq_false_iff_not] at hbb; omega) | (simp only [inB_false, inB_true] at *; omega) | (simp only [decide_eq_false_iff_not, mx4_le] at hbb; omega) | (simp only [decide_eq_false_iff_not, decide_eq_true_eq, mx4_le, beq_eq_false_iff_ne, beq_iff_eq] at *; omega)) below_auto⟩
    first | (exfalso; exact Bool.noConfusion hbb) | rw [inB_true] at hbb | rw [decide_eq_true_eq] at hbb | rw [beq_iff_eq] at hbb | (unfold eqE at hbb; rw [decide_eq_true_eq] at hbb) | skip
    try simp only [inB_true] at *
  go_wp2_with (go_at_call 121; refine (bwithin_any _ _ _ _).mono ?_; rintro e w' ⟨rfl, rfl⟩)
  all_goals
    refine (want_any _ _ _).mono ?_; rintro e w' (⟨hbb, rfl, rfl⟩ | ⟨hbb, rfl, rfl⟩); rotate_left
    · exact ⟨rfl, EvP.no (Bool.eq_false_iff.2 fun hh => by have hc := HB.out.1 hh; first | omega | (rw [inB_false] at hbb; omega) | (rw [decide_eq_false_iff_not] at hbb; omega) | (unfold eqE at hbb; rw [decide_eq_false_iff_not] at hbb; omega) | (simp only [inB_false, inB_true] at *; omega) | (simp only [decide_eq_false_iff_not, mx4_le] at hbb; omega) | (simp only [decide_eq_false_iff_not, decide_eq_true_eq, mx4_le, beq_eq_false_iff_ne, beq_iff_eq] at *; omega)) below_auto⟩
    first | (exfalso; exact Bool.noConfusion hbb) | rw [inB_true] at hbb | rw [decide_eq_true_eq] at hbb | rw [beq_iff_eq] at hbb | (unfold eqE at hbb; rw [decide_eq_true_eq] at hbb) | skip
    try simp only [inB_true] at *
  go_wp2; exact bodyPost_ret (results_none rfl _ _ _) rfl (EvP.yes (HB.out.2 (by omega)) below_auto)
theorem check_sale (w : World) : Calls Tryz.prog 77 #[evV 2 me mo id te de fe pr ch un ta ow bp] w (EvP (evMay 2 me mo id te de fe pr ch un ta ow bp) w) := by
  have HB := Lib.hid (evMay_sale me mo id te de fe pr ch un ta ow bp); generalize evMay 2 me mo id te de fe pr ch un ta ow bp = b at *; have EQ := eqlEv_run; have MX := run_mx4
  by_cases hM : de ≤ 100000000 ∧ fe ≤ 100000000 ∧ pr ≤ 100000000 ∧ ch ≤ 100000000
  · have hm := mx4_le.2 hM
    obtain ⟨m1, m2, m3, m4⟩ := hM; go_enter Tryz.func77, Tryz.ntmps77
    go_wp2_with (go_at_call 121; refine (bwithin_any _ _ _ _).mono ?_; rintro e w' ⟨rfl, rfl⟩)
    all_goals
      refine (want_any _ _ _).mono ?_; rintro e w' (⟨hbb, rfl, rfl⟩ | ⟨hbb, rfl, rfl⟩); rotate_left
      · exact ⟨rfl, EvP.no (Bool.eq_false_iff.2 fun hh => by have hc := HB.out.1 hh; first | omega | (rw [inB_false] at hbb; omega) | (rw [decide_eq_false_iff_not] at hbb; omega) | (unfold eqE at hbb; rw [decide_eq_false_iff_not] at hbb; omega) | (simp only [inB_false, inB_true] at *; omega) | (simp only [decide_eq_false_iff_not, mx4_le] at hbb; omega) | (simp only [decide_eq_false_iff_not, decide_eq_true_eq, mx4_le, beq_eq_false_iff_ne, beq_iff_eq] at *; omega)) below_auto⟩
      first | (exfalso; exact Bool.noConfusion hbb) | rw [inB_true] at hbb | rw [decide_eq_true_eq] at hbb | rw [beq_iff_eq] at hbb | (unfold eqE at hbb; rw [decide_eq_true_eq] at hbb) | skip
      try simp only [inB_true] at *
    go_wp2_with (go_at_call 121; refine (bwithin_any _ _ _ _).mono ?_; rintro e w' ⟨rfl, rfl⟩)
    all_goals
      refine (want_any _ _ _).mono ?_; rintro e w' (⟨hbb, rfl, rfl⟩ | ⟨hbb, rfl, rfl⟩); rotate_left
      · exact ⟨rfl, EvP.no (Bool.eq_false_iff.2 fun hh => by have hc := HB.out.1 hh; first | omega | (rw [inB_false] at hbb; omega) | (rw [decide_eq_false_iff_not] at hbb; omega) | (unfold eqE at hbb; rw [decide_eq_false_iff_not] at hbb; omega) | (simp only [inB_false, inB_true] at *; omega) | (simp only [decide_eq_false_iff_not, mx4_le] at hbb; omega) | (simp only [decide_eq_false_iff_not, decide_eq_true_eq, mx4_le, beq_eq_false_iff_ne, beq_iff_eq] at *; omega)) below_auto⟩
      first | (exfalso; exact Bool.noConfusion hbb) | rw [inB_true] at hbb | rw [decide_eq_true_eq] at hbb | rw [beq_iff_eq] at hbb | (unfold eqE at hbb; rw [decide_eq_true_eq] at hbb) | skip
      try simp only [inB_true] at *
    go_wp2_with (go_at_call 121; refine (bwithin_any _ _ _ _).mono ?_; rintro e w' ⟨rfl, rfl⟩)
    all_goals
      refine (want_any _ _ _).mono ?_; rintro e w' (⟨hbb, rfl, rfl⟩ | ⟨hbb, rfl, rfl⟩); rotate_left
      · exact ⟨rfl, EvP.no (Bool.eq_false_iff.2 fun hh => by have hc := HB.out.1 hh; first | omega | (rw [inB_false] at hbb; omega) | (rw [decide_eq_false_iff_not] at hbb; omega) | (unfold eqE at hbb; rw [decide_eq_false_iff_not] at hbb; omega) | (simp only [inB_false, inB_true] at *; omega) | (simp only [decide_eq_false_iff_not, mx4_le] at hbb; omega) | (simp only [decide_eq_false_iff_not, decide_eq_true_eq, mx4_le, beq_eq_false_iff_ne, beq_iff_eq] at *; omega)) below_auto⟩
      first | (exfalso; exact Bool.noConfusion hbb) | rw [inB_true] at hbb | rw [decide_eq_true_eq] at hbb | rw [beq_iff_eq] at hbb | (unfold eqE at hbb; rw [decide_eq_true_eq] at hbb) | skip
      try simp only [inB_true] at *
    go_wp2_with (go_at_call 121; refine (bwithin_any _ _ _ _).mono ?_; rintro e w' ⟨rfl, rfl⟩)
    all_goals
      refine (want_any _ _ _).mono ?_; rintro e w' (⟨hbb, rfl, rfl⟩ | ⟨hbb, rfl, rfl⟩); rotate_left
      · exact ⟨rfl, EvP.no (Bool.eq_false_iff.2 fun hh => by have hc := HB.out.1 hh; first | omega | (rw [inB_false] at hbb; omega) | (rw [decide_eq_false_iff_not] at hbb; omega) | (unfold eqE at hbb; rw [decide_eq_false_iff_not] at hbb; omega) | (simp only [inB_false, inB_true] at *; omega) | (simp only [decide_eq_false_iff_not, mx4_le] at hbb; omega) | (simp only [decide_eq_false_iff_not, decide_eq_true_eq, mx4_le, beq_eq_false_iff_ne, beq_iff_eq] at *; omega)) below_auto⟩
      first | (exfalso; exact Bool.noConfusion hbb) | rw [inB_true] at hbb | rw [decide_eq_true_eq] at hbb | rw [beq_iff_eq] at hbb | (unfold eqE at hbb; rw [decide_eq_true_eq] at hbb) | skip
      try simp only [inB_true] at *
    go_wp2_with (go_at_call 121; refine (bwithin_any _ _ _ _).mono ?_; rintro e w' ⟨rfl, rfl⟩)
    all_goals
      refine (want_any _ _ _).mono ?_; rintro e w' (⟨hbb, rfl, rfl⟩ | ⟨hbb, rfl, rfl⟩); rotate_left
      · exact ⟨rfl, EvP.no (Bool.eq_false_iff.2 fun hh => by have hc := HB.out.1 hh; first | omega | (rw [inB_false] at hbb; omega) | (rw [decide_eq_false_iff_not] at hbb; omega) | (unfold eqE at hbb; rw [decide_eq_false_iff_not] at hbb; omega) | (simp only [inB_false, inB_true] at *; omega) | (simp only [decide_eq_false_iff_not, mx4_le] at hbb; omega) | (simp only [decide_eq_false_iff_not, decide_eq_true_eq, mx4_le, beq_eq_false_iff_ne, beq_iff_eq] at *; omega)) below_auto⟩
      first | (exfalso; exact Bool.noConfusion hbb) | rw [inB_true] at hbb | rw [decide_eq_true_eq] at hbb | rw [beq_iff_eq] at hbb | (unfold eqE at hbb; rw [decide_eq_true_eq] at hbb) | skip
      try simp only [inB_true] at *
    go_wp2_with (go_at_call 121; refine (bwithin_any _ _ _ _).mono ?_; rintro e w' ⟨rfl, rfl⟩)
    all_goals
      refine (want_any _ _ _).mono ?_; rintro e w' (⟨hbb, rfl, rfl⟩ | ⟨hbb, rfl, rfl⟩); rotate_left
      · exact ⟨rfl, EvP.no (Bool.eq_false_iff.2 fun hh => by have hc := HB.out.1 hh; first | omega | (rw [inB_false] at hbb; omega) | (rw [decide_eq_false_iff_not] at hbb; omega) | (unfold eqE at hbb; rw [decide_eq_false_iff_not] at hbb; omega) | (simp only [inB_false, inB_true] at *; omega) | (simp only [decide_eq_false_iff_not, mx4_le] at hbb; omega) | (simp only [decide_eq_false_iff_not, decide_eq_true_eq, mx4_le, beq_eq_false_iff_ne, beq_iff_eq] at *; omega)) below_auto⟩
      first | (exfalso; exact Bool.noConfusion hbb) | rw [inB_true] at hbb | rw [decide_eq_true_eq] at hbb | rw [beq_iff_eq] at hbb | (unfold eqE at hbb; rw [decide_eq_true_eq] at hbb) | skip
      try simp only [inB_true] at *
    go_wp2; exact bodyPost_ret (results_none rfl _ _ _) rfl (EvP.yes (HB.out.2 (by omega)) below_auto)
  · have hm : ¬ mx4 de fe pr ch ≤ 100000000 := fun h => hM (mx4_le.1 h)
    have HB2 : Hid (b = false) := Bool.eq_false_iff.2 fun hh => by have := HB.out.1 hh; omega
    clear hM; go_enter Tryz.func77, Tryz.ntmps77
    go_wp2_with (go_at_call 121; refine (bwithin_any _ _ _ _).mono ?_; rintro e w' ⟨rfl, rfl⟩)
    all_goals
      refine (want_any _ _ _).mono ?_; rintro e w' (⟨hbb, rfl, rfl⟩ | ⟨hbb, rfl, rfl⟩); rotate_left
      · exact ⟨rfl, EvP.no (Bool.eq_false_iff.2 fun hh => by have hc := HB.out.1 hh; first | omega | (rw [inB_false] at hbb; omega) | (rw [decide_eq_false_iff_not] at hbb; omega) | (unfold eqE at hbb; rw [decide_eq_false_iff_not] at hbb; omega) | (simp only [inB_false, inB_true] at *; omega) | (simp only [decide_eq_false_iff_not, mx4_le] at hbb; omega) | (simp only [decide_eq_false_iff_not, decide_eq_true_eq, mx4_le, beq_eq_false_iff_ne, beq_iff_eq] at *; omega)) below_auto⟩
      first | (exfalso; exact Bool.noConfusion hbb) | rw [inB_true] at hbb | rw [decide_eq_true_eq] at hbb | rw [beq_iff_eq] at hbb | (unfold eqE at hbb; rw [decide_eq_true_eq] at hbb) | skip
      try simp only [inB_true] at *
    go_wp2_with (go_at_call 121; refine (bwithin_any _ _ _ _).mono ?_; rintro e w' ⟨rfl, rfl⟩)
    all_goals
      refine (want_any _ _ _).mono ?_; rintro e w' (⟨hbb, rfl, rfl⟩ | ⟨hbb, rfl, rfl⟩); rotate_left
      · exact ⟨rfl, EvP.no (Bool.eq_false_iff.2 fun hh => by have hc := HB.out.1 hh; first | omega | (rw [inB_false] at hbb; omega) | (rw [decide_eq_false_iff_not] at hbb; omega) | (unfold eqE at hbb; rw [decide_eq_false_iff_not] at hbb; omega) | (simp only [inB_false, inB_true] at *; omega) | (simp only [decide_eq_false_iff_not, mx4_le] at hbb; omega) | (simp only [decide_eq_false_iff_not, decide_eq_true_eq, mx4_le, beq_eq_false_iff_ne, beq_iff_eq] at *; omega)) below_auto⟩
      first | (exfalso; exact Bool.noConfusion hbb) | rw [inB_true] at hbb | rw [decide_eq_true_eq] at hbb | rw [beq_iff_eq] at hbb | (unfold eqE at hbb; rw [decide_eq_true_eq] at hbb) | skip
      try simp only [inB_true] at *
    go_wp2_with fail
    refine (want_no _ _).mono ?_; rintro e w' ⟨rfl, rfl⟩; exact ⟨rfl, EvP.no HB2.out below_auto⟩
theorem check_grant (w : World) : Calls Tryz.prog 77 #[evV 3 me mo id te de fe pr ch un ta ow bp] w (EvP (evMay 3 me mo id te de fe pr ch un ta ow bp) w) := by
  have HB := Lib.hid (evMay_grant me mo id te de fe pr ch un ta ow bp); generalize evMay 3 me mo id te de fe pr ch un ta ow bp = b at *; have EQ := eqlEv_run; have MX := run_mx4; go_enter Tryz.func77, Tryz.ntmps77
  go_wp2_with (go_at_call 121; refine (bwithin_any _ _ _ _).mono ?_; rintro e w' ⟨rfl, rfl⟩)
  all_goals
    refine (want_any _ _ _).mono ?_; rintro e w' (⟨hbb, rfl, rfl⟩ | ⟨hbb, rfl, rfl⟩); rotate_left
    · exact ⟨rfl, EvP.no (Bool.eq_false_iff.2 fun hh => by have hc := HB.out.1 hh; first | omega | (rw [inB_false] at hbb; omega) | (rw [decide_eq_false_iff_not] at hbb; omega) | (unfold eqE at hbb; rw [decide_eq_false_iff_not] at hbb; omega) | (simp only [inB_false, inB_true] at *; omega) | (simp only [decide_eq_false_iff_not, mx4_le] at hbb; omega) | (simp only [decide_eq_false_iff_not, decide_eq_true_eq, mx4_le, beq_eq_false_iff_ne, beq_iff_eq] at *; omega)) below_auto⟩
    first | (exfalso; exact Bool.noConfusion hbb) | rw [inB_true] at hbb | rw [decide_eq_true_eq] at hbb | rw [beq_iff_eq] at hbb | (unfold eqE at hbb; rw [decide_eq_true_eq] at hbb) | skip
    try simp only [inB_true] at *
  go_wp2_with (go_at_call 121; refine (bwithin_any _ _ _ _).mono ?_; rintro e w' ⟨rfl, rfl⟩)
  all_goals
    refine (want_any _ _ _).mono ?_; rintro e w' (⟨hbb, rfl, rfl⟩ | ⟨hbb, rfl, rfl⟩); rotate_left
    · exact ⟨rfl, EvP.no (Bool.eq_false_iff.2 fun hh => by have hc := HB.out.1 hh; first | omega | (rw [inB_false] at hbb; omega) | (rw [decide_eq_false_iff_not] at hbb; omega) | (unfold eqE at hbb; rw [decide_eq_false_iff_not] at hbb; omega) | (simp only [inB_false, inB_true] at *; omega) | (simp only [decide_eq_false_iff_not, mx4_le] at hbb; omega) | (simp only [decide_eq_false_iff_not, decide_eq_true_eq, mx4_le, beq_eq_false_iff_ne, beq_iff_eq] at *; omega)) below_auto⟩
    first | (exfalso; exact Bool.noConfusion hbb) | rw [inB_true] at hbb | rw [decide_eq_true_eq] at hbb | rw [beq_iff_eq] at hbb | (unfold eqE at hbb; rw [decide_eq_true_eq] at hbb) | skip
    try simp only [inB_true] at *
  go_wp2_with (go_at_call 121; refine (bwithin_any _ _ _ _).mono ?_; rintro e w' ⟨rfl, rfl⟩)
  all_goals
    refine (want_any _ _ _).mono ?_; rintro e w' (⟨hbb, rfl, rfl⟩ | ⟨hbb, rfl, rfl⟩); rotate_left
    · exact ⟨rfl, EvP.no (Bool.eq_false_iff.2 fun hh => by have hc := HB.out.1 hh; first | omega | (rw [inB_false] at hbb; omega) | (rw [decide_eq_false_iff_not] at hbb; omega) | (unfold eqE at hbb; rw [decide_eq_false_iff_not] at hbb; omega) | (simp only [inB_false, inB_true] at *; omega) | (simp only [decide_eq_false_iff_not, mx4_le] at hbb; omega) | (simp only [decide_eq_false_iff_not, decide_eq_true_eq, mx4_le, beq_eq_false_iff_ne, beq_iff_eq] at *; omega)) below_auto⟩
    first | (exfalso; exact Bool.noConfusion hbb) | rw [inB_true] at hbb | rw [decide_eq_true_eq] at hbb | rw [beq_iff_eq] at hbb | (unfold eqE at hbb; rw [decide_eq_true_eq] at hbb) | skip
    try simp only [inB_true] at *
  go_wp2_with (go_at_call 121; refine (bwithin_any _ _ _ _).mono ?_; rintro e w' ⟨rfl, rfl⟩)
  all_goals
    refine (want_any _ _ _).mono ?_; rintro e w' (⟨hbb, rfl, rfl⟩ | ⟨hbb, rfl, rfl⟩); rotate_left
    · exact ⟨rfl, EvP.no (Bool.eq_false_iff.2 fun hh => by have hc := HB.out.1 hh; first | omega | (rw [inB_false] at hbb; omega) | (rw [decide_eq_false_iff_not] at hbb; omega) | (unfold eqE at hbb; rw [decide_eq_false_iff_not] at hbb; omega) | (simp only [inB_false, inB_true] at *; omega) | (simp only [decide_eq_false_iff_not, mx4_le] at hbb; omega) | (simp only [decide_eq_false_iff_not, decide_eq_true_eq, mx4_le, beq_eq_false_iff_ne, beq_iff_eq] at *; omega)) below_auto⟩
    first | (exfalso; exact Bool.noConfusion hbb) | rw [inB_true] at hbb | rw [decide_eq_true_eq] at hbb | rw [beq_iff_eq] at hbb | (unfold eqE at hbb; rw [decide_eq_true_eq] at hbb) | skip
    try simp only [inB_true] at *
  go_wp2; exact bodyPost_ret (results_none rfl _ _ _) rfl (EvP.yes (HB.out.2 (by omega)) below_auto)
theorem check_rekey (w : World) : Calls Tryz.prog 77 #[evV 4 me mo id te de fe pr ch un ta ow bp] w (EvP (evMay 4 me mo id te de fe pr ch un ta ow bp) w) := by
  have HB := Lib.hid (evMay_rekey me mo id te de fe pr ch un ta ow bp); generalize evMay 4 me mo id te de fe pr ch un ta ow bp = b at *; have EQ := eqlEv_run; have MX := run_mx4; go_enter Tryz.func77, Tryz.ntmps77
  go_wp2_with (go_at_call 121; refine (bwithin_any _ _ _ _).mono ?_; rintro e w' ⟨rfl, rfl⟩)
  all_goals
    refine (want_any _ _ _).mono ?_; rintro e w' (⟨hbb, rfl, rfl⟩ | ⟨hbb, rfl, rfl⟩); rotate_left
    · exact ⟨rfl, EvP.no (Bool.eq_false_iff.2 fun hh => by have hc := HB.out.1 hh; first | omega | (rw [inB_false] at hbb; omega) | (rw [decide_eq_false_iff_not] at hbb; omega) | (unfold eqE at hbb; rw [decide_eq_false_iff_not] at hbb; omega) | (simp only [inB_false, inB_true] at *; omega) | (simp only [decide_eq_false_iff_not, mx4_le] at hbb; omega) | (simp only [decide_eq_false_iff_not, decide_eq_true_eq, mx4_le, beq_eq_false_iff_ne, beq_iff_eq] at *; omega)) below_auto⟩
    first | (exfalso; exact Bool.noConfusion hbb) | rw [inB_true] at hbb | rw [decide_eq_true_eq] at hbb | rw [beq_iff_eq] at hbb | (unfold eqE at hbb; rw [decide_eq_true_eq] at hbb) | skip
    try simp only [inB_true] at *
  go_wp2_with (go_at_call 121; refine (bwithin_any _ _ _ _).mono ?_; rintro e w' ⟨rfl, rfl⟩)
  all_goals
    refine (want_any _ _ _).mono ?_; rintro e w' (⟨hbb, rfl, rfl⟩ | ⟨hbb, rfl, rfl⟩); rotate_left
    · exact ⟨rfl, EvP.no (Bool.eq_false_iff.2 fun hh => by have hc := HB.out.1 hh; first | omega | (rw [inB_false] at hbb; omega) | (rw [decide_eq_false_iff_not] at hbb; omega) | (unfold eqE at hbb; rw [decide_eq_false_iff_not] at hbb; omega) | (simp only [inB_false, inB_true] at *; omega) | (simp only [decide_eq_false_iff_not, mx4_le] at hbb; omega) | (simp only [decide_eq_false_iff_not, decide_eq_true_eq, mx4_le, beq_eq_false_iff_ne, beq_iff_eq] at *; omega)) below_auto⟩
    first | (exfalso; exact Bool.noConfusion hbb) | rw [inB_true] at hbb | rw [decide_eq_true_eq] at hbb | rw [beq_iff_eq] at hbb | (unfold eqE at hbb; rw [decide_eq_true_eq] at hbb) | skip
    try simp only [inB_true] at *
  go_wp2_with (go_at_call 121; refine (bwithin_any _ _ _ _).mono ?_; rintro e w' ⟨rfl, rfl⟩)
  all_goals
    refine (want_any _ _ _).mono ?_; rintro e w' (⟨hbb, rfl, rfl⟩ | ⟨hbb, rfl, rfl⟩); rotate_left
    · exact ⟨rfl, EvP.no (Bool.eq_false_iff.2 fun hh => by have hc := HB.out.1 hh; first | omega | (rw [inB_false] at hbb; omega) | (rw [decide_eq_false_iff_not] at hbb; omega) | (unfold eqE at hbb; rw [decide_eq_false_iff_not] at hbb; omega) | (simp only [inB_false, inB_true] at *; omega) | (simp only [decide_eq_false_iff_not, mx4_le] at hbb; omega) | (simp only [decide_eq_false_iff_not, decide_eq_true_eq, mx4_le, beq_eq_false_iff_ne, beq_iff_eq] at *; omega)) below_auto⟩
    first | (exfalso; exact Bool.noConfusion hbb) | rw [inB_true] at hbb | rw [decide_eq_true_eq] at hbb | rw [beq_iff_eq] at hbb | (unfold eqE at hbb; rw [decide_eq_true_eq] at hbb) | skip
    try simp only [inB_true] at *
  go_wp2; exact bodyPost_ret (results_none rfl _ _ _) rfl (EvP.yes (HB.out.2 (by omega)) below_auto)
theorem check_charge (w : World) : Calls Tryz.prog 77 #[evV 5 me mo id te de fe pr ch un ta ow bp] w (EvP (evMay 5 me mo id te de fe pr ch un ta ow bp) w) := by
  have HB := Lib.hid (evMay_charge me mo id te de fe pr ch un ta ow bp); generalize evMay 5 me mo id te de fe pr ch un ta ow bp = b at *; have EQ := eqlEv_run; have MX := run_mx4; go_enter Tryz.func77, Tryz.ntmps77
  go_wp2_with (go_at_call 121; refine (bwithin_any _ _ _ _).mono ?_; rintro e w' ⟨rfl, rfl⟩)
  all_goals
    refine (want_any _ _ _).mono ?_; rintro e w' (⟨hbb, rfl, rfl⟩ | ⟨hbb, rfl, rfl⟩); rotate_left
    · exact ⟨rfl, EvP.no (Bool.eq_false_iff.2 fun hh => by have hc := HB.out.1 hh; first | omega | (rw [inB_false] at hbb; omega) | (rw [decide_eq_false_iff_not] at hbb; omega) | (unfold eqE at hbb; rw [decide_eq_false_iff_not] at hbb; omega) | (simp only [inB_false, inB_true] at *; omega) | (simp only [decide_eq_false_iff_not, mx4_le] at hbb; omega) | (simp only [decide_eq_false_iff_not, decide_eq_true_eq, mx4_le, beq_eq_false_iff_ne, beq_iff_eq] at *; omega)) below_auto⟩
    first | (exfalso; exact Bool.noConfusion hbb) | rw [inB_true] at hbb | rw [decide_eq_true_eq] at hbb | rw [beq_iff_eq] at hbb | (unfold eqE at hbb; rw [decide_eq_true_eq] at hbb) | skip
    try simp only [inB_true] at *
  go_wp2_with (go_at_call 121; refine (bwithin_any _ _ _ _).mono ?_; rintro e w' ⟨rfl, rfl⟩)
  all_goals
    refine (want_any _ _ _).mono ?_; rintro e w' (⟨hbb, rfl, rfl⟩ | ⟨hbb, rfl, rfl⟩); rotate_left
    · exact ⟨rfl, EvP.no (Bool.eq_false_iff.2 fun hh => by have hc := HB.out.1 hh; first | omega | (rw [inB_false] at hbb; omega) | (rw [decide_eq_false_iff_not] at hbb; omega) | (unfold eqE at hbb; rw [decide_eq_false_iff_not] at hbb; omega) | (simp only [inB_false, inB_true] at *; omega) | (simp only [decide_eq_false_iff_not, mx4_le] at hbb; omega) | (simp only [decide_eq_false_iff_not, decide_eq_true_eq, mx4_le, beq_eq_false_iff_ne, beq_iff_eq] at *; omega)) below_auto⟩
    first | (exfalso; exact Bool.noConfusion hbb) | rw [inB_true] at hbb | rw [decide_eq_true_eq] at hbb | rw [beq_iff_eq] at hbb | (unfold eqE at hbb; rw [decide_eq_true_eq] at hbb) | skip
    try simp only [inB_true] at *
  go_wp2_with (go_at_call 121; refine (bwithin_any _ _ _ _).mono ?_; rintro e w' ⟨rfl, rfl⟩)
  all_goals
    refine (want_any _ _ _).mono ?_; rintro e w' (⟨hbb, rfl, rfl⟩ | ⟨hbb, rfl, rfl⟩); rotate_left
    · exact ⟨rfl, EvP.no (Bool.eq_false_iff.2 fun hh => by have hc := HB.out.1 hh; first | omega | (rw [inB_false] at hbb; omega) | (rw [decide_eq_false_iff_not] at hbb; omega) | (unfold eqE at hbb; rw [decide_eq_false_iff_not] at hbb; omega) | (simp only [inB_false, inB_true] at *; omega) | (simp only [decide_eq_false_iff_not, mx4_le] at hbb; omega) | (simp only [decide_eq_false_iff_not, decide_eq_true_eq, mx4_le, beq_eq_false_iff_ne, beq_iff_eq] at *; omega)) below_auto⟩
    first | (exfalso; exact Bool.noConfusion hbb) | rw [inB_true] at hbb | rw [decide_eq_true_eq] at hbb | rw [beq_iff_eq] at hbb | (unfold eqE at hbb; rw [decide_eq_true_eq] at hbb) | skip
    try simp only [inB_true] at *
  go_wp2; exact bodyPost_ret (results_none rfl _ _ _) rfl (EvP.yes (HB.out.2 (by omega)) below_auto)
theorem check_none (ki : Int) (w : World) (h1 : ki ≠ 1) (h2 : ki ≠ 2) (h3 : ki ≠ 3) (h4 : ki ≠ 4) (h5 : ki ≠ 5) : Calls Tryz.prog 77 #[evV ki me mo id te de fe pr ch un ta ow bp] w (EvP (evMay ki me mo id te de fe pr ch un ta ow bp) w) := by
  have HB : Hid (evMay ki me mo id te de fe pr ch un ta ow bp = true ↔ False) := by
    unfold Hid evMay; rw [if_neg h1, if_neg h2, if_neg h3, if_neg h4, if_neg h5]; simp
  generalize evMay ki me mo id te de fe pr ch un ta ow bp = b at *; go_enter Tryz.func77, Tryz.ntmps77
  go_wp2_with (go_at_call 121; refine (bwithin_any _ _ _ _).mono ?_; rintro e w' ⟨rfl, rfl⟩)
  all_goals
    refine (want_any _ _ _).mono ?_; rintro e w' (⟨hbb, rfl, rfl⟩ | ⟨hbb, rfl, rfl⟩); rotate_left
    · exact ⟨rfl, EvP.no (Bool.eq_false_iff.2 fun hh => by have hc := HB.out.1 hh; first | omega | (rw [inB_false] at hbb; omega) | (rw [decide_eq_false_iff_not] at hbb; omega) | (unfold eqE at hbb; rw [decide_eq_false_iff_not] at hbb; omega) | (simp only [inB_false, inB_true] at *; omega) | (simp only [decide_eq_false_iff_not, mx4_le] at hbb; omega) | (simp only [decide_eq_false_iff_not, decide_eq_true_eq, mx4_le, beq_eq_false_iff_ne, beq_iff_eq] at *; omega)) below_auto⟩
    first | (exfalso; exact Bool.noConfusion hbb) | rw [inB_true] at hbb | rw [decide_eq_true_eq] at hbb | rw [beq_iff_eq] at hbb | (unfold eqE at hbb; rw [decide_eq_true_eq] at hbb) | skip
    try simp only [inB_true] at *
  go_wp2_with (go_at_call 121; refine (bwithin_any _ _ _ _).mono ?_; rintro e w' ⟨rfl, rfl⟩)
  all_goals
    refine (want_any _ _ _).mono ?_; rintro e w' (⟨hbb, rfl, rfl⟩ | ⟨hbb, rfl, rfl⟩); rotate_left
    · exact ⟨rfl, EvP.no (Bool.eq_false_iff.2 fun hh => by have hc := HB.out.1 hh; first | omega | (rw [inB_false] at hbb; omega) | (rw [decide_eq_false_iff_not] at hbb; omega) | (unfold eqE at hbb; rw [decide_eq_false_iff_not] at hbb; omega) | (simp only [inB_false, inB_true] at *; omega) | (simp only [decide_eq_false_iff_not, mx4_le] at hbb; omega) | (simp only [decide_eq_false_iff_not, decide_eq_true_eq, mx4_le, beq_eq_false_iff_ne, beq_iff_eq] at *; omega)) below_auto⟩
    first | (exfalso; exact Bool.noConfusion hbb) | rw [inB_true] at hbb | rw [decide_eq_true_eq] at hbb | rw [beq_iff_eq] at hbb | (unfold eqE at hbb; rw [decide_eq_true_eq] at hbb) | skip
    try simp only [inB_true] at *
theorem check_any (ki : Int) (w : World) : Calls Tryz.prog 77 #[evV ki me mo id te de fe pr ch un ta ow bp] w (EvP (evMay ki me mo id te de fe pr ch un ta ow bp) w) := by
  by_cases h1 : ki = 1
  · subst h1; exact check_reg me mo id te de fe pr ch un ta ow bp w
  by_cases h2 : ki = 2
  · subst h2; exact check_sale me mo id te de fe pr ch un ta ow bp w
  by_cases h3 : ki = 3
  · subst h3; exact check_grant me mo id te de fe pr ch un ta ow bp w
  by_cases h4 : ki = 4
  · subst h4; exact check_rekey me mo id te de fe pr ch un ta ow bp w
  by_cases h5 : ki = 5
  · subst h5; exact check_charge me mo id te de fe pr ch un ta ow bp w
  exact check_none me mo id te de fe pr ch un ta ow bp ki w h1 h2 h3 h4 h5
end Go.Proofs.YtdjgcenjonegjaaGreat
