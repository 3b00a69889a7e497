/- calendar.Day answers as the reference does, at every argument. No conditions. -/
import Derived.Test.YtjkdngbaidjdmaaLift
import Derived.Test.YtjkdngbaidjdmaaDecode
import Derived.Test.YtjkdngbaidjdmaaCalDay
namespace Go.Proofs.Ytjkdngbaidjdmaa.calDays
open Go.ChangeShapes Go.WideShapes Go.ChangeAt Go.RowKit
set_option maxRecDepth 20000
theorem walk (x : ADate) (w : World) (_ : x.wf) : Calls Try.prog 3 #[.agg #[I x.year, I x.month, I x.day]] w (Grew (.bool true) w) := by
  go_enter Try.func3, Try.ntmps3
  go_wp2_with fail
  refine (Day_any _ _ _ _).mono ?_
  rintro e w1 ⟨rfl, k1⟩
  obtain ⟨hc1, _⟩ := bcell k1
  go_wp2_with fail
  refine (DayOf_any _ _ _ _).mono ?_
  rintro e w2 ⟨rfl, k2⟩
  go_wp2
  go_ret
  have k := below_box k1
  exact Grew.intro (by simp) (k.trans (k2.mono k.size))

set_option maxRecDepth 100000 in
theorem lifted (os : Os) (started : os.Started) (H : Type) (enc : TypeId × Value → H) :
    ReturnsInHanded {} Try.checked os 3 .any (Rows.calDaysSpec.pre6 enc Try.prog Try.f3 Rows.calDaysRow.domain false) (Rows.calDaysSpec.post enc Try.prog Try.f3 false true false false) := by
  refine returnsInHanded_of_change_sized (C := Try.checked) own started (by kernel_rfl) Try.func3
    (ChangeSpec.witness6 (enc := enc) (C := Try.checked) false ⟨#[], #[.agg #[.int .i64 0, .int .i64 0, .int .i64 0]], []⟩ 8 (by kernel_rfl) (by kernel_rfl) (by kernel_rfl) (by kernel_rfl)) ?_
  intro W base args ds gs before hval hW hcnd hsz _
  have hfin := fun W' => post_true (fn := Try.f3) (s := Rows.calDaysSpec) (bt := 4) (W' := W') rfl laidOut (by kernel_rfl) Try.underlying4 rfl (fun ds h => by match ds, h with | [_], _ => rfl) hW
  have hsz : (DataW.weightsEach Try.prog (Try.f3.params.toList ++ []) (ds ++ gs)).all (· ≤ reachBytes) = true := hsz
  obtain ⟨p, q, hA, hV, rfl, hfz, hnd⟩ := hW
  obtain ⟨rfl, rfl⟩ := trodVars_none hV
  rw [Try.params3] at hA hval hsz
  obtain ⟨v0, vs0, d0, ds0, p0, q0, hargs, rfl, rfl, h0, r0⟩ := trodAll_cons hA
  obtain ⟨rfl, rfl, rfl⟩ := trodAll_nil r0
  obtain rfl : args = #[v0] := by cases args; simp_all
  simp only [List.append_nil] at hsz
  have pl0 := arg_plains (ks := (shape Try.prog 9 23).getD []) (by kernel_rfl) h0 (arg_weights (j := 0) hsz rfl rfl)
  obtain ⟨cs0, rfl, pl0⟩ := arg_struct Try.underlying23 (hval 0 23 v0 rfl rfl) pl0
  obtain ⟨x0, rfl, hx0⟩ := decodeDate _ pl0
  exact (walk x0 W hx0).mono fun e W' h => by
    obtain ⟨rfl, hb⟩ := h.grew
    exact ⟨_, rfl, hfin W' hb⟩

theorem over : Rows.calDaysRow.holds Try.pinned (OpenSpec.ofChange Rows.calDaysSpec) :=
  OpenClaim.holds_of_wide 3 Try.f3 rfl rfl rfl rfl rfl rfl rfl ⟨rfl, rfl, rfl, rfl, rfl⟩ rfl rfl rfl rfl rfl (by kernel_rfl) Try.func3 (by kernel_rfl)
    (of_decide_eq_true (by kernel_rfl)) (by unfold Func.isWrapper; first | (rw [if_pos (by decide +kernel)]; kernel_rfl) | (rw [if_neg (by decide +kernel)]; exact ⟨rfl, rfl⟩))
    (fun os started H enc _ => lifted os started H enc)

theorem proved : Rows.CalDaysSaid := over
#print axioms proved
end Go.Proofs.Ytjkdngbaidjdmaa.calDays
