/- tariff.Check answers as the reference does, at every argument, and changes none of them. No conditions. -/
import Derived.Test.YtcpljkjibhindaaLift
import Derived.Test.YtcpljkjibhindaaDecode
import Derived.Test.YtcpljkjibhindaaTariffCheck
import Derived.Test.YtcpljkjibhindaaSameStep
import Derived.Test.YtcpljkjibhindaaCopySteps
namespace Go.Proofs.Ytcpljkjibhindaa.tariffChecks
open Go.ChangeShapes Go.WideShapes Go.ChangeAt Go.RowKit
set_option maxRecDepth 20000

theorem walk (v1 : Value) (xs : List AStep) (w : World) (h1 : Sl w v1 2 xs.length (xs.flatMap AStep.cells)) (_ : ∀ x ∈ xs, x.wf) (hb1 : xs.length * 16 ≤ 140737488351232) :
    Calls Try.prog 3 #[v1] w (Grew (.bool true) w) := by
  have k := Below.refl w.heap.size w
  go_enter Try.func3, Try.ntmps3
  go_wp2_with fail
  refine (steps_any _ xs _ h1 (by omega)).mono ?_
  rintro e w' ⟨c, rfl, hc, kk⟩
  have h1 := h1.below kk
  have k := k.trans (kk.mono k.size)
  clear kk
  go_wp2_with fail
  refine (CheckT_any _ xs _ hc).mono ?_
  rintro e w' ⟨rfl, kk⟩
  have h1 := h1.below kk
  have hc := hc.below kk
  have k := k.trans (kk.mono k.size)
  clear kk
  go_wp2_with fail
  refine (TariffFault_any _ xs _ h1).mono ?_
  rintro e w' ⟨rfl, kk⟩
  have h1 := h1.below kk
  have hc := hc.below kk
  have k := k.trans (kk.mono k.size)
  clear kk
  go_wp2_with fail
  refine (sameSteps_any _ _ xs xs _ hc h1).mono ?_
  rintro e w' ⟨rfl, kk⟩
  have k := k.trans (kk.mono k.size)
  clear kk
  go_wp2
  go_ret
  exact Grew.intro (by simp) k

set_option maxRecDepth 100000 in
theorem lifted (os : Os) (started : os.Started) (H : Type) (enc : TypeId × Value → H) :
    ReturnsInHanded {} Try.checked os 3 .any (Rows.tariffChecksSpec.pre6 enc Try.prog Try.f3 Rows.tariffChecksRow.domain false) (Rows.tariffChecksSpec.post enc Try.prog Try.f3 false true false false) := by
  refine returnsInHanded_of_change_sized (C := Try.checked) own started (by kernel_rfl) Try.func3
    (ChangeSpec.witness6 (enc := enc) (C := Try.checked) false ⟨#[], #[.slice none 0 0], []⟩ 8 (by kernel_rfl) (by kernel_rfl) (by kernel_rfl) (by kernel_rfl)) ?_
  intro W base args ds gs before hval hW hcnd hsz _
  have hfin := fun W' => post_true (fn := Try.f3) (s := Rows.tariffChecksSpec) (bt := 4) (W' := W') rfl laidOut (by kernel_rfl) Try.underlying4 rfl (fun ds h => by match ds, h with | [_], _ => rfl) hW
  have hsz : (DataW.weightsEach Try.prog (Try.f3.params.toList ++ []) (ds ++ gs)).all (· ≤ reachBytes) = true := hsz
  obtain ⟨p, q, hA, hV, rfl, hfz, hnd⟩ := hW
  obtain ⟨rfl, rfl⟩ := trodVars_none hV
  rw [Try.params3] at hA hval hsz
  obtain ⟨v0, vs0, d0, ds0, p0, q0, hargs, rfl, rfl, h0, r0⟩ := trodAll_cons hA
  obtain ⟨rfl, rfl, rfl⟩ := trodAll_nil r0
  obtain rfl : args = #[v0] := by cases args; simp_all
  simp only [List.append_nil] at hsz
  have pl0 := arg_plains (ks := (shape Try.prog 9 22).getD []) (by kernel_rfl) h0 (arg_weights (j := 0) hsz rfl rfl)
  obtain ⟨xs0, hS0, hw0, hb0⟩ := plainSteps (arg_slice Try.underlying22 (hval 0 22 v0 rfl rfl) pl0)
  exact (walk v0 xs0 W hS0 hw0 hb0).mono fun e W' h => by
    obtain ⟨rfl, hb⟩ := h.grew
    exact ⟨_, rfl, hfin W' hb⟩

theorem over : Rows.tariffChecksRow.holds Try.pinned (OpenSpec.ofChange Rows.tariffChecksSpec) :=
  OpenClaim.holds_of_wide 3 Try.f3 rfl rfl rfl rfl rfl rfl rfl ⟨rfl, rfl, rfl, rfl, rfl⟩ rfl rfl rfl rfl rfl (by kernel_rfl) Try.func3 (by kernel_rfl)
    (of_decide_eq_true (by kernel_rfl)) (by unfold Func.isWrapper; first | (rw [if_pos (by decide +kernel)]; kernel_rfl) | (rw [if_neg (by decide +kernel)]; exact ⟨rfl, rfl⟩))
    (fun os started H enc _ => lifted os started H enc)

theorem proved : Rows.TariffChecksSaid := over
#print axioms proved
end Go.Proofs.Ytcpljkjibhindaa.tariffChecks
