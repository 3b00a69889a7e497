/- tariff.Bill answers as the reference does, at every argument, and changes none of them. No conditions. -/
import Derived.Test.YtcpljkjibhindaaLift
import Derived.Test.YtcpljkjibhindaaDecode
import Derived.Test.YtcpljkjibhindaaBill
import Derived.Test.YtcpljkjibhindaaSameLine
import Derived.Test.YtcpljkjibhindaaSameStep
import Derived.Test.YtcpljkjibhindaaCopySteps
namespace Go.Proofs.Ytcpljkjibhindaa.tariffBills
open Go.ChangeShapes Go.WideShapes Go.ChangeAt Go.RowKit
set_option maxRecDepth 20000

theorem walk (v1 : Value) (xs : List AStep) (a m : Int) (w : World) (h1 : Sl w v1 2 xs.length (xs.flatMap AStep.cells)) (_ : ∀ x ∈ xs, x.wf) (hb1 : xs.length * 16 ≤ 140737488351232) :
    Calls Try.prog 4 #[v1, I a, I m] w (Grew (.bool true) w) := by
  have k := Below.refl w.heap.size w
  have M := fun v W h => Bill_any v xs a m W h
  have R := fun v W h => Billed_any v xs a m W h
  generalize linesA xs a m = ls at *
  generalize unitsE xs a m = r at *
  go_enter Try.func4, Try.ntmps4
  go_wp2_with fail
  refine (steps_any _ xs _ h1 (by omega)).mono ?_
  rintro e w' ⟨c', rfl, hc, kk⟩
  have h1 := h1.below kk
  have k := k.trans (kk.mono k.size)
  clear kk
  go_wp2_with fail
  refine (M _ _ hc).mono ?_
  rintro e w' ⟨v2, rfl, g2, kk⟩
  have h1 := h1.below kk
  have hc := hc.below kk
  have k := k.trans (kk.mono k.size)
  clear kk
  go_wp2_with fail
  refine (R _ _ h1).mono ?_
  rintro e w' ⟨v3, rfl, g3, kk⟩
  have h1 := h1.below kk
  have hc := hc.below kk
  have g2 := g2.below kk
  have k := k.trans (kk.mono k.size)
  clear kk
  go_wp2_with fail
  refine (sameLines_any _ _ ls ls _ g2 g3).mono ?_
  rintro e w' ⟨rfl, kk⟩
  have h1 := h1.below kk
  have hc := hc.below kk
  have k := k.trans (kk.mono k.size)
  clear kk
  go_wp2_with fail
  refine (sameSteps_any _ _ xs xs _ hc h1).mono ?_
  rintro e w' ⟨rfl, kk⟩
  have k := k.trans (kk.mono k.size)
  clear kk
  go_wp2
  go_ret
  exact Grew.intro (by simp) k

set_option maxRecDepth 100000 in
theorem lifted (os : Os) (started : os.Started) (H : Type) (enc : TypeId × Value → H) :
    ReturnsInHanded {} Try.checked os 4 .any (Rows.tariffBillsSpec.pre6 enc Try.prog Try.f4 Rows.tariffBillsRow.domain false) (Rows.tariffBillsSpec.post enc Try.prog Try.f4 false true false false) := by
  refine returnsInHanded_of_change_sized (C := Try.checked) own started (by kernel_rfl) Try.func4
    (ChangeSpec.witness6 (enc := enc) (C := Try.checked) false ⟨#[], #[.slice none 0 0, .int .i64 0, .int .i64 0], []⟩ 8 (by kernel_rfl) (by kernel_rfl) (by kernel_rfl) (by kernel_rfl)) ?_
  intro W base args ds gs before hval hW hcnd hsz _
  have hfin := fun W' => post_true (fn := Try.f4) (s := Rows.tariffBillsSpec) (bt := 4) (W' := W') rfl laidOut (by kernel_rfl) Try.underlying4 rfl (fun ds h => by match ds, h with | [_, _, _], _ => rfl) hW
  have hsz : (DataW.weightsEach Try.prog (Try.f4.params.toList ++ []) (ds ++ gs)).all (· ≤ reachBytes) = true := hsz
  obtain ⟨p, q, hA, hV, rfl, hfz, hnd⟩ := hW
  obtain ⟨rfl, rfl⟩ := trodVars_none hV
  rw [Try.params4] at hA hval hsz
  obtain ⟨v0, vs0, d0, ds0, p0, q0, hargs, rfl, rfl, h0, r0⟩ := trodAll_cons hA
  obtain ⟨v1, vs1, d1, ds1, p1, q1, rfl, rfl, rfl, h1, r1⟩ := trodAll_cons r0
  obtain ⟨v2, vs2, d2, ds2, p2, q2, rfl, rfl, rfl, h2, r2⟩ := trodAll_cons r1
  obtain ⟨rfl, rfl, rfl⟩ := trodAll_nil r2
  obtain rfl : args = #[v0, v1, v2] := by cases args; simp_all
  simp only [List.append_nil] at hsz
  have pl0 := arg_plains (ks := (shape Try.prog 9 22).getD []) (by kernel_rfl) h0 (arg_weights (j := 0) hsz rfl rfl)
  obtain ⟨xs0, hS0, hw0, hb0⟩ := plainSteps (arg_slice Try.underlying22 (hval 0 22 v0 rfl rfl) pl0)
  obtain ⟨a1, rfl, rfl, rfl, wf1⟩ := open_int Try.underlying3 (hval 1 3 v1 rfl rfl) h1
  obtain ⟨a2, rfl, rfl, rfl, wf2⟩ := open_int Try.underlying3 (hval 2 3 v2 rfl rfl) h2
  exact (walk v0 xs0 a1 a2 W hS0 hw0 hb0).mono fun e W' h => by
    obtain ⟨rfl, hb⟩ := h.grew
    exact ⟨_, rfl, hfin W' hb⟩

theorem over : Rows.tariffBillsRow.holds Try.pinned (OpenSpec.ofChange Rows.tariffBillsSpec) :=
  OpenClaim.holds_of_wide 4 Try.f4 rfl rfl rfl rfl rfl rfl rfl ⟨rfl, rfl, rfl, rfl, rfl⟩ rfl rfl rfl rfl rfl (by kernel_rfl) Try.func4 (by kernel_rfl)
    (of_decide_eq_true (by kernel_rfl)) (by unfold Func.isWrapper; first | (rw [if_pos (by decide +kernel)]; kernel_rfl) | (rw [if_neg (by decide +kernel)]; exact ⟨rfl, rfl⟩))
    (fun os started H enc _ => lifted os started H enc)

theorem proved : Rows.TariffBillsSaid := over
#print axioms proved
end Go.Proofs.Ytcpljkjibhindaa.tariffBills
