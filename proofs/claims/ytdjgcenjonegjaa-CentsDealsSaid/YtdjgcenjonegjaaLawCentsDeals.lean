/- cents.Deal answers as the reference does, at every argument, and changes none of them. No conditions. -/
import Derived.Test.YtdjgcenjonegjaaLift
import Derived.Test.YtdjgcenjonegjaaDecode
import Derived.Test.YtdjgcenjonegjaaDealS
import Derived.Test.YtdjgcenjonegjaaSameInts
import Derived.Test.YtdjgcenjonegjaaCopyInts
namespace Go.Proofs.Ytdjgcenjonegjaa.centsDeals
open Go.ChangeShapes Go.WideShapes Go.ChangeAt Go.RowKit
set_option maxRecDepth 20000

theorem walk (T : Int) (v1 : Value) (xs : List Int) (w : World) (h1 : Sl w v1 1 xs.length (xs.map I)) (_ : ∀ x ∈ xs, I64 x) (hb1 : xs.length * 8 ≤ 140737488351232) :
    Calls Try.prog 3 #[I T, v1] w (Grew (.bool true) w) := by
  have k := Below.refl w.heap.size w
  go_enter Try.func3, Try.ntmps3
  go_wp2_with fail
  refine (ints_any _ xs _ h1 (by omega)).mono ?_
  rintro e w' ⟨c, rfl, hc, kk⟩
  have h1 := h1.below kk
  have k := k.trans (kk.mono k.size)
  clear kk
  go_wp2_with fail
  refine (Deal_any _ T xs _ hc).mono ?_
  rintro e w2 ⟨va, rfl, ha, k2⟩
  have kk := k.trans (k2.mono k.size)
  have hc := hc.below k2
  have h1 := h1.below k2
  clear k k2
  go_wp2_with fail
  refine (Dealt_any _ T xs _ h1).mono ?_
  rintro e w3 ⟨vb, rfl, hb, k3⟩
  have k := kk.trans (k3.mono kk.size)
  have hc := hc.below k3
  have h1 := h1.below k3
  have ha := ha.below k3
  clear kk k3
  go_wp2_with fail
  refine (sameInts_any _ _ _ _ _ ha hb).mono ?_
  rintro e w' ⟨rfl, kk⟩
  have hc := hc.below kk
  have h1 := h1.below kk
  have k := k.trans (kk.mono k.size)
  clear kk
  go_wp2_with fail
  refine (sameInts_any _ _ xs xs _ hc h1).mono ?_
  rintro e w' ⟨rfl, kk⟩
  have k := k.trans (kk.mono k.size)
  clear kk
  go_wp2
  go_ret
  exact Grew.intro (by simp) k

set_option maxRecDepth 100000 in
theorem lifted (os : Os) (started : os.Started) (H : Type) (enc : TypeId × Value → H) :
    ReturnsInHanded {} Try.checked os 3 .any (Rows.centsDealsSpec.pre6 enc Try.prog Try.f3 Rows.centsDealsRow.domain false) (Rows.centsDealsSpec.post enc Try.prog Try.f3 false true false false) := by
  refine returnsInHanded_of_change_sized (C := Try.checked) own started (by kernel_rfl) Try.func3
    (ChangeSpec.witness6 (enc := enc) (C := Try.checked) false ⟨#[], #[.int .i64 0, .slice none 0 0], []⟩ 8 (by kernel_rfl) (by kernel_rfl) (by kernel_rfl) (by kernel_rfl)) ?_
  intro W base args ds gs before hval hW hcnd hsz _
  have hfin := fun W' => post_true (fn := Try.f3) (s := Rows.centsDealsSpec) (bt := 4) (W' := W') rfl laidOut (by kernel_rfl) Try.underlying4 rfl (fun ds h => by match ds, h with | [_, _], _ => rfl) hW
  have hsz : (DataW.weightsEach Try.prog (Try.f3.params.toList ++ []) (ds ++ gs)).all (· ≤ reachBytes) = true := hsz
  obtain ⟨p, q, hA, hV, rfl, hfz, hnd⟩ := hW
  obtain ⟨rfl, rfl⟩ := trodVars_none hV
  rw [Try.params3] at hA hval hsz
  obtain ⟨v0, vs0, d0, ds0, p0, q0, hargs, rfl, rfl, h0, r0⟩ := trodAll_cons hA
  obtain ⟨v1, vs1, d1, ds1, p1, q1, rfl, rfl, rfl, h1, r1⟩ := trodAll_cons r0
  obtain ⟨rfl, rfl, rfl⟩ := trodAll_nil r1
  obtain rfl : args = #[v0, v1] := by cases args; simp_all
  simp only [List.append_nil] at hsz
  obtain ⟨a0, rfl, rfl, rfl, wf0⟩ := open_int Try.underlying3 (hval 0 3 v0 rfl rfl) h0
  have pl1 := arg_plains (ks := (shape Try.prog 9 22).getD []) (by kernel_rfl) h1 (arg_weights (j := 1) hsz rfl rfl)
  obtain ⟨xs1, hS1, hw1, hb1⟩ := plain_ints (arg_slice Try.underlying22 (hval 1 22 v1 rfl rfl) pl1)
  exact (walk a0 v1 xs1 W hS1 hw1 hb1).mono fun e W' h => by
    obtain ⟨rfl, hb⟩ := h.grew
    exact ⟨_, rfl, hfin W' hb⟩

theorem over : Rows.centsDealsRow.holds Try.pinned (OpenSpec.ofChange Rows.centsDealsSpec) :=
  OpenClaim.holds_of_wide 3 Try.f3 rfl rfl rfl rfl rfl rfl rfl ⟨rfl, rfl, rfl, rfl, rfl⟩ rfl rfl rfl rfl rfl (by kernel_rfl) Try.func3 (by kernel_rfl)
    (of_decide_eq_true (by kernel_rfl)) (by unfold Func.isWrapper; first | (rw [if_pos (by decide +kernel)]; kernel_rfl) | (rw [if_neg (by decide +kernel)]; exact ⟨rfl, rfl⟩))
    (fun os started H enc _ => lifted os started H enc)

theorem proved : Rows.CentsDealsSaid := over
#print axioms proved
end Go.Proofs.Ytdjgcenjonegjaa.centsDeals
