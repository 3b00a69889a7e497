/- cents.Sum answers as the reference does, at every argument, and changes none of them. No conditions. -/
import Derived.Test.YtjkdngbaidjdmaaLift
import Derived.Test.YtjkdngbaidjdmaaDecode
import Derived.Test.YtjkdngbaidjdmaaCentsSum
import Derived.Test.YtjkdngbaidjdmaaSameInts
import Derived.Test.YtjkdngbaidjdmaaCopyInts
namespace Go.Proofs.Ytjkdngbaidjdmaa.centsSums
open Go.ChangeShapes Go.WideShapes Go.ChangeAt Go.RowKit
set_option maxRecDepth 20000

theorem walk (v1 : Value) (xs : List Int) (w : World) (h1 : Sl w v1 1 xs.length (xs.map I)) (_ : ∀ x ∈ xs, I64 x) (hb1 : xs.length * 8 ≤ 140737488351232) :
    Calls Try.prog 11 #[v1] w (Grew (.bool true) w) := by
  have k := Below.refl w.heap.size w
  go_enter Try.func11, Try.ntmps11
  go_wp2_with fail
  refine (ints_any _ xs _ h1 (by omega)).mono ?_
  rintro e w' ⟨c, rfl, hc, kk⟩
  have h1 := h1.below kk
  have k := k.trans (kk.mono k.size)
  clear kk
  go_wp2_with fail
  refine (Sum_any _ xs _ hc).mono ?_
  rintro e w' ⟨rfl, rfl⟩
  go_wp2_with fail
  refine (Summed_any _ xs _ h1).mono ?_
  rintro e w' ⟨rfl, rfl⟩
  go_wp2_with fail
  refine (sameInts_any _ _ xs xs _ hc h1).mono ?_
  rintro e w' ⟨rfl, kk⟩
  have k := k.trans (kk.mono k.size)
  clear kk
  go_wp2
  go_ret
  exact Grew.intro (by simp) k

set_option maxRecDepth 100000 in
theorem lifted (os : Os) (started : os.Started) (H : Type) (enc : TypeId × Value → H) :
    ReturnsInHanded {} Try.checked os 11 .any (Rows.centsSumsSpec.pre6 enc Try.prog Try.f11 Rows.centsSumsRow.domain false) (Rows.centsSumsSpec.post enc Try.prog Try.f11 false true false false) := by
  refine returnsInHanded_of_change_sized (C := Try.checked) own started (by kernel_rfl) Try.func11
    (ChangeSpec.witness6 (enc := enc) (C := Try.checked) false ⟨#[], #[.slice none 0 0], []⟩ 8 (by kernel_rfl) (by kernel_rfl) (by kernel_rfl) (by kernel_rfl)) ?_
  intro W base args ds gs before hval hW hcnd hsz _
  have hfin := fun W' => post_true (fn := Try.f11) (s := Rows.centsSumsSpec) (bt := 4) (W' := W') rfl laidOut (by kernel_rfl) Try.underlying4 rfl (fun ds h => by match ds, h with | [_], _ => rfl) hW
  have hsz : (DataW.weightsEach Try.prog (Try.f11.params.toList ++ []) (ds ++ gs)).all (· ≤ reachBytes) = true := hsz
  obtain ⟨p, q, hA, hV, rfl, hfz, hnd⟩ := hW
  obtain ⟨rfl, rfl⟩ := trodVars_none hV
  rw [Try.params11] at hA hval hsz
  obtain ⟨v0, vs0, d0, ds0, p0, q0, hargs, rfl, rfl, h0, r0⟩ := trodAll_cons hA
  obtain ⟨rfl, rfl, rfl⟩ := trodAll_nil r0
  obtain rfl : args = #[v0] := by cases args; simp_all
  simp only [List.append_nil] at hsz
  have pl0 := arg_plains (ks := (shape Try.prog 9 46).getD []) (by kernel_rfl) h0 (arg_weights (j := 0) hsz rfl rfl)
  obtain ⟨xs0, hS0, hw0, hb0⟩ := plain_ints (arg_slice Try.underlying46 (hval 0 46 v0 rfl rfl) pl0)
  exact (walk v0 xs0 W hS0 hw0 hb0).mono fun e W' h => by
    obtain ⟨rfl, hb⟩ := h.grew
    exact ⟨_, rfl, hfin W' hb⟩

theorem over : Rows.centsSumsRow.holds Try.pinned (OpenSpec.ofChange Rows.centsSumsSpec) :=
  OpenClaim.holds_of_wide 11 Try.f11 rfl rfl rfl rfl rfl rfl rfl ⟨rfl, rfl, rfl, rfl, rfl⟩ rfl rfl rfl rfl rfl (by kernel_rfl) Try.func11 (by kernel_rfl)
    (of_decide_eq_true (by kernel_rfl)) (by unfold Func.isWrapper; first | (rw [if_pos (by decide +kernel)]; kernel_rfl) | (rw [if_neg (by decide +kernel)]; exact ⟨rfl, rfl⟩))
    (fun os started H enc _ => lifted os started H enc)

theorem proved : Rows.CentsSumsSaid := over
#print axioms proved
end Go.Proofs.Ytjkdngbaidjdmaa.centsSums
