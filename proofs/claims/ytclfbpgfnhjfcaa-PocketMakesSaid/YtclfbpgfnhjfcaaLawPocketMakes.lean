/- pocket.Make answers as the reference does, at every argument. No conditions. -/
import Derived.Test.YtclfbpgfnhjfcaaLift
import Derived.Test.YtclfbpgfnhjfcaaDecode
import Derived.Test.YtclfbpgfnhjfcaaPocketMake
import Derived.Test.YtclfbpgfnhjfcaaSameWords
namespace Go.Proofs.Ytclfbpgfnhjfcaa.pocketMakes
open Go.ChangeShapes Go.WideShapes Go.ChangeAt Go.RowKit
set_option maxRecDepth 20000

theorem walk (me : Int) (w : World) : Calls Try.prog 8 #[I me] w (Grew (.bool true) w) := by
  have k := Below.refl w.heap.size w
  go_enter Try.func8, Try.ntmps8
  go_wp2_with fail
  refine (Make_any me _).mono ?_
  rintro e w' ⟨x, rfl, hx, kk⟩
  have k := k.trans (kk.mono k.size)
  clear kk
  go_wp2_with fail
  refine (PocketMade_any me _).mono ?_
  rintro e w' ⟨y, rfl, hy, kk⟩
  have hx := hx.below kk
  have k := k.trans (kk.mono k.size)
  clear kk
  go_wp2_with fail
  refine (sameWords_any _ _ (makeL me) (makeL me) _ hx hy).mono ?_
  rintro e w' ⟨rfl, kk⟩
  have k := k.trans (kk.mono k.size)
  clear kk
  go_wp2
  go_ret
  exact Grew.intro (by simp) k

set_option maxRecDepth 100000 in
theorem lifted (os : Os) (started : os.Started) (H : Type) (enc : TypeId × Value → H) :
    ReturnsInHanded {} Try.checked os 8 .any (Rows.pocketMakesSpec.pre6 enc Try.prog Try.f8 Rows.pocketMakesRow.domain false) (Rows.pocketMakesSpec.post enc Try.prog Try.f8 false true false false) := by
  refine returnsInHanded_of_change_sized (C := Try.checked) own started (by kernel_rfl) Try.func8
    (ChangeSpec.witness6 (enc := enc) (C := Try.checked) false ⟨#[], #[.int .i64 0], []⟩ 8 (by kernel_rfl) (by kernel_rfl) (by kernel_rfl) (by kernel_rfl)) ?_
  intro W base args ds gs before hval hW hcnd hsz _
  have hfin := fun W' => post_true (fn := Try.f8) (s := Rows.pocketMakesSpec) (bt := 4) (W' := W') rfl laidOut (by kernel_rfl) Try.underlying4 rfl (fun ds h => by match ds, h with | [_], _ => rfl) hW
  obtain ⟨p, q, hA, hV, rfl, hfz, hnd⟩ := hW
  obtain ⟨rfl, rfl⟩ := trodVars_none hV
  rw [Try.params8] at hA hval
  obtain ⟨v0, vs0, d0, ds0, p0, q0, hargs, rfl, rfl, h0, r0⟩ := trodAll_cons hA
  obtain ⟨rfl, rfl, rfl⟩ := trodAll_nil r0
  obtain rfl : args = #[v0] := by cases args; simp_all
  obtain ⟨a0, rfl, rfl, rfl, wf0⟩ := open_int Try.underlying3 (hval 0 3 v0 rfl rfl) h0
  exact (walk a0 W ).mono fun e W' h => by
    obtain ⟨rfl, hb⟩ := h.grew
    exact ⟨_, rfl, hfin W' hb⟩

theorem over : Rows.pocketMakesRow.holds Try.pinned (OpenSpec.ofChange Rows.pocketMakesSpec) :=
  OpenClaim.holds_of_wide 8 Try.f8 rfl rfl rfl rfl rfl rfl rfl ⟨rfl, rfl, rfl, rfl, rfl⟩ rfl rfl rfl rfl rfl (by kernel_rfl) Try.func8 (by kernel_rfl)
    (of_decide_eq_true (by kernel_rfl)) (by unfold Func.isWrapper; first | (rw [if_pos (by decide +kernel)]; kernel_rfl) | (rw [if_neg (by decide +kernel)]; exact ⟨rfl, rfl⟩))
    (fun os started H enc _ => lifted os started H enc)

theorem proved : Rows.PocketMakesSaid := over
#print axioms proved
end Go.Proofs.Ytclfbpgfnhjfcaa.pocketMakes
