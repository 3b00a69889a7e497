/- window.Used answers as the reference does, at every argument. No conditions. -/
import Derived.Test.YtebcdabdnmeeaaaLift
import Derived.Test.YtebcdabdnmeeaaaDecode
import Derived.Test.YtebcdabdnmeeaaaWinMay
import Derived.Test.YtebcdabdnmeeaaaSameInts
namespace Go.Proofs.Ytebcdabdnmeeaaa.windowUses
open Go.ChangeShapes Go.WideShapes Go.ChangeAt Go.RowKit
set_option maxRecDepth 20000
theorem walk (x : AWindow) (w : World) (hx : x.wf) : Calls Try.prog 5 #[.agg x.cells.toArray] w (Grew (.bool true) w) := by
  obtain ⟨_, b0, b1⟩ := hx
  obtain ⟨h, bi⟩ := x
  simp only at b0 b1
  obtain ⟨b, rfl⟩ := Int.eq_ofNat_of_zero_le b0
  show Calls Try.prog 5 #[WinV h b] w (Grew (.bool true) w)
  have hb : b < 18446744073709551616 := by omega
  have U := Lib.hid (fun W => Used_any h b W hb)
  have R := Lib.hid (fun W => UsedOf_any h b W hb)
  clear b0 b1
  go_enter Try.func5, Try.ntmps5
  go_wp2_with fail
  refine (U.out _).mono ?_
  rintro e w1 ⟨v1, rfl, hS1, k1⟩
  obtain ⟨hc, _⟩ := bcell k1
  have k := below_box k1
  clear k1
  go_wp2_with fail
  refine (R.out _).mono ?_
  rintro e w2 ⟨v2, rfl, hS2, k2⟩
  have hS1 := hS1.below k2
  have k := k.trans (k2.mono k.size)
  clear k2 hc
  go_wp2_with fail
  refine (sameInts_any _ _ (usedL h b) (usedL h b) _ hS1 hS2).mono ?_
  rintro e w' ⟨rfl, kk⟩
  have k := k.trans (kk.mono k.size)
  clear kk
  go_wp2
  go_ret
  exact Grew.intro (by simp) k

set_option maxRecDepth 100000 in
theorem lifted (os : Os) (started : os.Started) (H : Type) (enc : TypeId × Value → H) :
    ReturnsInHanded {} Try.checked os 5 .any (Rows.windowUsesSpec.pre6 enc Try.prog Try.f5 Rows.windowUsesRow.domain false) (Rows.windowUsesSpec.post enc Try.prog Try.f5 false true false false) := by
  refine returnsInHanded_of_change_sized (C := Try.checked) own started (by kernel_rfl) Try.func5
    (ChangeSpec.witness6 (enc := enc) (C := Try.checked) false ⟨#[], #[.agg #[.int .i64 0, .int .u64 0]], []⟩ 8 (by kernel_rfl) (by kernel_rfl) (by kernel_rfl) (by kernel_rfl)) ?_
  intro W base args ds gs before hval hW hcnd hsz _
  have hfin := fun W' => post_true (fn := Try.f5) (s := Rows.windowUsesSpec) (bt := 4) (W' := W') rfl laidOut (by kernel_rfl) Try.underlying4 rfl (fun ds h => by match ds, h with | [_], _ => rfl) hW
  have hsz : (DataW.weightsEach Try.prog (Try.f5.params.toList ++ []) (ds ++ gs)).all (· ≤ reachBytes) = true := hsz
  obtain ⟨p, q, hA, hV, rfl, hfz, hnd⟩ := hW
  obtain ⟨rfl, rfl⟩ := trodVars_none hV
  rw [Try.params5] at hA hval hsz
  obtain ⟨v0, vs0, d0, ds0, p0, q0, hargs, rfl, rfl, h0, r0⟩ := trodAll_cons hA
  obtain ⟨rfl, rfl, rfl⟩ := trodAll_nil r0
  obtain rfl : args = #[v0] := by cases args; simp_all
  simp only [List.append_nil] at hsz
  have pl0 := arg_plains (ks := (shape Try.prog 9 24).getD []) (by kernel_rfl) h0 (arg_weights (j := 0) hsz rfl rfl)
  obtain ⟨cs0, rfl, pl0⟩ := arg_struct Try.underlying24 (hval 0 24 v0 rfl rfl) pl0
  obtain ⟨x0, rfl, hx0⟩ := decodeWindow _ pl0
  exact (walk x0 W hx0).mono fun e W' h => by
    obtain ⟨rfl, hb⟩ := h.grew
    exact ⟨_, rfl, hfin W' hb⟩

theorem over : Rows.windowUsesRow.holds Try.pinned (OpenSpec.ofChange Rows.windowUsesSpec) :=
  OpenClaim.holds_of_wide 5 Try.f5 rfl rfl rfl rfl rfl rfl rfl ⟨rfl, rfl, rfl, rfl, rfl⟩ rfl rfl rfl rfl rfl (by kernel_rfl) Try.func5 (by kernel_rfl)
    (of_decide_eq_true (by kernel_rfl)) (by unfold Func.isWrapper; first | (rw [if_pos (by decide +kernel)]; kernel_rfl) | (rw [if_neg (by decide +kernel)]; exact ⟨rfl, rfl⟩))
    (fun os started H enc _ => lifted os started H enc)

theorem proved : Rows.WindowUsesSaid := over
#print axioms proved
end Go.Proofs.Ytebcdabdnmeeaaa.windowUses
