/- cents.Read answers as the reference does, at every argument. No conditions. -/
import Derived.Test.YtmciccnmpoijdaaLift
import Derived.Test.YtmciccnmpoijdaaDecode
import Derived.Test.YtmciccnmpoijdaaCentsRef
import Derived.HandedShaped
import Derived.Shelf.Vars
namespace Go.Proofs.Ytmciccnmpoijdaa.centsReads
open Go.ChangeShapes Go.WideShapes Go.ChangeAt Go.RowKit
set_option maxRecDepth 20000
theorem walk (s : ByteArray) (w : World) (_hs : Str s) (hsh : w.ShapedOpen Try.prog) : Calls Try.prog 6 #[.string s] w (Grew (.bool true) w) := by
  have hm : MaxOk w := by
    obtain ⟨m, hm⟩ := cell_of_shapedOpen_int (P := Try.prog) (g := 0) (t := 3) (zero := #[.int .i64 0]) hsh (of_decide_eq_true (by kernel_rfl)) (by kernel_rfl) rfl (by kernel_rfl) (by kernel_rfl) Try.underlying3
    exact ⟨m, hm⟩
  have P := Lib.hid (Cents_any s w hm)
  have R := Lib.hid (fun W => ReadCents_any s W)
  clear hm hsh
  go_enter Try.func6, Try.ntmps6
  go_wp2_with fail
  refine P.out.mono ?_
  rintro e w1 ⟨rfl, k⟩
  go_wp2_with fail
  refine (R.out _).mono ?_
  rintro e w2 ⟨rfl, k2⟩
  have kk := k.trans (k2.mono k.size)
  clear k2 k P R
  go_wp2
  go_ret
  exact Grew.intro (by simp) kk

set_option maxRecDepth 100000 in
theorem lifted (os : Os) (started : os.Started) (H : Type) (enc : TypeId × Value → H) :
    ReturnsInHanded {} Try.checked os 6 .any (Rows.centsReadsSpec.pre6 enc Try.prog Try.f6 Rows.centsReadsRow.domain false) (Rows.centsReadsSpec.post enc Try.prog Try.f6 false true false false) := by
  refine returnsInHanded_of_change_shaped (C := Try.checked) own started (by kernel_rfl) Try.func6
    (ChangeSpec.witness6 (enc := enc) (C := Try.checked) false ⟨#[], #[.string ByteArray.empty], []⟩ 8 (by kernel_rfl) (by kernel_rfl) (by kernel_rfl) (by kernel_rfl)) ?_
  intro W base args ds gs before hval hW hcnd hsz hsh _
  have hfin := fun W' => post_true (fn := Try.f6) (s := Rows.centsReadsSpec) (bt := 4) (W' := W') rfl laidOut (by kernel_rfl) Try.underlying4 rfl (fun ds h => by match ds, h with | [_], _ => rfl) hW
  have hsz : (DataW.weightsEach Try.prog (Try.f6.params.toList ++ []) (ds ++ gs)).all (· ≤ reachBytes) = true := hsz
  obtain ⟨p, q, hA, hV, rfl, hfz, hnd⟩ := hW
  obtain ⟨rfl, rfl⟩ := trodVars_none hV
  rw [Try.params6] at hA hval hsz
  obtain ⟨v0, vs0, d0, ds0, p0, q0, hargs, rfl, rfl, h0, r0⟩ := trodAll_cons hA
  obtain ⟨rfl, rfl, rfl⟩ := trodAll_nil r0
  obtain rfl : args = #[v0] := by cases args; simp_all
  simp only [List.append_nil] at hsz
  have pl0 := arg_plains (ks := (shape Try.prog 9 9).getD []) (by kernel_rfl) h0 (arg_weights (j := 0) hsz rfl rfl)
  obtain ⟨s0, rfl, hs0⟩ := arg_string Try.underlying9 (hval 0 9 v0 rfl rfl) h0 pl0
  exact (walk s0 W hs0 hsh).mono fun e W' h => by
    obtain ⟨rfl, hb⟩ := h.grew
    exact ⟨_, rfl, hfin W' hb⟩

theorem over : Rows.centsReadsRow.holds Try.pinned (OpenSpec.ofChange Rows.centsReadsSpec) :=
  OpenClaim.holds_of_wide 6 Try.f6 rfl rfl rfl rfl rfl rfl rfl ⟨rfl, rfl, rfl, rfl, rfl⟩ rfl rfl rfl rfl rfl (by kernel_rfl) Try.func6 (by kernel_rfl)
    (of_decide_eq_true (by kernel_rfl)) (by unfold Func.isWrapper; first | (rw [if_pos (by decide +kernel)]; kernel_rfl) | (rw [if_neg (by decide +kernel)]; exact ⟨rfl, rfl⟩))
    (fun os started H enc _ => lifted os started H enc)

theorem proved : Rows.CentsReadsSaid := over
#print axioms proved
end Go.Proofs.Ytmciccnmpoijdaa.centsReads
