/- pocket.Ticked answers as the reference does, at every argument, and changes none of them. No conditions. -/
import Derived.Test.YtclfbpgfnhjfcaaLift
import Derived.Test.YtclfbpgfnhjfcaaDecode
import Derived.Test.YtclfbpgfnhjfcaaPocketTick
import Derived.Test.YtclfbpgfnhjfcaaSameWords
import Derived.Test.YtclfbpgfnhjfcaaSameWrite
import Derived.Test.YtclfbpgfnhjfcaaCopyWords
namespace Go.Proofs.Ytclfbpgfnhjfcaa.pocketTicks
open Go.ChangeShapes Go.WideShapes Go.ChangeAt Go.RowKit
set_option maxRecDepth 20000

theorem walk (v1 : Value) (xs : List Int) (load : Int) (w : World) (h1 : Sl w v1 1 xs.length (xs.map U32)) (hw : ∀ x ∈ xs, W32 x) (hb1 : xs.length * 4 ≤ 140737488351232) :
    Calls Try.prog 10 #[v1, I load] w (Grew (.bool true) w) := by
  have k := Below.refl w.heap.size w
  have T := fun v W h => Ticked_any v xs load W h hw
  have R := fun v W h => PTicked_any v xs load W h hw
  generalize ptL xs load = L at *
  generalize ptN xs load = N at *
  generalize ptE xs load = E at *
  go_enter Try.func10, Try.ntmps10
  go_wp2_with fail
  refine (words_any _ xs _ h1 (by omega)).mono ?_
  rintro e w' ⟨c, rfl, hc, kk⟩
  have h1 := h1.below kk
  have k := k.trans (kk.mono k.size)
  clear kk
  go_wp2_with fail
  refine (T _ _ hc).mono ?_
  rintro e w' ⟨x, rfl, hx, kk⟩
  have h1 := h1.below kk
  have hc := hc.below kk
  have k := k.trans (kk.mono k.size)
  clear kk
  go_wp2_with fail
  refine (R _ _ h1).mono ?_
  rintro e w' ⟨y, rfl, hy, kk⟩
  have h1 := h1.below kk
  have hc := hc.below kk
  have hx := hx.below kk
  have k := k.trans (kk.mono k.size)
  clear kk
  go_wp2_with fail
  refine (sameWrites_any _ _ L L _ hx hy).mono ?_
  rintro e w' ⟨rfl, kk⟩
  have h1 := h1.below kk
  have hc := hc.below kk
  have k := k.trans (kk.mono k.size)
  clear kk
  go_wp2_with fail
  refine (sameWords_any _ _ xs xs _ h1 hc).mono ?_
  rintro e w' ⟨rfl, kk⟩
  have k := k.trans (kk.mono k.size)
  clear kk
  go_wp2
  go_ret
  exact Grew.intro (by simp) k

set_option maxRecDepth 100000 in
theorem lifted (os : Os) (started : os.Started) (H : Type) (enc : TypeId × Value → H) :
    ReturnsInHanded {} Try.checked os 10 .any (Rows.pocketTicksSpec.pre6 enc Try.prog Try.f10 Rows.pocketTicksRow.domain false) (Rows.pocketTicksSpec.post enc Try.prog Try.f10 false true false false) := by
  refine returnsInHanded_of_change_sized (C := Try.checked) own started (by kernel_rfl) Try.func10
    (ChangeSpec.witness6 (enc := enc) (C := Try.checked) false ⟨#[], #[.slice none 0 0, .int .i64 0], []⟩ 8 (by kernel_rfl) (by kernel_rfl) (by kernel_rfl) (by kernel_rfl)) ?_
  intro W base args ds gs before hval hW hcnd hsz _
  have hfin := fun W' => post_true (fn := Try.f10) (s := Rows.pocketTicksSpec) (bt := 4) (W' := W') rfl laidOut (by kernel_rfl) Try.underlying4 rfl (fun ds h => by match ds, h with | [_, _], _ => rfl) hW
  have hsz : (DataW.weightsEach Try.prog (Try.f10.params.toList ++ []) (ds ++ gs)).all (· ≤ reachBytes) = true := hsz
  obtain ⟨p, q, hA, hV, rfl, hfz, hnd⟩ := hW
  obtain ⟨rfl, rfl⟩ := trodVars_none hV
  rw [Try.params10] at hA hval hsz
  obtain ⟨v0, vs0, d0, ds0, p0, q0, hargs, rfl, rfl, h0, r0⟩ := trodAll_cons hA
  obtain ⟨v1, vs1, d1, ds1, p1, q1, rfl, rfl, rfl, h1, r1⟩ := trodAll_cons r0
  obtain ⟨rfl, rfl, rfl⟩ := trodAll_nil r1
  obtain rfl : args = #[v0, v1] := by cases args; simp_all
  simp only [List.append_nil] at hsz
  have pl0 := arg_plains (ks := (shape Try.prog 9 38).getD []) (by kernel_rfl) h0 (arg_weights (j := 0) hsz rfl rfl)
  obtain ⟨xs0, hS0, hw0, hb0⟩ := plain_words (arg_slice Try.underlying38 (hval 0 38 v0 rfl rfl) pl0)
  obtain ⟨a1, rfl, rfl, rfl, wf1⟩ := open_int Try.underlying3 (hval 1 3 v1 rfl rfl) h1
  exact (walk v0 xs0 a1 W hS0 hw0 hb0).mono fun e W' h => by
    obtain ⟨rfl, hb⟩ := h.grew
    exact ⟨_, rfl, hfin W' hb⟩

theorem over : Rows.pocketTicksRow.holds Try.pinned (OpenSpec.ofChange Rows.pocketTicksSpec) :=
  OpenClaim.holds_of_wide 10 Try.f10 rfl rfl rfl rfl rfl rfl rfl ⟨rfl, rfl, rfl, rfl, rfl⟩ rfl rfl rfl rfl rfl (by kernel_rfl) Try.func10 (by kernel_rfl)
    (of_decide_eq_true (by kernel_rfl)) (by unfold Func.isWrapper; first | (rw [if_pos (by decide +kernel)]; kernel_rfl) | (rw [if_neg (by decide +kernel)]; exact ⟨rfl, rfl⟩))
    (fun os started H enc _ => lifted os started H enc)

theorem proved : Rows.PocketTicksSaid := over
#print axioms proved
end Go.Proofs.Ytclfbpgfnhjfcaa.pocketTicks
