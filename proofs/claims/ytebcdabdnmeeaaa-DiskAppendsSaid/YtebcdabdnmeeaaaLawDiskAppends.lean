/- disk.Append answers as the reference does, at every argument, and changes none of them. No conditions. -/
import Derived.Test.YtebcdabdnmeeaaaLift
import Derived.Test.YtebcdabdnmeeaaaDecode
import Derived.Test.YtebcdabdnmeeaaaDiskAppended
import Derived.Test.YtebcdabdnmeeaaaSameWords
import Derived.Test.YtebcdabdnmeeaaaSameWrite
import Derived.Test.YtebcdabdnmeeaaaCopyWords
namespace Go.Proofs.Ytebcdabdnmeeaaa.diskAppends
open Go.ChangeShapes Go.WideShapes Go.ChangeAt Go.RowKit
set_option maxRecDepth 20000

theorem walk (v1 : Value) (xs : List Int) (v2 : Value) (ys : List Int) (w : World) (h1 : Sl w v1 1 xs.length (xs.map U32)) (hw : ∀ x ∈ xs, W32 x) (hb1 : xs.length * 4 ≤ 140737488351232)
    (h2 : Sl w v2 1 ys.length (ys.map U32)) (_ : ∀ x ∈ ys, W32 x) (hb2 : ys.length * 4 ≤ 140737488351232) : Calls Try.prog 14 #[v1, v2] w (Grew (.bool true) w) := by
  have k := Below.refl w.heap.size w
  go_enter Try.func14, Try.ntmps14
  go_wp2_with fail
  refine (words_any _ xs _ h1 (by omega)).mono ?_
  rintro e w' ⟨c, rfl, hc, kk⟩
  have h1 := h1.below kk
  have h2 := h2.below kk
  have k := k.trans (kk.mono k.size)
  clear kk
  go_wp2_with fail
  refine (words_any _ ys _ h2 (by omega)).mono ?_
  rintro e w' ⟨d, rfl, hd, kk⟩
  have h1 := h1.below kk
  have h2 := h2.below kk
  have hc := hc.below kk
  have k := k.trans (kk.mono k.size)
  clear kk
  go_wp2_with fail
  refine (AppendD_any _ xs _ ys _ hc hw hd).mono ?_
  rintro e w' ⟨x, rfl, hx, kk⟩
  have h1 := h1.below kk
  have h2 := h2.below kk
  have hc := hc.below kk
  have hd := hd.below kk
  have k := k.trans (kk.mono k.size)
  clear kk
  go_wp2_with fail
  refine (Appended_any _ xs _ ys _ h1 hw h2).mono ?_
  rintro e w' ⟨y, rfl, hy, kk⟩
  have h1 := h1.below kk
  have h2 := h2.below kk
  have hc := hc.below kk
  have hd := hd.below kk
  have hx := hx.below kk
  have k := k.trans (kk.mono k.size)
  clear kk
  go_wp2_with fail
  refine (sameWrites_any _ _ (appL xs ys) (appL xs ys) _ hx hy).mono ?_
  rintro e w' ⟨rfl, kk⟩
  have h1 := h1.below kk
  have h2 := h2.below kk
  have hc := hc.below kk
  have hd := hd.below kk
  have k := k.trans (kk.mono k.size)
  clear kk
  go_wp2_with fail
  refine (sameWords_any _ _ xs xs _ h1 hc).mono ?_
  rintro e w' ⟨rfl, kk⟩
  have h2 := h2.below kk
  have hd := hd.below kk
  have k := k.trans (kk.mono k.size)
  clear kk
  go_wp2_with fail
  refine (sameWords_any _ _ ys ys _ hd h2).mono ?_
  rintro e w' ⟨rfl, kk⟩
  have k := k.trans (kk.mono k.size)
  clear kk
  go_wp2
  go_ret
  exact Grew.intro (by simp) k

set_option maxRecDepth 100000 in
theorem lifted (os : Os) (started : os.Started) (H : Type) (enc : TypeId × Value → H) :
    ReturnsInHanded {} Try.checked os 14 .any (Rows.diskAppendsSpec.pre6 enc Try.prog Try.f14 Rows.diskAppendsRow.domain false) (Rows.diskAppendsSpec.post enc Try.prog Try.f14 false true false false) := by
  refine returnsInHanded_of_change_sized (C := Try.checked) own started (by kernel_rfl) Try.func14
    (ChangeSpec.witness6 (enc := enc) (C := Try.checked) false ⟨#[], #[.slice none 0 0, .slice none 0 0], []⟩ 8 (by kernel_rfl) (by kernel_rfl) (by kernel_rfl) (by kernel_rfl)) ?_
  intro W base args ds gs before hval hW hcnd hsz _
  have hfin := fun W' => post_true (fn := Try.f14) (s := Rows.diskAppendsSpec) (bt := 4) (W' := W') rfl laidOut (by kernel_rfl) Try.underlying4 rfl (fun ds h => by match ds, h with | [_, _], _ => rfl) hW
  have hsz : (DataW.weightsEach Try.prog (Try.f14.params.toList ++ []) (ds ++ gs)).all (· ≤ reachBytes) = true := hsz
  obtain ⟨p, q, hA, hV, rfl, hfz, hnd⟩ := hW
  obtain ⟨rfl, rfl⟩ := trodVars_none hV
  rw [Try.params14] at hA hval hsz
  obtain ⟨v0, vs0, d0, ds0, p0, q0, hargs, rfl, rfl, h0, r0⟩ := trodAll_cons hA
  obtain ⟨v1, vs1, d1, ds1, p1, q1, rfl, rfl, rfl, h1, r1⟩ := trodAll_cons r0
  obtain ⟨rfl, rfl, rfl⟩ := trodAll_nil r1
  obtain rfl : args = #[v0, v1] := by cases args; simp_all
  simp only [List.append_nil] at hsz
  have pl0 := arg_plains (ks := (shape Try.prog 9 43).getD []) (by kernel_rfl) h0 (arg_weights (j := 0) hsz rfl rfl)
  obtain ⟨xs0, hS0, hw0, hb0⟩ := plain_words (arg_slice Try.underlying43 (hval 0 43 v0 rfl rfl) pl0)
  have pl1 := arg_plains (ks := (shape Try.prog 9 43).getD []) (by kernel_rfl) h1 (arg_weights (j := 1) hsz rfl rfl)
  obtain ⟨xs1, hS1, hw1, hb1⟩ := plain_words (arg_slice Try.underlying43 (hval 1 43 v1 rfl rfl) pl1)
  exact (walk v0 xs0 v1 xs1 W hS0 hw0 hb0 hS1 hw1 hb1).mono fun e W' h => by
    obtain ⟨rfl, hb⟩ := h.grew
    exact ⟨_, rfl, hfin W' hb⟩

theorem over : Rows.diskAppendsRow.holds Try.pinned (OpenSpec.ofChange Rows.diskAppendsSpec) :=
  OpenClaim.holds_of_wide 14 Try.f14 rfl rfl rfl rfl rfl rfl rfl ⟨rfl, rfl, rfl, rfl, rfl⟩ rfl rfl rfl rfl rfl (by kernel_rfl) Try.func14 (by kernel_rfl)
    (of_decide_eq_true (by kernel_rfl)) (by unfold Func.isWrapper; first | (rw [if_pos (by decide +kernel)]; kernel_rfl) | (rw [if_neg (by decide +kernel)]; exact ⟨rfl, rfl⟩))
    (fun os started H enc _ => lifted os started H enc)

theorem proved : Rows.DiskAppendsSaid := over
#print axioms proved
end Go.Proofs.Ytebcdabdnmeeaaa.diskAppends
