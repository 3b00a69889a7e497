/- pocket.Boot answers as the reference does, at every argument, and changes none of them. No conditions. -/
import Derived.Test.YtclfbpgfnhjfcaaLift
import Derived.Test.YtclfbpgfnhjfcaaDecode
import Derived.Test.YtclfbpgfnhjfcaaPocketBoot
import Derived.Test.YtclfbpgfnhjfcaaSameWords
import Derived.Test.YtclfbpgfnhjfcaaCopyWords
namespace Go.Proofs.Ytclfbpgfnhjfcaa.pocketBoots
open Go.ChangeShapes Go.WideShapes Go.ChangeAt Go.RowKit
set_option maxRecDepth 20000
set_option maxHeartbeats 2000000 in
theorem walk (v1 : Value) (xs : List Int) (w : World) (h1 : Sl w v1 1 xs.length (xs.map U32)) (hw : ∀ x ∈ xs, W32 x) (hb1 : xs.length * 4 ≤ 140737488351232) : Calls Try.prog 9 #[v1] w (Grew (.bool true) w) := by
  have k := Below.refl w.heap.size w
  have T := Lib.hid (fun v W hW => Boot_any v xs W hW hw)
  have R := Lib.hid (fun v W hW => Booted_any v xs W hW hw)
  generalize bootM xs = t at *
  generalize bootE xs = E at *
  obtain ⟨t1, t2, t3, t4, t5, t6, t7⟩ := t
  go_enter Try.func9, Try.ntmps9
  go_wp2_with fail
  refine (words_any _ xs _ h1 (by omega)).mono ?_
  rintro e w' ⟨c, rfl, hc, kk⟩
  have h1 := h1.below kk
  have k := k.trans (kk.mono k.size)
  clear kk
  go_wp2_with fail
  refine (T.out _ _ hc).mono ?_
  rintro e w1 ⟨rfl, k1⟩
  have h1 := h1.below k1
  have hc := hc.below k1
  have k := k.trans (k1.mono k.size)
  clear k1
  go_wp2_with fail
  refine (R.out _ _ (h1.below (boxed_below _ _))).mono ?_
  rintro e w2 ⟨rfl, k2⟩
  have dO := (Own.new rfl [I t1, I t2, I t3, I t4, .int .u64 t5, I t6, I t7] 53).below k2
  have d0 := dO.cell 0 (by simp)
  have df0 := dO.frozen 0
  have d1 := dO.cell 1 (by simp)
  have df1 := dO.frozen 1
  have d2 := dO.cell 2 (by simp)
  have df2 := dO.frozen 2
  have d3 := dO.cell 3 (by simp)
  have df3 := dO.frozen 3
  have d4 := dO.cell 4 (by simp)
  have df4 := dO.frozen 4
  have d5 := dO.cell 5 (by simp)
  have df5 := dO.frozen 5
  have d6 := dO.cell 6 (by simp)
  have df6 := dO.frozen 6
  simp only [Nat.zero_add, List.getD_cons_zero, List.getD_cons_succ] at d0 d1 d2 d3 d4 d5 d6
  clear dO
  have h1 := h1.below (below_box k2)
  have hc := hc.below (below_box k2)
  have k' := k.trans ((below_box k2).mono k.size)
  have hlt1 : w1.heap.size < w2.heap.size := by have := k2.size; simp at this; omega
  have hne1 : ¬ w1.heap.size = w2.heap.size := by omega
  have kb := boxed_below w2 (.cells #[I t1, I t2, I t3, I t4, .int .u64 t5, I t6, I t7] 53)
  have S := Lib.hid (sameWords_any _ _ xs xs _ (h1.below kb) (hc.below kb))
  have k' := k'.alloc k'.size (.cells #[I t1, I t2, I t3, I t4, .int .u64 t5, I t6, I t7] 53)
  clear k2 h1 hc k T R kb
  go_wp2_with (go_at_call 23; refine S.out.mono ?_; rintro e w4 ⟨rfl, k4⟩)
  go_ret
  exact Grew.intro (by simp) (k'.trans (k4.mono k'.size))

set_option maxRecDepth 100000 in
theorem lifted (os : Os) (started : os.Started) (H : Type) (enc : TypeId × Value → H) :
    ReturnsInHanded {} Try.checked os 9 .any (Rows.pocketBootsSpec.pre6 enc Try.prog Try.f9 Rows.pocketBootsRow.domain false) (Rows.pocketBootsSpec.post enc Try.prog Try.f9 false true false false) := by
  refine returnsInHanded_of_change_sized (C := Try.checked) own started (by kernel_rfl) Try.func9
    (ChangeSpec.witness6 (enc := enc) (C := Try.checked) false ⟨#[], #[.slice none 0 0], []⟩ 8 (by kernel_rfl) (by kernel_rfl) (by kernel_rfl) (by kernel_rfl)) ?_
  intro W base args ds gs before hval hW hcnd hsz _
  have hfin := fun W' => post_true (fn := Try.f9) (s := Rows.pocketBootsSpec) (bt := 4) (W' := W') rfl laidOut (by kernel_rfl) Try.underlying4 rfl (fun ds h => by match ds, h with | [_], _ => rfl) hW
  have hsz : (DataW.weightsEach Try.prog (Try.f9.params.toList ++ []) (ds ++ gs)).all (· ≤ reachBytes) = true := hsz
  obtain ⟨p, q, hA, hV, rfl, hfz, hnd⟩ := hW
  obtain ⟨rfl, rfl⟩ := trodVars_none hV
  rw [Try.params9] at hA hval hsz
  obtain ⟨v0, vs0, d0, ds0, p0, q0, hargs, rfl, rfl, h0, r0⟩ := trodAll_cons hA
  obtain ⟨rfl, rfl, rfl⟩ := trodAll_nil r0
  obtain rfl : args = #[v0] := by cases args; simp_all
  simp only [List.append_nil] at hsz
  have pl0 := arg_plains (ks := (shape Try.prog 9 38).getD []) (by kernel_rfl) h0 (arg_weights (j := 0) hsz rfl rfl)
  obtain ⟨xs0, hS0, hw0, hb0⟩ := plain_words (arg_slice Try.underlying38 (hval 0 38 v0 rfl rfl) pl0)
  exact (walk v0 xs0 W hS0 hw0 hb0).mono fun e W' h => by
    obtain ⟨rfl, hb⟩ := h.grew
    exact ⟨_, rfl, hfin W' hb⟩

theorem over : Rows.pocketBootsRow.holds Try.pinned (OpenSpec.ofChange Rows.pocketBootsSpec) :=
  OpenClaim.holds_of_wide 9 Try.f9 rfl rfl rfl rfl rfl rfl rfl ⟨rfl, rfl, rfl, rfl, rfl⟩ rfl rfl rfl rfl rfl (by kernel_rfl) Try.func9 (by kernel_rfl)
    (of_decide_eq_true (by kernel_rfl)) (by unfold Func.isWrapper; first | (rw [if_pos (by decide +kernel)]; kernel_rfl) | (rw [if_neg (by decide +kernel)]; exact ⟨rfl, rfl⟩))
    (fun os started H enc _ => lifted os started H enc)

theorem proved : Rows.PocketBootsSaid := over
#print axioms proved
end Go.Proofs.Ytclfbpgfnhjfcaa.pocketBoots
