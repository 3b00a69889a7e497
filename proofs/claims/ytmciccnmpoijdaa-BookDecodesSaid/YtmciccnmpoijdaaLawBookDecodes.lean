/- book.Decode answers as the reference does, at every argument, and changes none of them. No conditions. -/
import Derived.Test.YtmciccnmpoijdaaLift
import Derived.Test.YtmciccnmpoijdaaDecode
import Derived.Test.YtmciccnmpoijdaaBookDecd
import Derived.Test.YtmciccnmpoijdaaSameWords
import Derived.Test.YtmciccnmpoijdaaCopyWords
namespace Go.Proofs.Ytmciccnmpoijdaa.bookDecodes
open Go.ChangeShapes Go.WideShapes Go.ChangeAt Go.RowKit
set_option maxRecDepth 20000
set_option maxHeartbeats 2000000 in
theorem walk (v1 : Value) (xs : List Int) (w : World) (h1 : Sl w v1 1 xs.length (xs.map U32)) (hw : ∀ x ∈ xs, W32 x) (hb1 : xs.length * 4 ≤ 140737488351232) : Calls Try.prog 5 #[v1] w (Grew (.bool true) w) := by
  have k := Below.refl w.heap.size w
  have D := Lib.hid (fun W v h => Decode_any v xs W hw h)
  have R := Lib.hid (fun W v h => Decoded_any v xs W hw h)
  unfold DecdP decVal at D R
  have EQ := fun W => eqlEv_run (decX xs 0) (decX xs 1) (decX xs 2) (decX xs 3) (decX xs 4) (decX xs 5) (decX xs 6) (decX xs 7) (decX xs 8) (decX xs 9) (decX xs 10) (decX xs 11) (decX xs 12) (decX xs 0) (decX xs 1) (decX xs 2) (decX xs 3) (decX xs 4) (decX xs 5) (decX xs 6) (decX xs 7) (decX xs 8) (decX xs 9) (decX xs 10) (decX xs 11) (decX xs 12) W
  generalize decX xs 0 = y0 at *
  generalize decX xs 1 = y1 at *
  generalize decX xs 2 = y2 at *
  generalize decX xs 3 = y3 at *
  generalize decX xs 4 = y4 at *
  generalize decX xs 5 = y5 at *
  generalize decX xs 6 = y6 at *
  generalize decX xs 7 = y7 at *
  generalize decX xs 8 = y8 at *
  generalize decX xs 9 = y9 at *
  generalize decX xs 10 = y10 at *
  generalize decX xs 11 = y11 at *
  generalize decX xs 12 = y12 at *
  generalize decE xs = er at *
  simp only [eqE, and_self, decide_true] at EQ
  go_enter Try.func5, Try.ntmps5
  go_wp2_with fail
  refine (words_any _ xs _ h1 (by omega)).mono ?_
  rintro e w' ⟨c, rfl, hc, kk⟩
  have h1 := h1.below kk
  have k := k.trans (kk.mono k.size)
  clear kk
  go_wp2_with fail
  refine (D.out _ _ hc).mono ?_
  rintro e w1 ⟨rfl, k1⟩
  have h1 := h1.below k1
  have hc := hc.below k1
  have k := k.trans (k1.mono k.size)
  clear k1
  go_wp2_with fail
  refine (R.out _ _ (h1.below (boxed_below _ _))).mono ?_
  rintro e w2 ⟨rfl, k2⟩
  have pO := (Own.new (w := w1) rfl [I y0, I y1, I y2, I y3, I y4, I y5, I y6, I y7, I y8, I y9, I y10, I y11, I y12] 43).below k2
  have p0 := pO.cell 0 (by simp)
  have pf0 := pO.frozen 0
  have p1 := pO.cell 1 (by simp)
  have pf1 := pO.frozen 1
  have p2 := pO.cell 2 (by simp)
  have pf2 := pO.frozen 2
  have p3 := pO.cell 3 (by simp)
  have pf3 := pO.frozen 3
  have p4 := pO.cell 4 (by simp)
  have pf4 := pO.frozen 4
  have p5 := pO.cell 5 (by simp)
  have pf5 := pO.frozen 5
  have p6 := pO.cell 6 (by simp)
  have pf6 := pO.frozen 6
  have p7 := pO.cell 7 (by simp)
  have pf7 := pO.frozen 7
  have p8 := pO.cell 8 (by simp)
  have pf8 := pO.frozen 8
  have p9 := pO.cell 9 (by simp)
  have pf9 := pO.frozen 9
  have p10 := pO.cell 10 (by simp)
  have pf10 := pO.frozen 10
  have p11 := pO.cell 11 (by simp)
  have pf11 := pO.frozen 11
  have p12 := pO.cell 12 (by simp)
  have pf12 := pO.frozen 12
  simp only [Nat.zero_add, List.getD_cons_zero, List.getD_cons_succ] at p0 p1 p2 p3 p4 p5 p6 p7 p8 p9 p10 p11 p12
  clear pO
  have n1 : w1.heap.size < w2.heap.size := by have := k2.size; simp at this; omega
  have m1 : ¬ w1.heap.size = w2.heap.size := by omega
  have h1 := (h1.below (below_box k2)).below (boxed_below _ (.cells #[I y0, I y1, I y2, I y3, I y4, I y5, I y6, I y7, I y8, I y9, I y10, I y11, I y12] 43))
  have hc := (hc.below (below_box k2)).below (boxed_below _ (.cells #[I y0, I y1, I y2, I y3, I y4, I y5, I y6, I y7, I y8, I y9, I y10, I y11, I y12] 43))
  have k := k.trans ((below_box k2).mono k.size)
  have k := k.alloc k.size (.cells #[I y0, I y1, I y2, I y3, I y4, I y5, I y6, I y7, I y8, I y9, I y10, I y11, I y12] 43)
  clear k2 D R
  go_wp2_with fail
  refine (sameWords_any _ _ xs xs _ hc h1).mono ?_
  rintro e w' ⟨rfl, kk⟩
  have k := k.trans (kk.mono k.size)
  clear kk
  go_wp2
  go_ret
  exact Grew.intro (by simp) k

set_option maxRecDepth 100000 in
theorem lifted (os : Os) (started : os.Started) (H : Type) (enc : TypeId × Value → H) :
    ReturnsInHanded {} Try.checked os 5 .any (Rows.bookDecodesSpec.pre6 enc Try.prog Try.f5 Rows.bookDecodesRow.domain false) (Rows.bookDecodesSpec.post enc Try.prog Try.f5 false true false false) := by
  refine returnsInHanded_of_change_sized (C := Try.checked) own started (by kernel_rfl) Try.func5
    (ChangeSpec.witness6 (enc := enc) (C := Try.checked) false ⟨#[], #[.slice none 0 0], []⟩ 8 (by kernel_rfl) (by kernel_rfl) (by kernel_rfl) (by kernel_rfl)) ?_
  intro W base args ds gs before hval hW hcnd hsz _
  have hfin := fun W' => post_true (fn := Try.f5) (s := Rows.bookDecodesSpec) (bt := 4) (W' := W') rfl laidOut (by kernel_rfl) Try.underlying4 rfl (fun ds h => by match ds, h with | [_], _ => rfl) hW
  have hsz : (DataW.weightsEach Try.prog (Try.f5.params.toList ++ []) (ds ++ gs)).all (· ≤ reachBytes) = true := hsz
  obtain ⟨p, q, hA, hV, rfl, hfz, hnd⟩ := hW
  obtain ⟨rfl, rfl⟩ := trodVars_none hV
  rw [Try.params5] at hA hval hsz
  obtain ⟨v0, vs0, d0, ds0, p0, q0, hargs, rfl, rfl, h0, r0⟩ := trodAll_cons hA
  obtain ⟨rfl, rfl, rfl⟩ := trodAll_nil r0
  obtain rfl : args = #[v0] := by cases args; simp_all
  simp only [List.append_nil] at hsz
  have pl0 := arg_plains (ks := (shape Try.prog 9 44).getD []) (by kernel_rfl) h0 (arg_weights (j := 0) hsz rfl rfl)
  obtain ⟨xs0, hS0, hw0, hb0⟩ := plain_words (arg_slice Try.underlying44 (hval 0 44 v0 rfl rfl) pl0)
  exact (walk v0 xs0 W hS0 hw0 hb0).mono fun e W' h => by
    obtain ⟨rfl, hb⟩ := h.grew
    exact ⟨_, rfl, hfin W' hb⟩

theorem over : Rows.bookDecodesRow.holds Try.pinned (OpenSpec.ofChange Rows.bookDecodesSpec) :=
  OpenClaim.holds_of_wide 5 Try.f5 rfl rfl rfl rfl rfl rfl rfl ⟨rfl, rfl, rfl, rfl, rfl⟩ rfl rfl rfl rfl rfl (by kernel_rfl) Try.func5 (by kernel_rfl)
    (of_decide_eq_true (by kernel_rfl)) (by unfold Func.isWrapper; first | (rw [if_pos (by decide +kernel)]; kernel_rfl) | (rw [if_neg (by decide +kernel)]; exact ⟨rfl, rfl⟩))
    (fun os started H enc _ => lifted os started H enc)

theorem proved : Rows.BookDecodesSaid := over
#print axioms proved
end Go.Proofs.Ytmciccnmpoijdaa.bookDecodes
