/- words.Over answers as the reference does, at every argument. No conditions. -/
import Derived.Test.YtgldppmkiieoaaaLift
import Derived.Test.YtgldppmkiieoaaaDecode
import Derived.Test.YtgldppmkiieoaaaDecodeW
import Derived.Test.YtgldppmkiieoaaaWordsDiv
import Derived.Test.YtgldppmkiieoaaaEqWide
namespace Go.Proofs.Ytgldppmkiieoaaa.wordsOver
open Go.ChangeShapes Go.WideShapes Go.ChangeAt Go.RowKit
set_option maxRecDepth 20000
set_option maxHeartbeats 2000000 in
theorem walkAt (a b c x w0' w1' w2' w3' : Nat) (er : Int) (w : World) (P : Hid (∀ W, Calls Try.prog 18 #[wideV a b c, U32 x] W (GrewW3 w0' w1' w2' w3' er W)))
    (R : Hid (∀ W, Calls Try.prog 19 #[wideV a b c, U32 x] W (GrewW3 w0' w1' w2' w3' er W))) : Calls Try.prog 5 #[.agg #[U32 a, U32 b, U32 c], U32 x] w (Grew (.bool true) w) := by
  go_enter Try.func5, Try.ntmps5
  go_wp2_with fail
  refine (P.out _).mono ?_
  rintro e w1 ⟨rfl, k1⟩
  have dO := (Own.new (w := w) rfl [U32 a, U32 b, U32 c] 24).below k1
  have d0 := dO.cell 0 (by simp)
  have df0 := dO.frozen 0
  have d1 := dO.cell 1 (by simp)
  have df1 := dO.frozen 1
  have d2 := dO.cell 2 (by simp)
  have df2 := dO.frozen 2
  simp only [Nat.zero_add, List.getD_cons_zero, List.getD_cons_succ] at d0 d1 d2
  clear dO
  have k := below_box k1
  have n0 : w.heap.size < w1.heap.size := by have := k1.size; simp at this; omega
  have m0 : ¬ w.heap.size = w1.heap.size := by omega
  clear k1
  go_wp2_with fail
  refine (R.out _).mono ?_
  rintro e w2 ⟨rfl, k2⟩
  have pO := (Own.new (w := w1) rfl [U32 w0', U32 w1', U32 w2'] 24).below k2
  have p0 := pO.cell 0 (by simp)
  have pf0 := pO.frozen 0
  have p1 := pO.cell 1 (by simp)
  have pf1 := pO.frozen 1
  have p2 := pO.cell 2 (by simp)
  have pf2 := pO.frozen 2
  simp only [Nat.zero_add, List.getD_cons_zero, List.getD_cons_succ] at p0 p1 p2
  clear pO
  have kk := k.trans ((below_box k2).mono k.size)
  have n1 : w1.heap.size < w2.heap.size := by have := k2.size; simp at this; omega
  have m1 : ¬ w1.heap.size = w2.heap.size := by omega
  clear k2 k
  have EQ := fun W => equalWide_same w0' w1' w2' W
  go_wp2
  go_ret
  exact Grew.intro (by simp) (kk.alloc kk.size _)
theorem walk (a b c x : Int) (w : World) (ha : W32 a) (hb : W32 b) (hc : W32 c) (hx : W32 x) : Calls Try.prog 5 #[.agg #[U32 a, U32 b, U32 c], U32 x] w (Grew (.bool true) w) := by
  obtain ⟨a0, a1⟩ := ha
  obtain ⟨b0, b1⟩ := hb
  obtain ⟨c0, c1⟩ := hc
  obtain ⟨x0, x1⟩ := hx
  obtain ⟨a, rfl⟩ := Int.eq_ofNat_of_zero_le a0
  obtain ⟨b, rfl⟩ := Int.eq_ofNat_of_zero_le b0
  obtain ⟨c, rfl⟩ := Int.eq_ofNat_of_zero_le c0
  obtain ⟨x, rfl⟩ := Int.eq_ofNat_of_zero_le x0
  by_cases h : x = 0
  · subst h
    exact walkAt a b c 0 0 0 0 0 4 w (fun W => Over_zero a b c W) (fun W => Divided_zero a b c W)
  · exact walkAt a b c x _ _ _ _ _ w (fun W => Over_any a b c x W (by omega) (by omega) (by omega) (by omega) (by omega)) (fun W => Divided_any a b c x W (by omega) (by omega) (by omega) (by omega) (by omega))

set_option maxRecDepth 100000 in
theorem lifted (os : Os) (started : os.Started) (H : Type) (enc : TypeId × Value → H) :
    ReturnsInHanded {} Try.checked os 5 .any (Rows.wordsOverSpec.pre6 enc Try.prog Try.f5 Rows.wordsOverRow.domain false) (Rows.wordsOverSpec.post enc Try.prog Try.f5 false true false false) := by
  refine returnsInHanded_of_change_sized (C := Try.checked) own started (by kernel_rfl) Try.func5
    (ChangeSpec.witness6 (enc := enc) (C := Try.checked) false ⟨#[], #[.agg #[.int .u32 0, .int .u32 0, .int .u32 0], .int .u32 0], []⟩ 8 (by kernel_rfl) (by kernel_rfl) (by kernel_rfl) (by kernel_rfl)) ?_
  intro W base args ds gs before hval hW hcnd hsz _
  have hfin := fun W' => post_true (fn := Try.f5) (s := Rows.wordsOverSpec) (bt := 4) (W' := W') rfl laidOut (by kernel_rfl) Try.underlying4 rfl (fun ds h => by match ds, h with | [_, _], _ => rfl) hW
  have hsz : (DataW.weightsEach Try.prog (Try.f5.params.toList ++ []) (ds ++ gs)).all (· ≤ reachBytes) = true := hsz
  obtain ⟨p, q, hA, hV, rfl, hfz, hnd⟩ := hW
  obtain ⟨rfl, rfl⟩ := trodVars_none hV
  rw [Try.params5] at hA hval hsz
  obtain ⟨v0, vs0, d0, ds0, p0, q0, hargs, rfl, rfl, h0, r0⟩ := trodAll_cons hA
  obtain ⟨v1, vs1, d1, ds1, p1, q1, rfl, rfl, rfl, h1, r1⟩ := trodAll_cons r0
  obtain ⟨rfl, rfl, rfl⟩ := trodAll_nil r1
  obtain rfl : args = #[v0, v1] := by cases args; simp_all
  simp only [List.append_nil] at hsz
  have pl0 := arg_plains (ks := (shape Try.prog 9 24).getD []) (by kernel_rfl) h0 (arg_weights (j := 0) hsz rfl rfl)
  obtain ⟨cs0, rfl, pl0⟩ := arg_array Try.underlying24 (hval 0 24 v0 rfl rfl) pl0
  obtain ⟨x0a, x0b, x0c, rfl, w0a, w0b, w0c⟩ := decodeWide _ pl0
  obtain ⟨a1, rfl, rfl, rfl, wf1⟩ := open_int Try.underlying22 (hval 1 22 v1 rfl rfl) h1
  exact (walk x0a x0b x0c a1 W w0a w0b w0c (wf_W32 wf1)).mono fun e W' h => by
    obtain ⟨rfl, hb⟩ := h.grew
    exact ⟨_, rfl, hfin W' hb⟩

theorem over : Rows.wordsOverRow.holds Try.pinned (OpenSpec.ofChange Rows.wordsOverSpec) :=
  OpenClaim.holds_of_wide 5 Try.f5 rfl rfl rfl rfl rfl rfl rfl ⟨rfl, rfl, rfl, rfl, rfl⟩ rfl rfl rfl rfl rfl (by kernel_rfl) Try.func5 (by kernel_rfl)
    (of_decide_eq_true (by kernel_rfl)) (by unfold Func.isWrapper; first | (rw [if_pos (by decide +kernel)]; kernel_rfl) | (rw [if_neg (by decide +kernel)]; exact ⟨rfl, rfl⟩))
    (fun os started H enc _ => lifted os started H enc)

theorem proved : Rows.WordsOverSaid := over
#print axioms proved
end Go.Proofs.Ytgldppmkiieoaaa.wordsOver
