/- cell.Diff answers as the reference does, at every argument, and changes none of them. No conditions. -/
import Derived.Test.YtckhdbppomicmaaLift
import Derived.Test.YtckhdbppomicmaaDecode
import Derived.Test.YtckhdbppomicmaaDiff
import Derived.Test.YtckhdbppomicmaaSameWords
import Derived.Test.YtckhdbppomicmaaSameWrite
import Derived.Test.YtckhdbppomicmaaCopyWords
namespace Go.Proofs.Ytckhdbppomicmaa.cellDiffs
open Go.ChangeShapes Go.WideShapes Go.ChangeAt Go.RowKit
set_option maxRecDepth 20000

theorem walk (v1 : Value) (xs : List Int) (v2 : Value) (ys : List Int) (w : World) (h1 : Sl w v1 1 xs.length (xs.map U32)) (_ : ∀ x ∈ xs, W32 x) (hb1 : xs.length * 4 ≤ 140737488351232)
    (h2 : Sl w v2 1 ys.length (ys.map U32)) (_ : ∀ x ∈ ys, W32 x) (hb2 : ys.length * 4 ≤ 140737488351232) : Calls Try.prog 9 #[v1, v2] w (Grew (.bool true) w) := by
  go_enter Try.func9, Try.ntmps9
  go_wp2_with fail
  refine (words_any _ xs _ h1 (by omega)).mono ?_
  rintro e w1 ⟨c, rfl, hc, k1⟩
  have h1 := h1.below k1
  have h2 := h2.below k1
  go_wp2_with fail
  refine (words_any _ ys _ h2 (by omega)).mono ?_
  rintro e w2 ⟨d, rfl, hd, k2⟩
  have h1 := h1.below k2
  have h2 := h2.below k2
  have hc := hc.below k2
  have k := k1.trans (k2.mono k1.size)
  clear k1 k2
  go_wp2_with fail
  refine (Diff_any _ _ xs ys _ hc hd).mono ?_
  rintro e w3 ⟨x, rfl, hx, k3⟩
  have h1 := h1.below k3
  have h2 := h2.below k3
  have hc := hc.below k3
  have hd := hd.below k3
  have k := k.trans (k3.mono k.size)
  clear k3
  go_wp2_with fail
  refine (Differs_any _ _ xs ys _ h1 h2).mono ?_
  rintro e w4 ⟨y, rfl, hy, k4⟩
  have h1 := h1.below k4
  have h2 := h2.below k4
  have hc := hc.below k4
  have hd := hd.below k4
  have hx := hx.below k4
  have k := k.trans (k4.mono k.size)
  clear k4
  go_wp2_with fail
  refine (sameWrites_any _ _ (diffL xs ys) (diffL xs ys) _ hx hy).mono ?_
  rintro e w5 ⟨rfl, k5⟩
  have h1 := h1.below k5
  have h2 := h2.below k5
  have hc := hc.below k5
  have hd := hd.below k5
  have k := k.trans (k5.mono k.size)
  clear k5 hx hy
  go_wp2_with fail
  refine (sameWords_any _ _ xs xs _ h1 hc).mono ?_
  rintro e w6 ⟨rfl, k6⟩
  have h2 := h2.below k6
  have hd := hd.below k6
  have k := k.trans (k6.mono k.size)
  clear k6
  go_wp2_with fail
  refine (sameWords_any _ _ ys ys _ h2 hd).mono ?_
  rintro e w7 ⟨rfl, k7⟩
  have k := k.trans (k7.mono k.size)
  clear k7
  go_wp2
  go_ret
  exact Grew.intro (by simp) k

set_option maxRecDepth 100000 in
theorem lifted (os : Os) (started : os.Started) (H : Type) (enc : TypeId × Value → H) :
    ReturnsInHanded {} Try.checked os 9 .any (Rows.cellDiffsSpec.pre6 enc Try.prog Try.f9 Rows.cellDiffsRow.domain false) (Rows.cellDiffsSpec.post enc Try.prog Try.f9 false true false false) := by
  refine returnsInHanded_of_change_sized (C := Try.checked) own started (by kernel_rfl) Try.func9
    (ChangeSpec.witness6 (enc := enc) (C := Try.checked) false ⟨#[], #[.slice none 0 0, .slice none 0 0], []⟩ 8 (by kernel_rfl) (by kernel_rfl) (by kernel_rfl) (by kernel_rfl)) ?_
  intro W base args ds gs before hval hW hcnd hsz _
  have hfin := fun W' => post_true (fn := Try.f9) (s := Rows.cellDiffsSpec) (bt := 4) (W' := W') rfl laidOut (by kernel_rfl) Try.underlying4 rfl (fun ds h => by match ds, h with | [_, _], _ => rfl) hW
  have hsz : (DataW.weightsEach Try.prog (Try.f9.params.toList ++ []) (ds ++ gs)).all (· ≤ reachBytes) = true := hsz
  obtain ⟨p, q, hA, hV, rfl, hfz, hnd⟩ := hW
  obtain ⟨rfl, rfl⟩ := trodVars_none hV
  rw [Try.params9] at hA hval hsz
  obtain ⟨v0, vs0, d0, ds0, p0, q0, hargs, rfl, rfl, h0, r0⟩ := trodAll_cons hA
  obtain ⟨v1, vs1, d1, ds1, p1, q1, rfl, rfl, rfl, h1, r1⟩ := trodAll_cons r0
  obtain ⟨rfl, rfl, rfl⟩ := trodAll_nil r1
  obtain rfl : args = #[v0, v1] := by cases args; simp_all
  simp only [List.append_nil] at hsz
  have pl0 := arg_plains (ks := (shape Try.prog 9 27).getD []) (by kernel_rfl) h0 (arg_weights (j := 0) hsz rfl rfl)
  obtain ⟨xs0, hS0, hw0, hb0⟩ := plain_words (arg_slice Try.underlying27 (hval 0 27 v0 rfl rfl) pl0)
  have pl1 := arg_plains (ks := (shape Try.prog 9 27).getD []) (by kernel_rfl) h1 (arg_weights (j := 1) hsz rfl rfl)
  obtain ⟨xs1, hS1, hw1, hb1⟩ := plain_words (arg_slice Try.underlying27 (hval 1 27 v1 rfl rfl) pl1)
  exact (walk v0 xs0 v1 xs1 W hS0 hw0 hb0 hS1 hw1 hb1).mono fun e W' h => by
    obtain ⟨rfl, hb⟩ := h.grew
    exact ⟨_, rfl, hfin W' hb⟩

theorem over : Rows.cellDiffsRow.holds Try.pinned (OpenSpec.ofChange Rows.cellDiffsSpec) :=
  OpenClaim.holds_of_wide 9 Try.f9 rfl rfl rfl rfl rfl rfl rfl ⟨rfl, rfl, rfl, rfl, rfl⟩ rfl rfl rfl rfl rfl (by kernel_rfl) Try.func9 (by kernel_rfl)
    (of_decide_eq_true (by kernel_rfl)) (by unfold Func.isWrapper; first | (rw [if_pos (by decide +kernel)]; kernel_rfl) | (rw [if_neg (by decide +kernel)]; exact ⟨rfl, rfl⟩))
    (fun os started H enc _ => lifted os started H enc)

theorem proved : Rows.CellDiffsSaid := over
#print axioms proved
end Go.Proofs.Ytckhdbppomicmaa.cellDiffs
