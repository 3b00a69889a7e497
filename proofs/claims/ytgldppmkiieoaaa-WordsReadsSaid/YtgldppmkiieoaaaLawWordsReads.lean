/- words.Read answers as the reference does, at every argument. No conditions. -/
import Derived.Test.YtgldppmkiieoaaaLift
import Derived.Test.YtgldppmkiieoaaaDecode
import Derived.Test.YtgldppmkiieoaaaWReadRef
import Derived.Test.YtgldppmkiieoaaaEqWide
namespace Go.Proofs.Ytgldppmkiieoaaa.wordsReads
open Go.ChangeShapes Go.WideShapes Go.ChangeAt Go.RowKit
set_option maxRecDepth 20000
set_option maxHeartbeats 2000000 in
theorem walkAt (s : ByteArray) (w0' w1' w2' : Nat) (er : Int) (w : World) (P : Hid (∀ W, Calls Try.prog 24 #[.string s] W (GrewW2 w0' w1' w2' er W)))
    (R : Hid (∀ W, Calls Try.prog 25 #[.string s] W (GrewW2 w0' w1' w2' er W))) : Calls Try.prog 8 #[.string s] w (Grew (.bool true) w) := by
  go_enter Try.func8, Try.ntmps8
  go_wp2_with fail
  refine (P.out _).mono ?_
  rintro e w1 ⟨rfl, k⟩
  have n0 : w.heap.size ≤ w1.heap.size := k.size
  go_wp2_with fail
  refine (R.out _).mono ?_
  rintro e w2 ⟨rfl, k2⟩
  have pO := (Own.new (w := w1) rfl [U32 w0', U32 w1', U32 w2'] 24).below k2
  have p0 := pO.cell 0 (by simp)
  have pf0 := pO.frozen 0
  have p1 := pO.cell 1 (by simp)
  have pf1 := pO.frozen 1
  have p2 := pO.cell 2 (by simp)
  have pf2 := pO.frozen 2
  simp only [Nat.zero_add, List.getD_cons_zero, List.getD_cons_succ] at p0 p1 p2
  clear pO
  have kk := k.trans ((below_box k2).mono k.size)
  have n1 : w1.heap.size < w2.heap.size := by have := k2.size; simp at this; omega
  have m1 : ¬ w1.heap.size = w2.heap.size := by omega
  clear k2 k
  have EQ := fun W => equalWide_same w0' w1' w2' W
  go_wp2
  go_ret
  exact Grew.intro (by simp) (kk.alloc kk.size _)
theorem walk (s : ByteArray) (w : World) (_hs : Str s) : Calls Try.prog 8 #[.string s] w (Grew (.bool true) w) := by
  by_cases h : 40 < s.size
  · exact walkAt s 0 0 0 1 w (fun W => Read_size s W h) (fun W => WideRead_size s W h)
  · cases hf : formS s
    · exact walkAt s _ _ _ _ w (fun W => Read_main s W h hf) (fun W => WideRead_main s W h hf)
    · exact walkAt s 0 0 0 3 w (fun W => Read_form s W h hf) (fun W => WideRead_form s W h hf)

set_option maxRecDepth 100000 in
theorem lifted (os : Os) (started : os.Started) (H : Type) (enc : TypeId × Value → H) :
    ReturnsInHanded {} Try.checked os 8 .any (Rows.wordsReadsSpec.pre6 enc Try.prog Try.f8 Rows.wordsReadsRow.domain false) (Rows.wordsReadsSpec.post enc Try.prog Try.f8 false true false false) := by
  refine returnsInHanded_of_change_sized (C := Try.checked) own started (by kernel_rfl) Try.func8
    (ChangeSpec.witness6 (enc := enc) (C := Try.checked) false ⟨#[], #[.string ByteArray.empty], []⟩ 8 (by kernel_rfl) (by kernel_rfl) (by kernel_rfl) (by kernel_rfl)) ?_
  intro W base args ds gs before hval hW hcnd hsz _
  have hfin := fun W' => post_true (fn := Try.f8) (s := Rows.wordsReadsSpec) (bt := 4) (W' := W') rfl laidOut (by kernel_rfl) Try.underlying4 rfl (fun ds h => by match ds, h with | [_], _ => rfl) hW
  have hsz : (DataW.weightsEach Try.prog (Try.f8.params.toList ++ []) (ds ++ gs)).all (· ≤ reachBytes) = true := hsz
  obtain ⟨p, q, hA, hV, rfl, hfz, hnd⟩ := hW
  obtain ⟨rfl, rfl⟩ := trodVars_none hV
  rw [Try.params8] at hA hval hsz
  obtain ⟨v0, vs0, d0, ds0, p0, q0, hargs, rfl, rfl, h0, r0⟩ := trodAll_cons hA
  obtain ⟨rfl, rfl, rfl⟩ := trodAll_nil r0
  obtain rfl : args = #[v0] := by cases args; simp_all
  simp only [List.append_nil] at hsz
  have pl0 := arg_plains (ks := (shape Try.prog 9 9).getD []) (by kernel_rfl) h0 (arg_weights (j := 0) hsz rfl rfl)
  obtain ⟨s0, rfl, hs0⟩ := arg_string Try.underlying9 (hval 0 9 v0 rfl rfl) h0 pl0
  exact (walk s0 W hs0).mono fun e W' h => by
    obtain ⟨rfl, hb⟩ := h.grew
    exact ⟨_, rfl, hfin W' hb⟩

theorem over : Rows.wordsReadsRow.holds Try.pinned (OpenSpec.ofChange Rows.wordsReadsSpec) :=
  OpenClaim.holds_of_wide 8 Try.f8 rfl rfl rfl rfl rfl rfl rfl ⟨rfl, rfl, rfl, rfl, rfl⟩ rfl rfl rfl rfl rfl (by kernel_rfl) Try.func8 (by kernel_rfl)
    (of_decide_eq_true (by kernel_rfl)) (by unfold Func.isWrapper; first | (rw [if_pos (by decide +kernel)]; kernel_rfl) | (rw [if_neg (by decide +kernel)]; exact ⟨rfl, rfl⟩))
    (fun os started H enc _ => lifted os started H enc)

theorem proved : Rows.WordsReadsSaid := over
#print axioms proved
end Go.Proofs.Ytgldppmkiieoaaa.wordsReads
