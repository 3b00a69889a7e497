/- window.Take answers as the reference does, at every argument. No conditions. -/
import Derived.Test.YtebcdabdnmeeaaaLift
import Derived.Test.YtebcdabdnmeeaaaDecode
import Derived.Test.YtebcdabdnmeeaaaWinTake
namespace Go.Proofs.Ytebcdabdnmeeaaa.windowTakes
open Go.ChangeShapes Go.WideShapes Go.ChangeAt Go.RowKit
set_option maxRecDepth 20000
theorem walk (x : AWindow) (id : Int) (w : World) (hx : x.wf) : Calls Try.prog 4 #[.agg x.cells.toArray, I id] w (Grew (.bool true) w) := by
  obtain ⟨_, b0, b1⟩ := hx
  obtain ⟨h, bi⟩ := x
  simp only at b0 b1
  obtain ⟨b, rfl⟩ := Int.eq_ofNat_of_zero_le b0
  show Calls Try.prog 4 #[WinV h b, I id] w (Grew (.bool true) w)
  have hb : b < 18446744073709551616 := by omega
  have T := Lib.hid (fun W => Take_any h b id W hb)
  have R := Lib.hid (fun W => TakenBy_any h b id W hb)
  clear b0 b1
  generalize tkH h b id = th at *
  generalize tkB h b id = tb at *
  generalize judgeE h b id = E at *
  go_enter Try.func4, Try.ntmps4
  go_wp2_with fail
  refine (T.out _).mono ?_
  rintro e w1 ⟨rfl, k1⟩
  obtain ⟨hc, _⟩ := bcell k1
  have k := below_box k1
  have hlt0 : w.heap.size < w1.heap.size := by have := k1.size; simp at this; omega
  have hne0 : ¬ w.heap.size = w1.heap.size := by omega
  clear k1
  go_wp2_with fail
  refine (R.out _).mono ?_
  rintro e w2 ⟨rfl, k2⟩
  have c0 := (k2.cell (p := ⟨w1.heap.size, 0, none⟩) (by simp; try omega)).trans (show _ = some (I th) by simp)
  have c1 := (k2.cell (p := ⟨w1.heap.size, 1, none⟩) (by simp; try omega)).trans (show _ = some (.int .u64 tb) by simp)
  have k' := k.trans ((below_box k2).mono k.size)
  have hlt := k2.size
  simp at hlt
  have hlt1 : w1.heap.size < w2.heap.size := by omega
  have hne1 : ¬ w1.heap.size = w2.heap.size := by omega
  clear k2 hc k
  go_wp2
  go_ret
  exact Grew.intro (by simp) (k'.alloc k'.size _)

set_option maxRecDepth 100000 in
theorem lifted (os : Os) (started : os.Started) (H : Type) (enc : TypeId × Value → H) :
    ReturnsInHanded {} Try.checked os 4 .any (Rows.windowTakesSpec.pre6 enc Try.prog Try.f4 Rows.windowTakesRow.domain false) (Rows.windowTakesSpec.post enc Try.prog Try.f4 false true false false) := by
  refine returnsInHanded_of_change_sized (C := Try.checked) own started (by kernel_rfl) Try.func4
    (ChangeSpec.witness6 (enc := enc) (C := Try.checked) false ⟨#[], #[.agg #[.int .i64 0, .int .u64 0], .int .i64 0], []⟩ 8 (by kernel_rfl) (by kernel_rfl) (by kernel_rfl) (by kernel_rfl)) ?_
  intro W base args ds gs before hval hW hcnd hsz _
  have hfin := fun W' => post_true (fn := Try.f4) (s := Rows.windowTakesSpec) (bt := 4) (W' := W') rfl laidOut (by kernel_rfl) Try.underlying4 rfl (fun ds h => by match ds, h with | [_, _], _ => rfl) hW
  have hsz : (DataW.weightsEach Try.prog (Try.f4.params.toList ++ []) (ds ++ gs)).all (· ≤ reachBytes) = true := hsz
  obtain ⟨p, q, hA, hV, rfl, hfz, hnd⟩ := hW
  obtain ⟨rfl, rfl⟩ := trodVars_none hV
  rw [Try.params4] at hA hval hsz
  obtain ⟨v0, vs0, d0, ds0, p0, q0, hargs, rfl, rfl, h0, r0⟩ := trodAll_cons hA
  obtain ⟨v1, vs1, d1, ds1, p1, q1, rfl, rfl, rfl, h1, r1⟩ := trodAll_cons r0
  obtain ⟨rfl, rfl, rfl⟩ := trodAll_nil r1
  obtain rfl : args = #[v0, v1] := by cases args; simp_all
  simp only [List.append_nil] at hsz
  have pl0 := arg_plains (ks := (shape Try.prog 9 24).getD []) (by kernel_rfl) h0 (arg_weights (j := 0) hsz rfl rfl)
  obtain ⟨cs0, rfl, pl0⟩ := arg_struct Try.underlying24 (hval 0 24 v0 rfl rfl) pl0
  obtain ⟨x0, rfl, hx0⟩ := decodeWindow _ pl0
  obtain ⟨a1, rfl, rfl, rfl, wf1⟩ := open_int Try.underlying3 (hval 1 3 v1 rfl rfl) h1
  exact (walk x0 a1 W hx0).mono fun e W' h => by
    obtain ⟨rfl, hb⟩ := h.grew
    exact ⟨_, rfl, hfin W' hb⟩

theorem over : Rows.windowTakesRow.holds Try.pinned (OpenSpec.ofChange Rows.windowTakesSpec) :=
  OpenClaim.holds_of_wide 4 Try.f4 rfl rfl rfl rfl rfl rfl rfl ⟨rfl, rfl, rfl, rfl, rfl⟩ rfl rfl rfl rfl rfl (by kernel_rfl) Try.func4 (by kernel_rfl)
    (of_decide_eq_true (by kernel_rfl)) (by unfold Func.isWrapper; first | (rw [if_pos (by decide +kernel)]; kernel_rfl) | (rw [if_neg (by decide +kernel)]; exact ⟨rfl, rfl⟩))
    (fun os started H enc _ => lifted os started H enc)

theorem proved : Rows.WindowTakesSaid := over
#print axioms proved
end Go.Proofs.Ytebcdabdnmeeaaa.windowTakes
