/- meter.Begin answers as the reference does, at every argument. No conditions. -/
import Derived.Test.YtebcdabdnmeeaaaLift
import Derived.Test.YtebcdabdnmeeaaaMeterBegin
namespace Go.Proofs.Ytebcdabdnmeeaaa.meterBegins
open Go.ChangeShapes Go.WideShapes Go.ChangeAt Go.RowKit
set_option maxRecDepth 20000
theorem walk (me : Int) (w : World) : Calls Try.prog 6 #[I me] w (Grew (.bool true) w) := by
  have T := Lib.hid (fun W => Begin_any me W)
  have R := Lib.hid (fun W => MeterBegun_any me W)
  generalize begA me = a at *
  generalize begE me = E at *
  go_enter Try.func6, Try.ntmps6
  go_wp2_with fail
  refine (T.out _).mono ?_
  rintro e w1 ⟨rfl, k1⟩
  go_wp2_with fail
  refine (R.out _).mono ?_
  rintro e w2 ⟨rfl, k2⟩
  have c0 := (k2.cell (p := ⟨w1.heap.size, 0, none⟩) (by simp; try omega)).trans (show _ = some (I a) by simp)
  have c1 := (k2.cell (p := ⟨w1.heap.size, 1, none⟩) (by simp; try omega)).trans (show _ = some (I 0) by simp)
  have c2 := (k2.cell (p := ⟨w1.heap.size, 2, none⟩) (by simp; try omega)).trans (show _ = some (I 0) by simp)
  have c3 := (k2.cell (p := ⟨w1.heap.size, 3, none⟩) (by simp; try omega)).trans (show _ = some (I 0) by simp)
  have c4 := (k2.cell (p := ⟨w1.heap.size, 4, none⟩) (by simp; try omega)).trans (show _ = some (.int .u64 0) by simp)
  have c5 := (k2.cell (p := ⟨w1.heap.size, 5, none⟩) (by simp; try omega)).trans (show _ = some (I 0) by simp)
  have c6 := (k2.cell (p := ⟨w1.heap.size, 6, none⟩) (by simp; try omega)).trans (show _ = some (I 0) by simp)
  have k' := k1.trans ((below_box k2).mono k1.size)
  have hlt := k2.size
  simp at hlt
  have hlt1 : w1.heap.size < w2.heap.size := by omega
  have hne1 : ¬ w1.heap.size = w2.heap.size := by omega
  clear k2
  go_wp2
  go_ret
  exact Grew.intro (by simp) (k'.alloc k'.size _)

set_option maxRecDepth 100000 in
theorem lifted (os : Os) (started : os.Started) (H : Type) (enc : TypeId × Value → H) :
    ReturnsInHanded {} Try.checked os 6 .any (Rows.meterBeginsSpec.pre6 enc Try.prog Try.f6 Rows.meterBeginsRow.domain false) (Rows.meterBeginsSpec.post enc Try.prog Try.f6 false true false false) := by
  refine returnsInHanded_of_change_sized (C := Try.checked) own started (by kernel_rfl) Try.func6
    (ChangeSpec.witness6 (enc := enc) (C := Try.checked) false ⟨#[], #[.int .i64 0], []⟩ 8 (by kernel_rfl) (by kernel_rfl) (by kernel_rfl) (by kernel_rfl)) ?_
  intro W base args ds gs before hval hW hcnd hsz _
  have hfin := fun W' => post_true (fn := Try.f6) (s := Rows.meterBeginsSpec) (bt := 4) (W' := W') rfl laidOut (by kernel_rfl) Try.underlying4 rfl (fun ds h => by match ds, h with | [_], _ => rfl) hW
  obtain ⟨p, q, hA, hV, rfl, hfz, hnd⟩ := hW
  obtain ⟨rfl, rfl⟩ := trodVars_none hV
  rw [Try.params6] at hA hval
  obtain ⟨v0, vs0, d0, ds0, p0, q0, hargs, rfl, rfl, h0, r0⟩ := trodAll_cons hA
  obtain ⟨rfl, rfl, rfl⟩ := trodAll_nil r0
  obtain rfl : args = #[v0] := by cases args; simp_all
  obtain ⟨a0, rfl, rfl, rfl, wf0⟩ := open_int Try.underlying3 (hval 0 3 v0 rfl rfl) h0
  exact (walk a0 W ).mono fun e W' h => by
    obtain ⟨rfl, hb⟩ := h.grew
    exact ⟨_, rfl, hfin W' hb⟩

theorem over : Rows.meterBeginsRow.holds Try.pinned (OpenSpec.ofChange Rows.meterBeginsSpec) :=
  OpenClaim.holds_of_wide 6 Try.f6 rfl rfl rfl rfl rfl rfl rfl ⟨rfl, rfl, rfl, rfl, rfl⟩ rfl rfl rfl rfl rfl (by kernel_rfl) Try.func6 (by kernel_rfl)
    (of_decide_eq_true (by kernel_rfl)) (by unfold Func.isWrapper; first | (rw [if_pos (by decide +kernel)]; kernel_rfl) | (rw [if_neg (by decide +kernel)]; exact ⟨rfl, rfl⟩))
    (fun os started H enc _ => lifted os started H enc)

theorem proved : Rows.MeterBeginsSaid := over
#print axioms proved
end Go.Proofs.Ytebcdabdnmeeaaa.meterBegins
