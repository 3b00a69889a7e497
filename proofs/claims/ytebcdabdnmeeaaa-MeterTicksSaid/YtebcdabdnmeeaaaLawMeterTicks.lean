/- meter.Tick answers as the reference does, at every argument. No conditions. -/
import Derived.Test.YtebcdabdnmeeaaaLift
import Derived.Test.YtebcdabdnmeeaaaDecode
import Derived.Test.YtebcdabdnmeeaaaMeterTick
namespace Go.Proofs.Ytebcdabdnmeeaaa.meterTicks
open Go.ChangeShapes Go.WideShapes Go.ChangeAt Go.RowKit
set_option maxRecDepth 20000
set_option maxHeartbeats 2000000 in
theorem walk (x : AMeter) (load : Int) (w : World) (hx : x.wf) : Calls Try.prog 7 #[.agg x.cells.toArray, I load] w (Grew (.bool true) w) := by
  obtain ⟨me, rev, cr, ⟨h, bi⟩, bad, lk⟩ := x
  have hb0 : W64 bi := by simp only [AMeter.wf, AWindow.wf] at hx; simp_all
  obtain ⟨b0, b1⟩ := hb0
  obtain ⟨b, rfl⟩ := Int.eq_ofNat_of_zero_le b0
  show Calls Try.prog 7 #[(MM.mk me rev cr h b bad lk).v, I load] w (Grew (.bool true) w)
  have hb : b < 18446744073709551616 := by omega
  have T := Lib.hid (fun W => Tick_any ⟨me, rev, cr, h, b, bad, lk⟩ load W hb)
  have R := Lib.hid (fun W => MeterTicked_any ⟨me, rev, cr, h, b, bad, lk⟩ load W hb)
  clear b0 b1 hx
  generalize tickM ⟨me, rev, cr, h, b, bad, lk⟩ load = t at *
  generalize tickN ⟨me, rev, cr, h, b, bad, lk⟩ load = N at *
  generalize tickE ⟨me, rev, cr, h, b, bad, lk⟩ load = E at *
  obtain ⟨t1, t2, t3, t4, t5, t6, t7⟩ := t
  go_enter Try.func7, Try.ntmps7
  go_wp2_with fail
  refine (T.out _).mono ?_
  rintro e w1 ⟨rfl, k1⟩
  have cO := (Own.new rfl [I me, I rev, I cr, I h, .int .u64 b, I bad, I lk] 36).below k1
  have c0 := cO.cell 0 (by simp)
  have cf0 := cO.frozen 0
  have c1 := cO.cell 1 (by simp)
  have cf1 := cO.frozen 1
  have c2 := cO.cell 2 (by simp)
  have cf2 := cO.frozen 2
  have c3 := cO.cell 3 (by simp)
  have cf3 := cO.frozen 3
  have c4 := cO.cell 4 (by simp)
  have cf4 := cO.frozen 4
  have c5 := cO.cell 5 (by simp)
  have cf5 := cO.frozen 5
  have c6 := cO.cell 6 (by simp)
  have cf6 := cO.frozen 6
  simp only [Nat.zero_add, List.getD_cons_zero, List.getD_cons_succ] at c0 c1 c2 c3 c4 c5 c6
  clear cO
  have k := below_box k1
  have hlt0 : w.heap.size < w1.heap.size := by have := k1.size; simp at this; omega
  have hne0 : ¬ w.heap.size = w1.heap.size := by omega
  clear k1
  go_wp2_with fail
  refine (R.out _).mono ?_
  rintro e w2 ⟨rfl, k2⟩
  have dO := (Own.new rfl [I t1, I t2, I t3, I t4, .int .u64 t5, I t6, I t7] 36).below k2
  have d0 := dO.cell 0 (by simp)
  have df0 := dO.frozen 0
  have d1 := dO.cell 1 (by simp)
  have df1 := dO.frozen 1
  have d2 := dO.cell 2 (by simp)
  have df2 := dO.frozen 2
  have d3 := dO.cell 3 (by simp)
  have df3 := dO.frozen 3
  have d4 := dO.cell 4 (by simp)
  have df4 := dO.frozen 4
  have d5 := dO.cell 5 (by simp)
  have df5 := dO.frozen 5
  have d6 := dO.cell 6 (by simp)
  have df6 := dO.frozen 6
  simp only [Nat.zero_add, List.getD_cons_zero, List.getD_cons_succ] at d0 d1 d2 d3 d4 d5 d6
  clear dO
  have k' := k.trans ((below_box k2).mono k.size)
  have hlt1 : w1.heap.size < w2.heap.size := by have := k2.size; simp at this; omega
  have hne1 : ¬ w1.heap.size = w2.heap.size := by omega
  clear k2 c0 c1 c2 c3 c4 c5 c6 k
  go_wp2
  go_ret
  exact Grew.intro (by simp) (k'.alloc k'.size _)

set_option maxRecDepth 100000 in
theorem lifted (os : Os) (started : os.Started) (H : Type) (enc : TypeId × Value → H) :
    ReturnsInHanded {} Try.checked os 7 .any (Rows.meterTicksSpec.pre6 enc Try.prog Try.f7 Rows.meterTicksRow.domain false) (Rows.meterTicksSpec.post enc Try.prog Try.f7 false true false false) := by
  refine returnsInHanded_of_change_sized (C := Try.checked) own started (by kernel_rfl) Try.func7
    (ChangeSpec.witness6 (enc := enc) (C := Try.checked) false ⟨#[], #[.agg #[.int .i64 0, .int .i64 0, .int .i64 0, .int .i64 0, .int .u64 0, .int .i64 0, .int .i64 0], .int .i64 0], []⟩ 8 (by kernel_rfl) (by kernel_rfl) (by kernel_rfl) (by kernel_rfl)) ?_
  intro W base args ds gs before hval hW hcnd hsz _
  have hfin := fun W' => post_true (fn := Try.f7) (s := Rows.meterTicksSpec) (bt := 4) (W' := W') rfl laidOut (by kernel_rfl) Try.underlying4 rfl (fun ds h => by match ds, h with | [_, _], _ => rfl) hW
  have hsz : (DataW.weightsEach Try.prog (Try.f7.params.toList ++ []) (ds ++ gs)).all (· ≤ reachBytes) = true := hsz
  obtain ⟨p, q, hA, hV, rfl, hfz, hnd⟩ := hW
  obtain ⟨rfl, rfl⟩ := trodVars_none hV
  rw [Try.params7] at hA hval hsz
  obtain ⟨v0, vs0, d0, ds0, p0, q0, hargs, rfl, rfl, h0, r0⟩ := trodAll_cons hA
  obtain ⟨v1, vs1, d1, ds1, p1, q1, rfl, rfl, rfl, h1, r1⟩ := trodAll_cons r0
  obtain ⟨rfl, rfl, rfl⟩ := trodAll_nil r1
  obtain rfl : args = #[v0, v1] := by cases args; simp_all
  simp only [List.append_nil] at hsz
  have pl0 := arg_plains (ks := (shape Try.prog 9 36).getD []) (by kernel_rfl) h0 (arg_weights (j := 0) hsz rfl rfl)
  obtain ⟨cs0, rfl, pl0⟩ := arg_struct Try.underlying36 (hval 0 36 v0 rfl rfl) pl0
  obtain ⟨x0, rfl, hx0⟩ := decodeMeter _ pl0
  obtain ⟨a1, rfl, rfl, rfl, wf1⟩ := open_int Try.underlying3 (hval 1 3 v1 rfl rfl) h1
  exact (walk x0 a1 W hx0).mono fun e W' h => by
    obtain ⟨rfl, hb⟩ := h.grew
    exact ⟨_, rfl, hfin W' hb⟩

theorem over : Rows.meterTicksRow.holds Try.pinned (OpenSpec.ofChange Rows.meterTicksSpec) :=
  OpenClaim.holds_of_wide 7 Try.f7 rfl rfl rfl rfl rfl rfl rfl ⟨rfl, rfl, rfl, rfl, rfl⟩ rfl rfl rfl rfl rfl (by kernel_rfl) Try.func7 (by kernel_rfl)
    (of_decide_eq_true (by kernel_rfl)) (by unfold Func.isWrapper; first | (rw [if_pos (by decide +kernel)]; kernel_rfl) | (rw [if_neg (by decide +kernel)]; exact ⟨rfl, rfl⟩))
    (fun os started H enc _ => lifted os started H enc)

theorem proved : Rows.MeterTicksSaid := over
#print axioms proved
end Go.Proofs.Ytebcdabdnmeeaaa.meterTicks
