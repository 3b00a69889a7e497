/- book.Encode answers as the reference does, at every argument. No conditions. -/
import Derived.Test.YtmciccnmpoijdaaLift
import Derived.Test.YtmciccnmpoijdaaDecode
import Derived.Test.YtmciccnmpoijdaaBookEncd
import Derived.Test.YtmciccnmpoijdaaSameWords
namespace Go.Proofs.Ytmciccnmpoijdaa.bookEncodes
open Go.ChangeShapes Go.WideShapes Go.ChangeAt Go.RowKit
set_option maxRecDepth 20000
set_option maxHeartbeats 2000000 in
theorem walk (x : AEvent) (w : World) (_hx : x.wf) : Calls Try.prog 4 #[.agg x.cells.toArray] w (Grew (.bool true) w) := by
  obtain ⟨ki, me, mo, ⟨id, te, de, fe, pr, ch, un⟩, ta, ⟨ow, bp⟩⟩ := x
  have U := Lib.hid (fun W => Encode_any ki me mo id te de fe pr ch un ta ow bp W)
  have R := Lib.hid (fun W => Encoded_any ki me mo id te de fe pr ch un ta ow bp W)
  unfold EncP at U R
  generalize encL (evMay ki me mo id te de fe pr ch un ta ow bp) [ki, me, mo, id, te, de, fe, pr, ch, un, ta, ow, bp] = L at *
  generalize encE (evMay ki me mo id te de fe pr ch un ta ow bp) = E at *
  show Calls Try.prog 4 #[evV ki me mo id te de fe pr ch un ta ow bp] w _
  go_enter Try.func4, Try.ntmps4
  go_wp2_with fail
  refine (U.out _).mono ?_
  rintro e w1 ⟨v1, rfl, hS1, k1⟩
  have dO := (Own.new (w := w) rfl [I ki, I me, I mo, I id, I te, I de, I fe, I pr, I ch, I un, I ta, I ow, I bp] 43).below k1
  have d0 := dO.cell 0 (by simp)
  have df0 := dO.frozen 0
  have d1 := dO.cell 1 (by simp)
  have df1 := dO.frozen 1
  have d2 := dO.cell 2 (by simp)
  have df2 := dO.frozen 2
  have d3 := dO.cell 3 (by simp)
  have df3 := dO.frozen 3
  have d4 := dO.cell 4 (by simp)
  have df4 := dO.frozen 4
  have d5 := dO.cell 5 (by simp)
  have df5 := dO.frozen 5
  have d6 := dO.cell 6 (by simp)
  have df6 := dO.frozen 6
  have d7 := dO.cell 7 (by simp)
  have df7 := dO.frozen 7
  have d8 := dO.cell 8 (by simp)
  have df8 := dO.frozen 8
  have d9 := dO.cell 9 (by simp)
  have df9 := dO.frozen 9
  have d10 := dO.cell 10 (by simp)
  have df10 := dO.frozen 10
  have d11 := dO.cell 11 (by simp)
  have df11 := dO.frozen 11
  have d12 := dO.cell 12 (by simp)
  have df12 := dO.frozen 12
  simp only [Nat.zero_add, List.getD_cons_zero, List.getD_cons_succ] at d0 d1 d2 d3 d4 d5 d6 d7 d8 d9 d10 d11 d12
  clear dO
  have k := below_box k1
  clear k1
  go_wp2_with fail
  refine (R.out _).mono ?_
  rintro e w2 ⟨v2, rfl, hS2, k2⟩
  have hS1 := hS1.below k2
  have k := k.trans (k2.mono k.size)
  clear k2 d0 d1 d2 d3 d4 d5 d6 d7 d8 d9 d10 d11 d12 df0 df1 df2 df3 df4 df5 df6 df7 df8 df9 df10 df11 df12
  go_wp2_with fail
  refine (sameWords_any _ _ L L _ hS1 hS2).mono ?_
  rintro e w' ⟨rfl, kk⟩
  have k := k.trans (kk.mono k.size)
  clear kk
  go_wp2
  go_ret
  exact Grew.intro (by simp) k

set_option maxRecDepth 100000 in
theorem lifted (os : Os) (started : os.Started) (H : Type) (enc : TypeId × Value → H) :
    ReturnsInHanded {} Try.checked os 4 .any (Rows.bookEncodesSpec.pre6 enc Try.prog Try.f4 Rows.bookEncodesRow.domain false) (Rows.bookEncodesSpec.post enc Try.prog Try.f4 false true false false) := by
  refine returnsInHanded_of_change_sized (C := Try.checked) own started (by kernel_rfl) Try.func4
    (ChangeSpec.witness6 (enc := enc) (C := Try.checked) false ⟨#[], #[.agg #[.int .i64 0, .int .i64 0, .int .i64 0, .int .i64 0, .int .i64 0, .int .i64 0, .int .i64 0, .int .i64 0, .int .i64 0, .int .i64 0, .int .i64 0, .int .i64 0, .int .i64 0]], []⟩ 8 (by kernel_rfl) (by kernel_rfl) (by kernel_rfl) (by kernel_rfl)) ?_
  intro W base args ds gs before hval hW hcnd hsz _
  have hfin := fun W' => post_true (fn := Try.f4) (s := Rows.bookEncodesSpec) (bt := 4) (W' := W') rfl laidOut (by kernel_rfl) Try.underlying4 rfl (fun ds h => by match ds, h with | [_], _ => rfl) hW
  have hsz : (DataW.weightsEach Try.prog (Try.f4.params.toList ++ []) (ds ++ gs)).all (· ≤ reachBytes) = true := hsz
  obtain ⟨p, q, hA, hV, rfl, hfz, hnd⟩ := hW
  obtain ⟨rfl, rfl⟩ := trodVars_none hV
  rw [Try.params4] at hA hval hsz
  obtain ⟨v0, vs0, d0, ds0, p0, q0, hargs, rfl, rfl, h0, r0⟩ := trodAll_cons hA
  obtain ⟨rfl, rfl, rfl⟩ := trodAll_nil r0
  obtain rfl : args = #[v0] := by cases args; simp_all
  simp only [List.append_nil] at hsz
  have pl0 := arg_plains (ks := (shape Try.prog 9 43).getD []) (by kernel_rfl) h0 (arg_weights (j := 0) hsz rfl rfl)
  obtain ⟨cs0, rfl, pl0⟩ := arg_struct Try.underlying43 (hval 0 43 v0 rfl rfl) pl0
  obtain ⟨x0, rfl, hx0⟩ := decodeEvent _ pl0
  exact (walk x0 W hx0).mono fun e W' h => by
    obtain ⟨rfl, hb⟩ := h.grew
    exact ⟨_, rfl, hfin W' hb⟩

theorem over : Rows.bookEncodesRow.holds Try.pinned (OpenSpec.ofChange Rows.bookEncodesSpec) :=
  OpenClaim.holds_of_wide 4 Try.f4 rfl rfl rfl rfl rfl rfl rfl ⟨rfl, rfl, rfl, rfl, rfl⟩ rfl rfl rfl rfl rfl (by kernel_rfl) Try.func4 (by kernel_rfl)
    (of_decide_eq_true (by kernel_rfl)) (by unfold Func.isWrapper; first | (rw [if_pos (by decide +kernel)]; kernel_rfl) | (rw [if_neg (by decide +kernel)]; exact ⟨rfl, rfl⟩))
    (fun os started H enc _ => lifted os started H enc)

theorem proved : Rows.BookEncodesSaid := over
#print axioms proved
end Go.Proofs.Ytmciccnmpoijdaa.bookEncodes
