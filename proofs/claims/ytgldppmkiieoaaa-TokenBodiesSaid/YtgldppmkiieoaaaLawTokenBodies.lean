/- token.Body answers as the reference does, at every argument. No conditions. -/
import Derived.Test.YtgldppmkiieoaaaLift
import Derived.Test.YtgldppmkiieoaaaDecode
import Derived.Test.YtgldppmkiieoaaaTok
namespace Go.Proofs.Ytgldppmkiieoaaa.tokenBodies
open Go.ChangeShapes Go.WideShapes Go.ChangeAt Go.RowKit
set_option maxRecDepth 20000
theorem walk (x : AToken) (w : World) (_hx : x.wf) : Calls Try.prog 11 #[.agg x.cells.toArray] w (Grew (.bool true) w) := by
  have P := Lib.hid (fun W => Body_any x W)
  have R := Lib.hid (fun W => BodyOf_any x W)
  generalize bodyV x = v at *
  generalize tokFault x = r at *
  obtain ⟨c, i, m, t⟩ := x
  show Calls Try.prog 11 #[.agg #[I c, I i, I m, I t]] w _
  go_enter Try.func11, Try.ntmps11
  go_wp2_with fail
  refine (P.out _).mono ?_
  rintro e w1 ⟨rfl, k1⟩
  have dO := (Own.new (w := w) rfl [I c, I i, I m, I t] 45).below k1
  have d0 := dO.cell 0 (by simp)
  have df0 := dO.frozen 0
  have d1 := dO.cell 1 (by simp)
  have df1 := dO.frozen 1
  have d2 := dO.cell 2 (by simp)
  have df2 := dO.frozen 2
  have d3 := dO.cell 3 (by simp)
  have df3 := dO.frozen 3
  simp only [Nat.zero_add, List.getD_cons_zero, List.getD_cons_succ] at d0 d1 d2 d3
  clear dO
  have k := below_box k1
  clear k1
  go_wp2_with fail
  refine (R.out _).mono ?_
  rintro e w2 ⟨rfl, k2⟩
  have kk := k.trans (k2.mono k.size)
  clear k2 k d0 d1 d2 d3 df0 df1 df2 df3
  go_wp2
  go_ret
  exact Grew.intro (by simp) kk

set_option maxRecDepth 100000 in
theorem lifted (os : Os) (started : os.Started) (H : Type) (enc : TypeId × Value → H) :
    ReturnsInHanded {} Try.checked os 11 .any (Rows.tokenBodiesSpec.pre6 enc Try.prog Try.f11 Rows.tokenBodiesRow.domain false) (Rows.tokenBodiesSpec.post enc Try.prog Try.f11 false true false false) := by
  refine returnsInHanded_of_change_sized (C := Try.checked) own started (by kernel_rfl) Try.func11
    (ChangeSpec.witness6 (enc := enc) (C := Try.checked) false ⟨#[], #[.agg #[.int .i64 0, .int .i64 0, .int .i64 0, .int .i64 0]], []⟩ 8 (by kernel_rfl) (by kernel_rfl) (by kernel_rfl) (by kernel_rfl)) ?_
  intro W base args ds gs before hval hW hcnd hsz _
  have hfin := fun W' => post_true (fn := Try.f11) (s := Rows.tokenBodiesSpec) (bt := 4) (W' := W') rfl laidOut (by kernel_rfl) Try.underlying4 rfl (fun ds h => by match ds, h with | [_], _ => rfl) hW
  have hsz : (DataW.weightsEach Try.prog (Try.f11.params.toList ++ []) (ds ++ gs)).all (· ≤ reachBytes) = true := hsz
  obtain ⟨p, q, hA, hV, rfl, hfz, hnd⟩ := hW
  obtain ⟨rfl, rfl⟩ := trodVars_none hV
  rw [Try.params11] at hA hval hsz
  obtain ⟨v0, vs0, d0, ds0, p0, q0, hargs, rfl, rfl, h0, r0⟩ := trodAll_cons hA
  obtain ⟨rfl, rfl, rfl⟩ := trodAll_nil r0
  obtain rfl : args = #[v0] := by cases args; simp_all
  simp only [List.append_nil] at hsz
  have pl0 := arg_plains (ks := (shape Try.prog 9 45).getD []) (by kernel_rfl) h0 (arg_weights (j := 0) hsz rfl rfl)
  obtain ⟨cs0, rfl, pl0⟩ := arg_struct Try.underlying45 (hval 0 45 v0 rfl rfl) pl0
  obtain ⟨x0, rfl, hx0⟩ := decodeToken _ pl0
  exact (walk x0 W hx0).mono fun e W' h => by
    obtain ⟨rfl, hb⟩ := h.grew
    exact ⟨_, rfl, hfin W' hb⟩

theorem over : Rows.tokenBodiesRow.holds Try.pinned (OpenSpec.ofChange Rows.tokenBodiesSpec) :=
  OpenClaim.holds_of_wide 11 Try.f11 rfl rfl rfl rfl rfl rfl rfl ⟨rfl, rfl, rfl, rfl, rfl⟩ rfl rfl rfl rfl rfl (by kernel_rfl) Try.func11 (by kernel_rfl)
    (of_decide_eq_true (by kernel_rfl)) (by unfold Func.isWrapper; first | (rw [if_pos (by decide +kernel)]; kernel_rfl) | (rw [if_neg (by decide +kernel)]; exact ⟨rfl, rfl⟩))
    (fun os started H enc _ => lifted os started H enc)

theorem proved : Rows.TokenBodiesSaid := over
#print axioms proved
end Go.Proofs.Ytgldppmkiieoaaa.tokenBodies
