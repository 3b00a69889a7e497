/- token.Words answers as the reference does, at every argument. No conditions. -/
import Derived.Test.YtgldppmkiieoaaaLift
import Derived.Test.YtgldppmkiieoaaaDecode
import Derived.Test.YtgldppmkiieoaaaTokNum
import Derived.Test.YtgldppmkiieoaaaEqWide
namespace Go.Proofs.Ytgldppmkiieoaaa.tokenNumbers
open Go.ChangeShapes Go.WideShapes Go.ChangeAt Go.RowKit
set_option maxRecDepth 20000
set_option maxHeartbeats 2000000 in
theorem walkAt (c i m t : Int) (w0' w1' w2' : Nat) (er : Int) (w : World) (P : Hid (∀ W, Calls Try.prog 32 #[.agg #[I c, I i, I m, I t]] W (GrewW2 w0' w1' w2' er W)))
    (R : Hid (∀ W, Calls Try.prog 33 #[.agg #[I c, I i, I m, I t]] W (GrewW2 w0' w1' w2' er W))) : Calls Try.prog 12 #[.agg #[I c, I i, I m, I t]] w (Grew (.bool true) w) := by
  go_enter Try.func12, Try.ntmps12
  go_wp2_with fail
  refine (P.out _).mono ?_
  rintro e w1 ⟨rfl, k1⟩
  have dO := (Own.new (w := w) rfl [I c, I i, I m, I t] 45).below k1
  have d0 := dO.cell 0 (by simp)
  have df0 := dO.frozen 0
  have d1 := dO.cell 1 (by simp)
  have df1 := dO.frozen 1
  have d2 := dO.cell 2 (by simp)
  have df2 := dO.frozen 2
  have d3 := dO.cell 3 (by simp)
  have df3 := dO.frozen 3
  simp only [Nat.zero_add, List.getD_cons_zero, List.getD_cons_succ] at d0 d1 d2 d3
  clear dO
  have k := below_box k1
  have n0 : w.heap.size < w1.heap.size := by have := k1.size; simp at this; omega
  have m0 : ¬ w.heap.size = w1.heap.size := by omega
  clear k1
  go_wp2_with fail
  refine (R.out _).mono ?_
  rintro e w2 ⟨rfl, k2⟩
  have pO := (Own.new (w := w1) rfl [U32 w0', U32 w1', U32 w2'] 24).below k2
  have p0 := pO.cell 0 (by simp)
  have pf0 := pO.frozen 0
  have p1 := pO.cell 1 (by simp)
  have pf1 := pO.frozen 1
  have p2 := pO.cell 2 (by simp)
  have pf2 := pO.frozen 2
  simp only [Nat.zero_add, List.getD_cons_zero, List.getD_cons_succ] at p0 p1 p2
  clear pO
  have kk := k.trans ((below_box k2).mono k.size)
  have n1 : w1.heap.size < w2.heap.size := by have := k2.size; simp at this; omega
  have m1 : ¬ w1.heap.size = w2.heap.size := by omega
  clear k2 k
  have EQ := fun W => equalWide_same w0' w1' w2' W
  go_wp2
  go_ret
  exact Grew.intro (by simp) (kk.alloc kk.size _)
theorem walk (x : AToken) (w : World) (_hx : x.wf) : Calls Try.prog 12 #[.agg x.cells.toArray] w (Grew (.bool true) w) := by
  by_cases h : tokFault x = 0
  · obtain ⟨c, i, m, t⟩ := x
    obtain ⟨⟨c0, c1⟩, ⟨i0, i1⟩, ⟨t0, t1⟩, m0, m1⟩ := tokFault_zero h
    simp only at c0 c1 i0 i1 t0 t1 m0 m1
    obtain ⟨c, rfl⟩ := Int.eq_ofNat_of_zero_le c0
    obtain ⟨i, rfl⟩ := Int.eq_ofNat_of_zero_le (show 0 ≤ i by omega)
    obtain ⟨m, rfl⟩ := Int.eq_ofNat_of_zero_le m0
    obtain ⟨t, rfl⟩ := Int.eq_ofNat_of_zero_le t0
    exact walkAt c i m t _ _ _ 0 w (fun W => Words_good c i m t W h) (fun W => TokenWords_good c i m t W h)
  · exact walkAt x.class_ x.id x.amount x.tag 0 0 0 _ w (fun W => Words_bad x W h) (fun W => TokenWords_bad x W h)

set_option maxRecDepth 100000 in
theorem lifted (os : Os) (started : os.Started) (H : Type) (enc : TypeId × Value → H) :
    ReturnsInHanded {} Try.checked os 12 .any (Rows.tokenNumbersSpec.pre6 enc Try.prog Try.f12 Rows.tokenNumbersRow.domain false) (Rows.tokenNumbersSpec.post enc Try.prog Try.f12 false true false false) := by
  refine returnsInHanded_of_change_sized (C := Try.checked) own started (by kernel_rfl) Try.func12
    (ChangeSpec.witness6 (enc := enc) (C := Try.checked) false ⟨#[], #[.agg #[.int .i64 0, .int .i64 0, .int .i64 0, .int .i64 0]], []⟩ 8 (by kernel_rfl) (by kernel_rfl) (by kernel_rfl) (by kernel_rfl)) ?_
  intro W base args ds gs before hval hW hcnd hsz _
  have hfin := fun W' => post_true (fn := Try.f12) (s := Rows.tokenNumbersSpec) (bt := 4) (W' := W') rfl laidOut (by kernel_rfl) Try.underlying4 rfl (fun ds h => by match ds, h with | [_], _ => rfl) hW
  have hsz : (DataW.weightsEach Try.prog (Try.f12.params.toList ++ []) (ds ++ gs)).all (· ≤ reachBytes) = true := hsz
  obtain ⟨p, q, hA, hV, rfl, hfz, hnd⟩ := hW
  obtain ⟨rfl, rfl⟩ := trodVars_none hV
  rw [Try.params12] at hA hval hsz
  obtain ⟨v0, vs0, d0, ds0, p0, q0, hargs, rfl, rfl, h0, r0⟩ := trodAll_cons hA
  obtain ⟨rfl, rfl, rfl⟩ := trodAll_nil r0
  obtain rfl : args = #[v0] := by cases args; simp_all
  simp only [List.append_nil] at hsz
  have pl0 := arg_plains (ks := (shape Try.prog 9 45).getD []) (by kernel_rfl) h0 (arg_weights (j := 0) hsz rfl rfl)
  obtain ⟨cs0, rfl, pl0⟩ := arg_struct Try.underlying45 (hval 0 45 v0 rfl rfl) pl0
  obtain ⟨x0, rfl, hx0⟩ := decodeToken _ pl0
  exact (walk x0 W hx0).mono fun e W' h => by
    obtain ⟨rfl, hb⟩ := h.grew
    exact ⟨_, rfl, hfin W' hb⟩

theorem over : Rows.tokenNumbersRow.holds Try.pinned (OpenSpec.ofChange Rows.tokenNumbersSpec) :=
  OpenClaim.holds_of_wide 12 Try.f12 rfl rfl rfl rfl rfl rfl rfl ⟨rfl, rfl, rfl, rfl, rfl⟩ rfl rfl rfl rfl rfl (by kernel_rfl) Try.func12 (by kernel_rfl)
    (of_decide_eq_true (by kernel_rfl)) (by unfold Func.isWrapper; first | (rw [if_pos (by decide +kernel)]; kernel_rfl) | (rw [if_neg (by decide +kernel)]; exact ⟨rfl, rfl⟩))
    (fun os started H enc _ => lifted os started H enc)

theorem proved : Rows.TokenNumbersSaid := over
#print axioms proved
end Go.Proofs.Ytgldppmkiieoaaa.tokenNumbers
