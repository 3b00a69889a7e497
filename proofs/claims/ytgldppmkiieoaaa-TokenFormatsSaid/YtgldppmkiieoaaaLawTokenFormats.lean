/- token.Format answers as the reference does, at every argument. No conditions. -/
import Derived.Test.YtgldppmkiieoaaaLift
import Derived.Test.YtgldppmkiieoaaaDecode
import Derived.Test.YtgldppmkiieoaaaTokFmtR
namespace Go.Proofs.Ytgldppmkiieoaaa.tokenFormats
open Go.ChangeShapes Go.WideShapes Go.ChangeAt Go.RowKit
set_option maxRecDepth 20000
set_option maxHeartbeats 2000000 in
theorem walkAt (c i m t : Int) (Q : ByteArray → Prop) (hQ : ∀ a b, Q a → Q b → a = b) (er : Int) (w : World) (P : Hid (∀ W, Calls Try.prog 34 #[.agg #[I c, I i, I m, I t]] W (fun e w' => ∃ s, Q s ∧ e = .returned (T2 (.string s) (I er)) ∧ Below W.heap.size W w')))
    (R : Hid (∀ W, Calls Try.prog 35 #[.agg #[I c, I i, I m, I t]] W (fun e w' => ∃ s, Q s ∧ e = .returned (T2 (.string s) (I er)) ∧ Below W.heap.size W w'))) : Calls Try.prog 13 #[.agg #[I c, I i, I m, I t]] w (Grew (.bool true) w) := by
  go_enter Try.func13, Try.ntmps13
  go_wp2_with fail
  refine (P.out _).mono ?_
  rintro e w1 ⟨s1, hs1, rfl, k1⟩
  have dO := (Own.new (w := w) rfl [I c, I i, I m, I t] 45).below k1
  have d0 := dO.cell 0 (by simp)
  have df0 := dO.frozen 0
  have d1 := dO.cell 1 (by simp)
  have df1 := dO.frozen 1
  have d2 := dO.cell 2 (by simp)
  have df2 := dO.frozen 2
  have d3 := dO.cell 3 (by simp)
  have df3 := dO.frozen 3
  simp only [Nat.zero_add, List.getD_cons_zero, List.getD_cons_succ] at d0 d1 d2 d3
  clear dO
  have k := below_box k1
  clear k1
  go_wp2_with fail
  refine (R.out _).mono ?_
  rintro e w2 ⟨s2, hs2, rfl, k2⟩
  obtain rfl := hQ _ _ hs1 hs2
  have kk := k.trans (k2.mono k.size)
  clear k2 k d0 d1 d2 d3 df0 df1 df2 df3 hs1 hs2
  go_wp2
  go_ret
  exact Grew.intro (by simp) kk
theorem walk (x : AToken) (w : World) (_hx : x.wf) : Calls Try.prog 13 #[.agg x.cells.toArray] w (Grew (.bool true) w) := by
  by_cases h : tokFault x = 0
  · obtain ⟨c, i, m, t⟩ := x
    obtain ⟨⟨c0, c1⟩, ⟨i0, i1⟩, ⟨t0, t1⟩, m0, m1⟩ := tokFault_zero h
    simp only at c0 c1 i0 i1 t0 t1 m0 m1
    obtain ⟨c, rfl⟩ := Int.eq_ofNat_of_zero_le c0
    obtain ⟨i, rfl⟩ := Int.eq_ofNat_of_zero_le (show 0 ≤ i by omega)
    obtain ⟨m, rfl⟩ := Int.eq_ofNat_of_zero_le m0
    obtain ⟨t, rfl⟩ := Int.eq_ofNat_of_zero_le t0
    refine walkAt c i m t (fun s => ∃ L, IsLen (tokN c i m t) L ∧ s = zs (20 - L) (showB (tokN c i m t) L)) ?_ 0 w (fun W => ?_) (fun W => ?_)
    · rintro a b ⟨L, hL, rfl⟩ ⟨L', hL', rfl⟩
      rw [hL.unique hL']
    · exact (Format_good c i m t W h).mono fun e w' ⟨L, hL, he, hk⟩ => ⟨_, ⟨L, hL, rfl⟩, he, hk⟩
    · exact (Formatted_good c i m t W h).mono fun e w' ⟨L, hL, he, hk⟩ => ⟨_, ⟨L, hL, rfl⟩, he, hk⟩
  · refine walkAt x.class_ x.id x.amount x.tag (fun s => s = ⟨#[]⟩) (fun a b ha hb => ha.trans hb.symm) (tokFault x) w (fun W => ?_) (fun W => ?_)
    · exact (Format_bad x W h).mono fun e w' ⟨he, hk⟩ => ⟨_, rfl, he, hk⟩
    · exact (Formatted_bad x W h).mono fun e w' ⟨he, hk⟩ => ⟨_, rfl, he, hk⟩

set_option maxRecDepth 100000 in
theorem lifted (os : Os) (started : os.Started) (H : Type) (enc : TypeId × Value → H) :
    ReturnsInHanded {} Try.checked os 13 .any (Rows.tokenFormatsSpec.pre6 enc Try.prog Try.f13 Rows.tokenFormatsRow.domain false) (Rows.tokenFormatsSpec.post enc Try.prog Try.f13 false true false false) := by
  refine returnsInHanded_of_change_sized (C := Try.checked) own started (by kernel_rfl) Try.func13
    (ChangeSpec.witness6 (enc := enc) (C := Try.checked) false ⟨#[], #[.agg #[.int .i64 0, .int .i64 0, .int .i64 0, .int .i64 0]], []⟩ 8 (by kernel_rfl) (by kernel_rfl) (by kernel_rfl) (by kernel_rfl)) ?_
  intro W base args ds gs before hval hW hcnd hsz _
  have hfin := fun W' => post_true (fn := Try.f13) (s := Rows.tokenFormatsSpec) (bt := 4) (W' := W') rfl laidOut (by kernel_rfl) Try.underlying4 rfl (fun ds h => by match ds, h with | [_], _ => rfl) hW
  have hsz : (DataW.weightsEach Try.prog (Try.f13.params.toList ++ []) (ds ++ gs)).all (· ≤ reachBytes) = true := hsz
  obtain ⟨p, q, hA, hV, rfl, hfz, hnd⟩ := hW
  obtain ⟨rfl, rfl⟩ := trodVars_none hV
  rw [Try.params13] at hA hval hsz
  obtain ⟨v0, vs0, d0, ds0, p0, q0, hargs, rfl, rfl, h0, r0⟩ := trodAll_cons hA
  obtain ⟨rfl, rfl, rfl⟩ := trodAll_nil r0
  obtain rfl : args = #[v0] := by cases args; simp_all
  simp only [List.append_nil] at hsz
  have pl0 := arg_plains (ks := (shape Try.prog 9 45).getD []) (by kernel_rfl) h0 (arg_weights (j := 0) hsz rfl rfl)
  obtain ⟨cs0, rfl, pl0⟩ := arg_struct Try.underlying45 (hval 0 45 v0 rfl rfl) pl0
  obtain ⟨x0, rfl, hx0⟩ := decodeToken _ pl0
  exact (walk x0 W hx0).mono fun e W' h => by
    obtain ⟨rfl, hb⟩ := h.grew
    exact ⟨_, rfl, hfin W' hb⟩

theorem over : Rows.tokenFormatsRow.holds Try.pinned (OpenSpec.ofChange Rows.tokenFormatsSpec) :=
  OpenClaim.holds_of_wide 13 Try.f13 rfl rfl rfl rfl rfl rfl rfl ⟨rfl, rfl, rfl, rfl, rfl⟩ rfl rfl rfl rfl rfl (by kernel_rfl) Try.func13 (by kernel_rfl)
    (of_decide_eq_true (by kernel_rfl)) (by unfold Func.isWrapper; first | (rw [if_pos (by decide +kernel)]; kernel_rfl) | (rw [if_neg (by decide +kernel)]; exact ⟨rfl, rfl⟩))
    (fun os started H enc _ => lifted os started H enc)

theorem proved : Rows.TokenFormatsSaid := over
#print axioms proved
end Go.Proofs.Ytgldppmkiieoaaa.tokenFormats
