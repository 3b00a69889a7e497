/- oracle.Issue answers as the reference does, at every argument, and changes none of them. No conditions. -/
import Derived.Test.YtclfbpgfnhjfcaaLift
import Derived.Test.YtclfbpgfnhjfcaaDecodeB
import Derived.Test.YtclfbpgfnhjfcaaIssueA
import Derived.Test.YtclfbpgfnhjfcaaIssueB
namespace Go.Proofs.Ytclfbpgfnhjfcaa.oracleIssues
open Go.ChangeShapes Go.WideShapes Go.ChangeAt Go.RowKit
set_option maxRecDepth 20000
set_option maxHeartbeats 2000000 in
theorem walk (v : Value) (ps : List APair) (x y z d : Int) (w : World) (h : Sl w v 4 ps.length (ps.flatMap APair.cells)) (hw : ∀ x ∈ ps, x.wf) (hb : ps.length * 32 ≤ 140737488351232) (hx : I64 x) (hy : I64 y) (hz : I64 z) :
    Calls Try.prog 5 #[.agg #[v], I x, I y, I z, I d] w (Grew (.bool true) w) := by
  have A := Lib.hid (fun W hW => oracles_any v ps W hW (by omega))
  have T := Lib.hid (fun u W hW => Issue_any u ps x y z d W hW hw hx hy hz)
  have R := Lib.hid (fun W hW => Issued_any v ps x y z d W hW)
  have S := Lib.hid (fun L v1 v2 W h1 h2 => sameOracle_any v1 v2 L W h1 h2)
  generalize issE ps x y z d = E at *
  generalize issN ps x y z d = N at *
  generalize issL ps x y z d = L at *
  clear hx hy hz hw
  obtain ⟨a, cap, rfl, -⟩ := id h
  have kb := boxed_below w (.cells #[.slice a ps.length cap] 24)
  have ob := Own.new (w := w) rfl [.slice a ps.length cap] 24
  go_enter Try.func5, Try.ntmps5
  go_wp2_with fail
  refine (A.out _ (h.below kb)).mono ?_
  rintro e w1 ⟨v1, rfl, s1, k1⟩
  obtain ⟨a1, p1, rfl, -⟩ := id s1
  have kA := boxed_below w1 (.cells #[.slice a1 ps.length p1] 24)
  have k := (kb.trans (k1.mono kb.size)).trans (kA.mono (Nat.le_trans kb.size k1.size))
  have ob1 := (ob.below k1).below kA
  have oc1 := Own.new (w := w1) rfl [.slice a1 ps.length p1] 24
  have s1 := s1.below kA
  clear kb k1 kA ob
  go_wp2_with fail
  refine (T.out _ _ s1).mono ?_
  rintro e w2 ⟨v2, rfl, s2, k2⟩
  obtain ⟨a2, p2, rfl, -⟩ := id s2
  have kA := boxed_below w2 (.cells #[.slice a2 L.length p2] 24)
  have kk := (k.trans (k2.mono k.size)).trans (kA.mono (Nat.le_trans k.size k2.size))
  have ob2 := (ob1.below k2).below kA
  have oc2 := (oc1.below k2).below kA
  have od2 := Own.new (w := w2) rfl [.slice a2 L.length p2] 24
  have s1 := (s1.below k2).below kA
  have s2 := s2.below kA
  have oO := ob2
  have o0 := oO.cell 0 (by simp)
  have of0 := oO.frozen 0
  simp only [Nat.zero_add, List.getD_cons_zero, List.getD_cons_succ] at o0
  clear oO
  clear ob1 oc1 k k2 kA
  go_wp2_with fail
  refine (R.out _ (h.below kk)).mono ?_
  rintro e w3 ⟨v3, rfl, s3, k3⟩
  obtain ⟨a3, p3, rfl, -⟩ := id s3
  have kA := boxed_below w3 (.cells #[.slice a3 L.length p3] 24)
  have k := (kk.trans (k3.mono kk.size)).trans (kA.mono (Nat.le_trans kk.size k3.size))
  have ob3 := (ob2.below k3).below kA
  have oc3 := (oc2.below k3).below kA
  have od3 := (od2.below k3).below kA
  have oe3 := Own.new (w := w3) rfl [.slice a3 L.length p3] 24
  have s1 := (s1.below k3).below kA
  have s2 := (s2.below k3).below kA
  have s3 := s3.below kA
  clear o0 of0 ob2 oc2 od2 kk k3 kA
  have dO := od3
  have d0 := dO.cell 0 (by simp)
  have df0 := dO.frozen 0
  simp only [Nat.zero_add, List.getD_cons_zero, List.getD_cons_succ] at d0
  clear dO
  go_wp2_with fail
  refine (S.out L _ _ _ s2 s3).mono ?_
  rintro e w4 ⟨rfl, k4⟩
  have kk := k.trans (k4.mono k.size)
  have s1 := s1.below k4
  clear d0 df0
  have oO := ob3.below k4
  have o0 := oO.cell 0 (by simp)
  have of0 := oO.frozen 0
  simp only [Nat.zero_add, List.getD_cons_zero, List.getD_cons_succ] at o0
  clear oO
  have cO := oc3.below k4
  have c0 := cO.cell 0 (by simp)
  have cf0 := cO.frozen 0
  simp only [Nat.zero_add, List.getD_cons_zero, List.getD_cons_succ] at c0
  clear cO
  clear ob3 oc3 od3 oe3 k k4 s2 s3
  go_wp2_with fail
  refine (S.out ps _ _ _ s1 (h.below kk)).mono ?_
  rintro e w5 ⟨rfl, k5⟩
  have k := kk.trans (k5.mono kk.size)
  clear o0 of0 c0 cf0
  go_wp2
  go_ret
  exact Grew.intro (by simp) k

set_option maxRecDepth 100000 in
theorem lifted (os : Os) (started : os.Started) (H : Type) (enc : TypeId × Value → H) :
    ReturnsInHanded {} Try.checked os 5 .any (Rows.oracleIssuesSpec.pre6 enc Try.prog Try.f5 Rows.oracleIssuesRow.domain false) (Rows.oracleIssuesSpec.post enc Try.prog Try.f5 false true false false) := by
  refine returnsInHanded_of_change_sized (C := Try.checked) own started (by kernel_rfl) Try.func5
    (ChangeSpec.witness6 (enc := enc) (C := Try.checked) false ⟨#[], #[.agg #[.slice none 0 0], .int .i64 0, .int .i64 0, .int .i64 0, .int .i64 0], []⟩ 8 (by kernel_rfl) (by kernel_rfl) (by kernel_rfl) (by kernel_rfl)) ?_
  intro W base args ds gs before hval hW hcnd hsz _
  have hfin := fun W' => post_true (fn := Try.f5) (s := Rows.oracleIssuesSpec) (bt := 4) (W' := W') rfl laidOut (by kernel_rfl) Try.underlying4 rfl (fun ds h => by match ds, h with | [_, _, _, _, _], _ => rfl) hW
  have hsz : (DataW.weightsEach Try.prog (Try.f5.params.toList ++ []) (ds ++ gs)).all (· ≤ reachBytes) = true := hsz
  obtain ⟨p, q, hA, hV, rfl, hfz, hnd⟩ := hW
  obtain ⟨rfl, rfl⟩ := trodVars_none hV
  rw [Try.params5] at hA hval hsz
  obtain ⟨v0, vs0, d0, ds0, p0, q0, hargs, rfl, rfl, h0, r0⟩ := trodAll_cons hA
  obtain ⟨v1, vs1, d1, ds1, p1, q1, rfl, rfl, rfl, h1, r1⟩ := trodAll_cons r0
  obtain ⟨v2, vs2, d2, ds2, p2, q2, rfl, rfl, rfl, h2, r2⟩ := trodAll_cons r1
  obtain ⟨v3, vs3, d3, ds3, p3, q3, rfl, rfl, rfl, h3, r3⟩ := trodAll_cons r2
  obtain ⟨v4, vs4, d4, ds4, p4, q4, rfl, rfl, rfl, h4, r4⟩ := trodAll_cons r3
  obtain ⟨rfl, rfl, rfl⟩ := trodAll_nil r4
  obtain rfl : args = #[v0, v1, v2, v3, v4] := by cases args; simp_all
  simp only [List.append_nil] at hsz
  have pl0 := arg_plains (ks := (shape Try.prog 9 24).getD []) (by kernel_rfl) h0 (arg_weights (j := 0) hsz rfl rfl)
  obtain ⟨cs0, rfl, pl0⟩ := arg_struct Try.underlying24 (hval 0 24 v0 rfl rfl) pl0
  obtain ⟨u0, xs0, rfl, hS0, hw0, hb0⟩ := decodeOracle _ pl0
  obtain ⟨a1, rfl, rfl, rfl, wf1⟩ := open_int Try.underlying3 (hval 1 3 v1 rfl rfl) h1
  obtain ⟨a2, rfl, rfl, rfl, wf2⟩ := open_int Try.underlying3 (hval 2 3 v2 rfl rfl) h2
  obtain ⟨a3, rfl, rfl, rfl, wf3⟩ := open_int Try.underlying3 (hval 3 3 v3 rfl rfl) h3
  obtain ⟨a4, rfl, rfl, rfl, wf4⟩ := open_int Try.underlying3 (hval 4 3 v4 rfl rfl) h4
  exact (walk u0 xs0 a1 a2 a3 a4 W hS0 hw0 hb0 (wf_I64 wf1) (wf_I64 wf2) (wf_I64 wf3)).mono fun e W' h => by
    obtain ⟨rfl, hb⟩ := h.grew
    exact ⟨_, rfl, hfin W' hb⟩

theorem over : Rows.oracleIssuesRow.holds Try.pinned (OpenSpec.ofChange Rows.oracleIssuesSpec) :=
  OpenClaim.holds_of_wide 5 Try.f5 rfl rfl rfl rfl rfl rfl rfl ⟨rfl, rfl, rfl, rfl, rfl⟩ rfl rfl rfl rfl rfl (by kernel_rfl) Try.func5 (by kernel_rfl)
    (of_decide_eq_true (by kernel_rfl)) (by unfold Func.isWrapper; first | (rw [if_pos (by decide +kernel)]; kernel_rfl) | (rw [if_neg (by decide +kernel)]; exact ⟨rfl, rfl⟩))
    (fun os started H enc _ => lifted os started H enc)

theorem proved : Rows.OracleIssuesSaid := over
#print axioms proved
end Go.Proofs.Ytclfbpgfnhjfcaa.oracleIssues
