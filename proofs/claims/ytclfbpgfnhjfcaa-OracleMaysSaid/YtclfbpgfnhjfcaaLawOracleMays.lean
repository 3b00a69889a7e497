/- oracle.May answers as the reference does, at every argument, and changes none of them. No conditions. -/
import Derived.Test.YtclfbpgfnhjfcaaLift
import Derived.Test.YtclfbpgfnhjfcaaDecodeB
import Derived.Test.YtclfbpgfnhjfcaaOracle
import Derived.Test.YtclfbpgfnhjfcaaSameOracle
namespace Go.Proofs.Ytclfbpgfnhjfcaa.oracleMays
open Go.ChangeShapes Go.WideShapes Go.ChangeAt Go.RowKit
set_option maxRecDepth 20000
set_option maxHeartbeats 2000000 in
theorem walk (v : Value) (ps : List APair) (w : World) (h : Sl w v 4 ps.length (ps.flatMap APair.cells)) (hw : ∀ x ∈ ps, x.wf) (hb : ps.length * 32 ≤ 140737488351232) :
    Calls Try.prog 3 #[.agg #[v]] w (Grew (.bool true) w) := by
  have A := Lib.hid (fun W hW => oracles_any v ps W hW (by omega))
  have T := Lib.hid (fun u W hW => May_any u ps W hW hw)
  have R := Lib.hid (fun W hW => OracleMay_any v ps W hW)
  have S := Lib.hid (fun v1 v2 W h1 h2 => sameOracle_any v1 v2 ps W h1 h2)
  generalize mayO ps = b at *
  obtain ⟨a, cap, rfl, -⟩ := id h
  have kb := boxed_below w (.cells #[.slice a ps.length cap] 24)
  have ob := Own.new (w := w) rfl [.slice a ps.length cap] 24
  go_enter Try.func3, Try.ntmps3
  go_wp2_with fail
  refine (A.out _ (h.below kb)).mono ?_
  rintro e w1 ⟨v1, rfl, s1, k1⟩
  obtain ⟨a1, p1, rfl, -⟩ := id s1
  have kA := boxed_below w1 (.cells #[.slice a1 ps.length p1] 24)
  have k := (kb.trans (k1.mono kb.size)).trans (kA.mono (Nat.le_trans kb.size k1.size))
  have ob1 := (ob.below k1).below kA
  have oc1 := Own.new (w := w1) rfl [.slice a1 ps.length p1] 24
  have s1 := s1.below kA
  have l0 : w.heap.size < w1.heap.size := by have := k1.size; simp at this; omega
  have n0 : ¬ w.heap.size = w1.heap.size := by omega
  clear kb k1 kA ob
  go_wp2_with fail
  refine (T.out _ _ s1).mono ?_
  rintro e w2 ⟨rfl, k2⟩
  have ob2 := ob1.below k2
  have oc2 := oc1.below k2
  have kk := k.trans (k2.mono k.size)
  have s1 := s1.below k2
  have oO := ob2
  have o0 := oO.cell 0 (by simp)
  have of0 := oO.frozen 0
  simp only [Nat.zero_add, List.getD_cons_zero, List.getD_cons_succ] at o0
  clear oO
  clear ob1 oc1 k k2
  go_wp2_with fail
  refine (R.out _ (h.below kk)).mono ?_
  rintro e w3 ⟨rfl, k3⟩
  have k := kk.trans (k3.mono kk.size)
  have s1 := s1.below k3
  clear o0 of0
  have oO := ob2.below k3
  have o0 := oO.cell 0 (by simp)
  have of0 := oO.frozen 0
  simp only [Nat.zero_add, List.getD_cons_zero, List.getD_cons_succ] at o0
  clear oO
  have cO := oc2.below k3
  have c0 := cO.cell 0 (by simp)
  have cf0 := cO.frozen 0
  simp only [Nat.zero_add, List.getD_cons_zero, List.getD_cons_succ] at c0
  clear cO
  clear kk ob2 oc2 k3
  go_wp2_with fail
  refine (S.out _ _ _ s1 (h.below k)).mono ?_
  rintro e w4 ⟨rfl, k4⟩
  have kk := k.trans (k4.mono k.size)
  clear o0 of0 c0 cf0
  go_wp2
  go_ret
  exact Grew.intro (by simp) kk

set_option maxRecDepth 100000 in
theorem lifted (os : Os) (started : os.Started) (H : Type) (enc : TypeId × Value → H) :
    ReturnsInHanded {} Try.checked os 3 .any (Rows.oracleMaysSpec.pre6 enc Try.prog Try.f3 Rows.oracleMaysRow.domain false) (Rows.oracleMaysSpec.post enc Try.prog Try.f3 false true false false) := by
  refine returnsInHanded_of_change_sized (C := Try.checked) own started (by kernel_rfl) Try.func3
    (ChangeSpec.witness6 (enc := enc) (C := Try.checked) false ⟨#[], #[.agg #[.slice none 0 0]], []⟩ 8 (by kernel_rfl) (by kernel_rfl) (by kernel_rfl) (by kernel_rfl)) ?_
  intro W base args ds gs before hval hW hcnd hsz _
  have hfin := fun W' => post_true (fn := Try.f3) (s := Rows.oracleMaysSpec) (bt := 4) (W' := W') rfl laidOut (by kernel_rfl) Try.underlying4 rfl (fun ds h => by match ds, h with | [_], _ => rfl) hW
  have hsz : (DataW.weightsEach Try.prog (Try.f3.params.toList ++ []) (ds ++ gs)).all (· ≤ reachBytes) = true := hsz
  obtain ⟨p, q, hA, hV, rfl, hfz, hnd⟩ := hW
  obtain ⟨rfl, rfl⟩ := trodVars_none hV
  rw [Try.params3] at hA hval hsz
  obtain ⟨v0, vs0, d0, ds0, p0, q0, hargs, rfl, rfl, h0, r0⟩ := trodAll_cons hA
  obtain ⟨rfl, rfl, rfl⟩ := trodAll_nil r0
  obtain rfl : args = #[v0] := by cases args; simp_all
  simp only [List.append_nil] at hsz
  have pl0 := arg_plains (ks := (shape Try.prog 9 24).getD []) (by kernel_rfl) h0 (arg_weights (j := 0) hsz rfl rfl)
  obtain ⟨cs0, rfl, pl0⟩ := arg_struct Try.underlying24 (hval 0 24 v0 rfl rfl) pl0
  obtain ⟨u0, xs0, rfl, hS0, hw0, hb0⟩ := decodeOracle _ pl0
  exact (walk u0 xs0 W hS0 hw0 hb0).mono fun e W' h => by
    obtain ⟨rfl, hb⟩ := h.grew
    exact ⟨_, rfl, hfin W' hb⟩

theorem over : Rows.oracleMaysRow.holds Try.pinned (OpenSpec.ofChange Rows.oracleMaysSpec) :=
  OpenClaim.holds_of_wide 3 Try.f3 rfl rfl rfl rfl rfl rfl rfl ⟨rfl, rfl, rfl, rfl, rfl⟩ rfl rfl rfl rfl rfl (by kernel_rfl) Try.func3 (by kernel_rfl)
    (of_decide_eq_true (by kernel_rfl)) (by unfold Func.isWrapper; first | (rw [if_pos (by decide +kernel)]; kernel_rfl) | (rw [if_neg (by decide +kernel)]; exact ⟨rfl, rfl⟩))
    (fun os started H enc _ => lifted os started H enc)

theorem proved : Rows.OracleMaysSaid := over
#print axioms proved
end Go.Proofs.Ytclfbpgfnhjfcaa.oracleMays
