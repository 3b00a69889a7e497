/- meter.Key answers as the reference does, at every argument, and changes none of them. No conditions. -/
import Derived.Test.YtmciccnmpoijdaaLift
import Derived.Test.YtmciccnmpoijdaaDecodeB
import Derived.Test.YtmciccnmpoijdaaKeyKey
import Derived.Test.YtmciccnmpoijdaaSameOracle
import Derived.Test.YtmciccnmpoijdaaEqMM
namespace Go.Proofs.Ytmciccnmpoijdaa.meterKeys
open Go.ChangeShapes Go.WideShapes Go.ChangeAt Go.RowKit
set_option maxRecDepth 20000
theorem body_I64 (x : AToken) : I64 (bodyV x) := by
  unfold bodyV
  split
  · rename_i h
    obtain ⟨⟨h1, h2⟩, ⟨h3, h4⟩, -, ⟨h5, h6⟩⟩ := tokFault_zero h
    unfold bodyN I64
    omega
  · unfold I64; omega
set_option maxHeartbeats 4000000 in
theorem walk (x : AMeter) (v : Value) (ps : List APair) (t : AToken) (w : World) (hx : x.wf) (h : Sl w v 4 ps.length (ps.flatMap APair.cells)) (hw : ∀ x ∈ ps, x.wf) (hb : ps.length * 32 ≤ 140737488351232) (_ht : t.wf) :
    Calls Try.prog 3 #[.agg x.cells.toArray, .agg #[v], .agg t.cells.toArray] w (Grew (.bool true) w) := by
  obtain ⟨me, rev, cr, ⟨hh, bi⟩, bad, lk⟩ := x
  have hb0 : W64 bi := by simp only [AMeter.wf, AWindow.wf] at hx; simp_all
  obtain ⟨b0, b1⟩ := hb0
  obtain ⟨bb, rfl⟩ := Int.eq_ofNat_of_zero_le b0
  have hbb : bb < 18446744073709551616 := by omega
  have hI := body_I64 t
  obtain ⟨c, ti, n, tag⟩ := t
  show Calls Try.prog 3 #[(MM.mk me rev cr hh bb bad lk).v, .agg #[v], .agg #[I c, I ti, I n, I tag]] w (Grew (.bool true) w)
  have A := Lib.hid (fun W hW => oracles_any v ps W hW (by omega))
  have T := Lib.hid (fun u W hW => Key_any me rev cr hh bb bad lk u ps c ti n tag W hW hw hbb hI)
  have R := Lib.hid (fun W hW => MeterKeyed_any me rev cr hh bb bad lk v ps c ti n tag W hW hbb)
  have S := Lib.hid (fun v1 v2 W h1 h2 => sameOracle_any v1 v2 ps W h1 h2)
  generalize keyM ⟨me, rev, cr, hh, bb, bad, lk⟩ ps ⟨c, ti, n, tag⟩ = M at *
  generalize keyA ⟨me, rev, cr, hh, bb, bad, lk⟩ ps ⟨c, ti, n, tag⟩ = X at *
  generalize keyE ⟨me, rev, cr, hh, bb, bad, lk⟩ ps ⟨c, ti, n, tag⟩ = E at *
  have Q := fun w => eqlMM_run M M w
  rw [eqM_true.2 rfl] at Q
  obtain ⟨y1, y2, y3, y4, y5, y6, y7⟩ := M
  obtain ⟨a, cap, rfl, -⟩ := id h
  have kb := boxed_below w (.cells #[I me, I rev, I cr, I hh, .int .u64 bb, I bad, I lk] 26)
  have kb := kb.alloc kb.size (.cells #[.slice a ps.length cap] 29)
  have kb := kb.alloc kb.size (.cells #[I c, I ti, I n, I tag] 31)
  have om := ((Own.new (w := w) rfl [I me, I rev, I cr, I hh, .int .u64 bb, I bad, I lk] 26).alloc (.cells #[.slice a ps.length cap] 29)).alloc (.cells #[I c, I ti, I n, I tag] 31)
  have oo := (Own.new (w := w.alloc (.cells #[I me, I rev, I cr, I hh, .int .u64 bb, I bad, I lk] 26)) (g := w.heap.size + 1) (by simp) [.slice a ps.length cap] 29).alloc (.cells #[I c, I ti, I n, I tag] 31)
  have ot := Own.new (w := (w.alloc (.cells #[I me, I rev, I cr, I hh, .int .u64 bb, I bad, I lk] 26)).alloc (.cells #[.slice a ps.length cap] 29)) (g := w.heap.size + 2) (by simp) [I c, I ti, I n, I tag] 31
  clear hx b0 b1 hw hI
  go_enter Try.func3, Try.ntmps3
  go_wp2_with fail
  refine (A.out _ (h.below kb)).mono ?_
  rintro e w1 ⟨v1, rfl, s1, k1⟩
  obtain ⟨a1, p1, rfl, -⟩ := id s1
  have kv := boxed_below w1 (.cells #[.slice a1 ps.length p1] 29)
  have oc := Own.new (w := w1) rfl [.slice a1 ps.length p1] 29
  have om := (om.below k1).below kv
  have oo := (oo.below k1).below kv
  have ot := (ot.below k1).below kv
  have s2 := s1.below kv
  have kk := (kb.trans (k1.mono kb.size))
  have kk := kk.trans (kv.mono kk.size)
  have mO := om
  have m0 := mO.cell 0 (by simp)
  have mf0 := mO.frozen 0
  have m1 := mO.cell 1 (by simp)
  have mf1 := mO.frozen 1
  have m2 := mO.cell 2 (by simp)
  have mf2 := mO.frozen 2
  have m3 := mO.cell 3 (by simp)
  have mf3 := mO.frozen 3
  have m4 := mO.cell 4 (by simp)
  have mf4 := mO.frozen 4
  have m5 := mO.cell 5 (by simp)
  have mf5 := mO.frozen 5
  have m6 := mO.cell 6 (by simp)
  have mf6 := mO.frozen 6
  simp only [Nat.zero_add, List.getD_cons_zero, List.getD_cons_succ] at m0 m1 m2 m3 m4 m5 m6
  clear mO
  have oO := oo
  have o0 := oO.cell 0 (by simp)
  have of0 := oO.frozen 0
  simp only [Nat.zero_add, List.getD_cons_zero, List.getD_cons_succ] at o0
  clear oO
  have tO := ot
  have t0 := tO.cell 0 (by simp)
  have tf0 := tO.frozen 0
  have t1 := tO.cell 1 (by simp)
  have tf1 := tO.frozen 1
  have t2 := tO.cell 2 (by simp)
  have tf2 := tO.frozen 2
  have t3 := tO.cell 3 (by simp)
  have tf3 := tO.frozen 3
  simp only [Nat.zero_add, List.getD_cons_zero, List.getD_cons_succ] at t0 t1 t2 t3
  clear tO
  have cO := oc
  have c0 := cO.cell 0 (by simp)
  have cf0 := cO.frozen 0
  simp only [Nat.zero_add, List.getD_cons_zero, List.getD_cons_succ] at c0
  clear cO
  clear A kb k1 kv s1
  go_wp2_with fail
  refine (T.out _ _ s2).mono ?_
  rintro e w2 ⟨rfl, k2⟩
  have ka := boxed_below w2 (.cells #[I y1, I y2, I y3, I y4, .int .u64 y5, I y6, I y7] 26)
  have oa := Own.new (w := w2) rfl [I y1, I y2, I y3, I y4, .int .u64 y5, I y6, I y7] 26
  have om := (om.below k2).below ka
  have oo := (oo.below k2).below ka
  have ot := (ot.below k2).below ka
  have oc := (oc.below k2).below ka
  have s2 := (s2.below k2).below ka
  have k := kk.trans (k2.mono kk.size)
  have kk := k.trans (ka.mono k.size)
  clear m0 m1 m2 m3 m4 m5 m6 mf0 mf1 mf2 mf3 mf4 mf5 mf6 o0 of0 t0 t1 t2 t3 tf0 tf1 tf2 tf3 c0 cf0 T k2 ka k
  have mO := om
  have m0 := mO.cell 0 (by simp)
  have mf0 := mO.frozen 0
  have m1 := mO.cell 1 (by simp)
  have mf1 := mO.frozen 1
  have m2 := mO.cell 2 (by simp)
  have mf2 := mO.frozen 2
  have m3 := mO.cell 3 (by simp)
  have mf3 := mO.frozen 3
  have m4 := mO.cell 4 (by simp)
  have mf4 := mO.frozen 4
  have m5 := mO.cell 5 (by simp)
  have mf5 := mO.frozen 5
  have m6 := mO.cell 6 (by simp)
  have mf6 := mO.frozen 6
  simp only [Nat.zero_add, List.getD_cons_zero, List.getD_cons_succ] at m0 m1 m2 m3 m4 m5 m6
  clear mO
  have oO := oo
  have o0 := oO.cell 0 (by simp)
  have of0 := oO.frozen 0
  simp only [Nat.zero_add, List.getD_cons_zero, List.getD_cons_succ] at o0
  clear oO
  have tO := ot
  have t0 := tO.cell 0 (by simp)
  have tf0 := tO.frozen 0
  have t1 := tO.cell 1 (by simp)
  have tf1 := tO.frozen 1
  have t2 := tO.cell 2 (by simp)
  have tf2 := tO.frozen 2
  have t3 := tO.cell 3 (by simp)
  have tf3 := tO.frozen 3
  simp only [Nat.zero_add, List.getD_cons_zero, List.getD_cons_succ] at t0 t1 t2 t3
  clear tO
  go_wp2_with fail
  refine (R.out _ (h.below kk)).mono ?_
  rintro e w3 ⟨rfl, k3⟩
  have kb := boxed_below w3 (.cells #[I y1, I y2, I y3, I y4, .int .u64 y5, I y6, I y7] 26)
  clear m0 m1 m2 m3 m4 m5 m6 mf0 mf1 mf2 mf3 mf4 mf5 mf6 o0 of0 t0 t1 t2 t3 tf0 tf1 tf2 tf3 R
  have aO := (oa.below k3).below kb
  have a0 := aO.cell 0 (by simp)
  have af0 := aO.frozen 0
  have a1 := aO.cell 1 (by simp)
  have af1 := aO.frozen 1
  have a2 := aO.cell 2 (by simp)
  have af2 := aO.frozen 2
  have a3 := aO.cell 3 (by simp)
  have af3 := aO.frozen 3
  have a4 := aO.cell 4 (by simp)
  have af4 := aO.frozen 4
  have a5 := aO.cell 5 (by simp)
  have af5 := aO.frozen 5
  have a6 := aO.cell 6 (by simp)
  have af6 := aO.frozen 6
  simp only [Nat.zero_add, List.getD_cons_zero, List.getD_cons_succ] at a0 a1 a2 a3 a4 a5 a6
  clear aO
  have oO := (oo.below k3).below kb
  have o0 := oO.cell 0 (by simp)
  have of0 := oO.frozen 0
  simp only [Nat.zero_add, List.getD_cons_zero, List.getD_cons_succ] at o0
  clear oO
  have cO := (oc.below k3).below kb
  have c0 := cO.cell 0 (by simp)
  have cf0 := cO.frozen 0
  simp only [Nat.zero_add, List.getD_cons_zero, List.getD_cons_succ] at c0
  clear cO
  have s2 := (s2.below k3).below kb
  have k := kk.trans (k3.mono kk.size)
  have kk := k.trans (kb.mono k.size)
  have hlt1 : w2.heap.size < w3.heap.size := by have := k3.size; simp at this; omega
  have hne1 : ¬ w2.heap.size = w3.heap.size := by omega
  have hne2 : ¬ w3.heap.size = w2.heap.size := by omega
  clear om ot oa oc oo k3 kb k
  go_wp2_with fail
  refine (S.out _ _ _ s2 (h.below kk)).mono ?_
  rintro e w4 ⟨rfl, k4⟩
  have k := kk.trans (k4.mono kk.size)
  clear a0 a1 a2 a3 a4 a5 a6 o0 c0
  go_wp2
  go_ret
  exact Grew.intro (by simp) k

set_option maxRecDepth 100000 in
theorem lifted (os : Os) (started : os.Started) (H : Type) (enc : TypeId × Value → H) :
    ReturnsInHanded {} Try.checked os 3 .any (Rows.meterKeysSpec.pre6 enc Try.prog Try.f3 Rows.meterKeysRow.domain false) (Rows.meterKeysSpec.post enc Try.prog Try.f3 false true false false) := by
  refine returnsInHanded_of_change_sized (C := Try.checked) own started (by kernel_rfl) Try.func3
    (ChangeSpec.witness6 (enc := enc) (C := Try.checked) false ⟨#[], #[.agg #[.int .i64 0, .int .i64 0, .int .i64 0, .int .i64 0, .int .u64 0, .int .i64 0, .int .i64 0], .agg #[.slice none 0 0], .agg #[.int .i64 0, .int .i64 0, .int .i64 0, .int .i64 0]], []⟩ 8 (by kernel_rfl) (by kernel_rfl) (by kernel_rfl) (by kernel_rfl)) ?_
  intro W base args ds gs before hval hW hcnd hsz _
  have hfin := fun W' => post_true (fn := Try.f3) (s := Rows.meterKeysSpec) (bt := 4) (W' := W') rfl laidOut (by kernel_rfl) Try.underlying4 rfl (fun ds h => by match ds, h with | [_, _, _], _ => rfl) hW
  have hsz : (DataW.weightsEach Try.prog (Try.f3.params.toList ++ []) (ds ++ gs)).all (· ≤ reachBytes) = true := hsz
  obtain ⟨p, q, hA, hV, rfl, hfz, hnd⟩ := hW
  obtain ⟨rfl, rfl⟩ := trodVars_none hV
  rw [Try.params3] at hA hval hsz
  obtain ⟨v0, vs0, d0, ds0, p0, q0, hargs, rfl, rfl, h0, r0⟩ := trodAll_cons hA
  obtain ⟨v1, vs1, d1, ds1, p1, q1, rfl, rfl, rfl, h1, r1⟩ := trodAll_cons r0
  obtain ⟨v2, vs2, d2, ds2, p2, q2, rfl, rfl, rfl, h2, r2⟩ := trodAll_cons r1
  obtain ⟨rfl, rfl, rfl⟩ := trodAll_nil r2
  obtain rfl : args = #[v0, v1, v2] := by cases args; simp_all
  simp only [List.append_nil] at hsz
  have pl0 := arg_plains (ks := (shape Try.prog 9 26).getD []) (by kernel_rfl) h0 (arg_weights (j := 0) hsz rfl rfl)
  obtain ⟨cs0, rfl, pl0⟩ := arg_struct Try.underlying26 (hval 0 26 v0 rfl rfl) pl0
  obtain ⟨x0, rfl, hx0⟩ := decodeMeter _ pl0
  have pl1 := arg_plains (ks := (shape Try.prog 9 29).getD []) (by kernel_rfl) h1 (arg_weights (j := 1) hsz rfl rfl)
  obtain ⟨cs1, rfl, pl1⟩ := arg_struct Try.underlying29 (hval 1 29 v1 rfl rfl) pl1
  obtain ⟨u1, xs1, rfl, hS1, hw1, hb1⟩ := decodeOracle _ pl1
  have pl2 := arg_plains (ks := (shape Try.prog 9 31).getD []) (by kernel_rfl) h2 (arg_weights (j := 2) hsz rfl rfl)
  obtain ⟨cs2, rfl, pl2⟩ := arg_struct Try.underlying31 (hval 2 31 v2 rfl rfl) pl2
  obtain ⟨x2, rfl, hx2⟩ := decodeToken _ pl2
  exact (walk x0 u1 xs1 x2 W hx0 hS1 hw1 hb1 hx2).mono fun e W' h => by
    obtain ⟨rfl, hb⟩ := h.grew
    exact ⟨_, rfl, hfin W' hb⟩

theorem over : Rows.meterKeysRow.holds Try.pinned (OpenSpec.ofChange Rows.meterKeysSpec) :=
  OpenClaim.holds_of_wide 3 Try.f3 rfl rfl rfl rfl rfl rfl rfl ⟨rfl, rfl, rfl, rfl, rfl⟩ rfl rfl rfl rfl rfl (by kernel_rfl) Try.func3 (by kernel_rfl)
    (of_decide_eq_true (by kernel_rfl)) (by unfold Func.isWrapper; first | (rw [if_pos (by decide +kernel)]; kernel_rfl) | (rw [if_neg (by decide +kernel)]; exact ⟨rfl, rfl⟩))
    (fun os started H enc _ => lifted os started H enc)

theorem proved : Rows.MeterKeysSaid := over
#print axioms proved
end Go.Proofs.Ytmciccnmpoijdaa.meterKeys
