/- vend.Reprint answers as the reference does, at every argument, and changes none of them. No conditions. -/
import Derived.Test.YtdjgcenjonegjaaGreatPk00
import Derived.Test.YtdjgcenjonegjaaGreatPk01
import Derived.Test.YtdjgcenjonegjaaGreatPk53
set_option maxRecDepth 20000
set_option maxHeartbeats 8000000
set_option linter.unusedSimpArgs false
set_option linter.unusedVariables false
namespace Go.Proofs.YtdjgcenjonegjaaGreat.vendReprints
open Go.ChangeShapes Go.WideShapes Go.ChangeAt Go.RowKit
theorem walk (z : ATerms) (tv : Value) (ts : List AStep) (cv : Value) (xs : List Int) (me id : Int) (w : World) (_hz : z.wf) (ht : Sl w tv 2 ts.length (ts.flatMap AStep.cells)) (_hv : ∀ x ∈ ts, x.wf) (hbt : ts.length * 16 ≤ 140737488351232)
    (hc : Sl w cv 1 xs.length (xs.map U32)) (hw : ∀ x ∈ xs, W32 x) (hbc : xs.length * 4 ≤ 140737488351232) :
    Calls Tryz.prog 3 #[.agg #[tv, I z.feeFix, I z.feeBp, I z.debtBp, I z.allow], cv, I me, I id] w (Grew (.bool true) w) := by
  obtain ⟨f, b, d, al⟩ := z; have WD := Lib.hid (fun W hW => words_any cv xs W hW (by omega)); have C := Lib.hid (fun W hW => terms_any tv ts f b d al W hW (by omega)); have P := Lib.hid (fun tv' cv' W h1 h2 => Reprint_any ⟨ts, f, b, d, al⟩ tv' cv' xs me id W h1 h2 hw); have R := Lib.hid (fun W h1 h2 => Reprinted_any ⟨ts, f, b, d, al⟩ tv cv xs me id W h1 h2 hw); have SW := Lib.hid (fun v2 W h1 h2 => sameWords_any cv v2 xs xs W h1 h2); unfold RepP at P R; generalize repE ⟨ts, f, b, d, al⟩ xs me id = E at *; generalize repT ⟨ts, f, b, d, al⟩ xs me id = L at *; simp only [GrewTerms, decide_true] at C SW; clear hw _hv; have k0 := boxed_below w (.cells #[tv, I f, I b, I d, I al] 24); have ot := Own.new (w := w) rfl [tv, I f, I b, I d, I al] 24; have hc0 := hc.below k0; go_enter Tryz.func3, Tryz.ntmps3
  go_wp2_with fail
  refine (WD.out _ hc0).mono ?_; rintro e w1 ⟨dv, rfl, hd, k1⟩; have ot1 := ot.below k1; have kk := k0.trans (k1.mono k0.size); clear k1 k0 ot hc0; have OT := Lib.hid ot1; have tO := ot1; have tA := tO.s5; clear tO; clear ot1
  go_wp2_with fail
  refine (C.out _ (ht.below kk)).mono ?_; rintro e w2 ⟨tv2, rfl, ht2, k2⟩; have hd2 := hd.below k2; have ot2 := OT.out.below k2; have kk2 := kk.trans (k2.mono kk.size); clear tA OT kk k2 hd C WD; obtain ⟨ta2, tc2, rfl, -⟩ := _root_.id ht2
  go_wp2_with fail
  refine (P.out _ _ _ ht2 hd2).mono ?_; rintro e w3 ⟨rfl, k3⟩; have HD3 := Lib.hid (hd2.below k3); have ot3 := ot2.below k3; have KK3 := Lib.hid (kk2.trans (k3.mono kk2.size)); have tO := ot3; have tA := tO.s5; clear tO; clear hd2 ot2 kk2 k3 ht2 P ot3
  go_wp2_with fail
  refine (R.out _ (ht.below KK3.out) (hc.below KK3.out)).mono ?_; rintro e w5 ⟨rfl, k5⟩; have HD5 := Lib.hid (HD3.out.below k5); have KK5 := Lib.hid (KK3.out.trans (k5.mono KK3.out.size)); clear tA k5 R HD3
  go_wp2_with fail
  refine (SW.out _ _ (hc.below KK5.out) HD5.out).mono ?_; rintro e w8 ⟨rfl, k8⟩; have kk8 := KK5.out.trans (k8.mono KK5.out.size); clear k8; go_wp2; go_ret; exact Grew.intro (by simp) kk8

set_option maxRecDepth 100000 in
theorem lifted (os : Os) (started : os.Started) (H : Type) (enc : TypeId × Value → H) :
    ReturnsInHanded {} Tryz.checked os 3 .any (Rows.vendReprintsSpec.pre6 enc Tryz.prog Tryz.f3 Rows.vendReprintsRow.domain false) (Rows.vendReprintsSpec.post enc Tryz.prog Tryz.f3 false true false false) := by
  refine returnsInHanded_of_change_sized (C := Tryz.checked) own started (by kernel_rfl) Tryz.func3
    (ChangeSpec.witness6 (enc := enc) (C := Tryz.checked) false ⟨#[], #[.agg #[.slice none 0 0, .int .i64 0, .int .i64 0, .int .i64 0, .int .i64 0], .slice none 0 0, .int .i64 0, .int .i64 0], []⟩ 8 (by kernel_rfl) (by kernel_rfl) (by kernel_rfl) (by kernel_rfl)) ?_
  intro W base args ds gs before hval hW hcnd hsz _; have hfin := fun W' => post_true (fn := Tryz.f3) (s := Rows.vendReprintsSpec) (bt := 4) (W' := W') rfl laidOut (by kernel_rfl) Tryz.underlying4 rfl (fun ds h => by match ds, h with | [_, _, _, _], _ => rfl) hW; have hsz : (DataW.weightsEach Tryz.prog (Tryz.f3.params.toList ++ []) (ds ++ gs)).all (· ≤ reachBytes) = true := hsz; obtain ⟨p, q, hA, hV, rfl, hfz, hnd⟩ := hW; obtain ⟨rfl, rfl⟩ := trodVars_none hV; rw [Tryz.params3] at hA hval hsz; obtain ⟨v0, vs0, d0, ds0, p0, q0, hargs, rfl, rfl, h0, r0⟩ := trodAll_cons hA; obtain ⟨v1, vs1, d1, ds1, p1, q1, rfl, rfl, rfl, h1, r1⟩ := trodAll_cons r0; obtain ⟨v2, vs2, d2, ds2, p2, q2, rfl, rfl, rfl, h2, r2⟩ := trodAll_cons r1; obtain ⟨v3, vs3, d3, ds3, p3, q3, rfl, rfl, rfl, h3, r3⟩ := trodAll_cons r2; obtain ⟨rfl, rfl, rfl⟩ := trodAll_nil r3; obtain rfl : args = #[v0, v1, v2, v3] := by cases args; simp_all
  simp only [List.append_nil] at hsz; have pl0 := arg_plains (ks := (shape Tryz.prog 9 24).getD []) (by kernel_rfl) h0 (arg_weights (j := 0) hsz rfl rfl); obtain ⟨cs0, rfl, pl0⟩ := arg_struct Tryz.underlying24 (hval 0 24 v0 rfl rfl) pl0; obtain ⟨x0, u0, xs0, rfl, hx0, hS0, hw0, hb0⟩ := decodeTerms _ pl0; have pl1 := arg_plains (ks := (shape Tryz.prog 9 25).getD []) (by kernel_rfl) h1 (arg_weights (j := 1) hsz rfl rfl); obtain ⟨xs1, hS1, hw1, hb1⟩ := plain_words (arg_slice Tryz.underlying25 (hval 1 25 v1 rfl rfl) pl1); obtain ⟨a2, rfl, rfl, rfl, wf2⟩ := open_int Tryz.underlying3 (hval 2 3 v2 rfl rfl) h2; obtain ⟨a3, rfl, rfl, rfl, wf3⟩ := open_int Tryz.underlying3 (hval 3 3 v3 rfl rfl) h3
  exact (walk x0 u0 xs0 v1 xs1 a2 a3 W hx0 hS0 hw0 hb0 hS1 hw1 hb1).mono fun e W' h => by
    obtain ⟨rfl, hb⟩ := h.grew; exact ⟨_, rfl, hfin W' hb⟩

theorem over : Rows.vendReprintsRow.holds Tryz.pinned (OpenSpec.ofChange Rows.vendReprintsSpec) :=
  OpenClaim.holds_of_wide 3 Tryz.f3 rfl rfl rfl rfl rfl rfl rfl ⟨rfl, rfl, rfl, rfl, rfl⟩ rfl rfl rfl rfl rfl (by kernel_rfl) Tryz.func3 (by kernel_rfl)
    (of_decide_eq_true (by kernel_rfl)) (by unfold Func.isWrapper; first | (rw [if_pos (by decide +kernel)]; kernel_rfl) | (rw [if_neg (by decide +kernel)]; exact ⟨rfl, rfl⟩))
    (fun os started H enc _ => lifted os started H enc)

theorem proved : Rows.VendReprintsSaid := over
#print axioms proved
end Go.Proofs.YtdjgcenjonegjaaGreat.vendReprints
