/- vend.Load answers as the reference does, at every argument, and changes none of them. No conditions. -/
import Derived.Test.YtenoigmkhlnfoaaPk00
import Derived.Test.YtenoigmkhlnfoaaPk01
import Derived.Test.YtenoigmkhlnfoaaPk48
import Derived.Test.YtenoigmkhlnfoaaPk51
namespace Go.Proofs.Ytenoigmkhlnfoaa.vendLoads
set_option linter.unusedSimpArgs false
set_option linter.unusedVariables false
open Go.ChangeShapes Go.WideShapes Go.ChangeAt Go.RowKit
set_option maxRecDepth 20000
set_option maxHeartbeats 4000000 in
theorem walk (z : ATerms) (tv : Value) (ts : List AStep) (cv : Value) (xs : List Int) (w : World) (_hz : z.wf) (ht : Sl w tv 2 ts.length (ts.flatMap AStep.cells)) (_hv : ∀ x ∈ ts, x.wf) (hbt : ts.length * 16 ≤ 140737488351232)
    (hc : Sl w cv 1 xs.length (xs.map U32)) (hw : ∀ x ∈ xs, W32 x) (hbc : xs.length * 4 ≤ 140737488351232) :
    Calls Try.prog 5 #[.agg #[tv, I z.feeFix, I z.feeBp, I z.debtBp, I z.allow], cv] w (Grew (.bool true) w) := by
  obtain ⟨f, b, d, al⟩ := z
  have WD := Lib.hid (fun W hW => words_any cv xs W hW (by omega))
  have C := Lib.hid (fun W hW => terms_any tv ts f b d al W hW (by omega))
  have P := Lib.hid (fun tv' cv' W h1 h2 => Load_any ⟨ts, f, b, d, al⟩ tv' cv' xs W h1 h2 hw)
  have R := Lib.hid (fun W h1 h2 => Loaded_any ⟨ts, f, b, d, al⟩ tv cv xs W h1 h2 hw)
  have bd := loadC_bd ⟨ts, f, b, d, al⟩ xs
  have SW := Lib.hid (fun v2 W h1 h2 => sameWords_any cv v2 xs xs W h1 h2)
  have SB := Lib.hid (fun v1 v2 B1 B2 us ys W h1 h2 => sameBook_any v1 v2 B1 B2 (loadC ⟨ts, f, b, d, al⟩ xs) us ys W h1 h2 (by omega) (fun c hc => by have := bd.2 c hc; omega))
  unfold LoadP at P R
  generalize loadE ⟨ts, f, b, d, al⟩ xs = E at *
  generalize loadC ⟨ts, f, b, d, al⟩ xs = cs at *
  simp only [GrewTerms, decide_true] at C SW
  clear bd hw _hv
  have k0 := boxed_below w (.cells #[tv, I f, I b, I d, I al] 24)
  have ot := Own.new (w := w) rfl [tv, I f, I b, I d, I al] 24
  have hc0 := hc.below k0
  go_enter Try.func5, Try.ntmps5
  go_wp2_with fail
  refine (WD.out _ hc0).mono ?_
  rintro e w1 ⟨dv, rfl, hd, k1⟩
  have ot1 := ot.below k1
  have kk := k0.trans (k1.mono k0.size)
  have n1 : w.heap.size + 1 ≤ w1.heap.size := by have := k1.size; simp at this; omega
  clear k1 k0 ot hc0
  have OT := Lib.hid ot1
  have tO := ot1
  have tfA := tO.f; have t0 := tO.c0; have t1 := tO.c1; have t2 := tO.c2; have t3 := tO.c3; have t4 := tO.c4
  clear tO
  clear ot1
  go_wp2_with fail
  refine (C.out _ (ht.below kk)).mono ?_
  rintro e w2 ⟨tv2, rfl, ht2, k2⟩
  have hd2 := hd.below k2
  have ot2 := OT.out.below k2
  have kk2 := kk.trans (k2.mono kk.size)
  have n2 := Nat.le_trans n1 k2.size
  clear t0 t1 t2 t3 t4 tfA OT kk k2 hd C WD
  obtain ⟨ta2, tc2, rfl, -⟩ := id ht2
  go_wp2_with fail
  refine (P.out _ _ _ ht2 hd2).mono ?_
  rintro e w3 ⟨bv, us, rfl, hb3, k3⟩
  have hd3 := hd2.below k3
  have ot3 := ot2.below k3
  have kk3 := kk2.trans (k3.mono kk2.size)
  have n3 := Nat.le_trans n2 k3.size
  clear hd2 ot2 kk2 k3 ht2 P n2 n1
  have kA := boxed_below w3 (.cells #[bv] 29)
  have oa := Own.new (w := w3) rfl [bv] 29
  have ot4 := ot3.below kA
  have hd4 := hd3.below kA
  have hb4 := hb3.below kA
  have kk4 := kk3.trans (kA.mono kk3.size)
  have n13 : ¬ w.heap.size = w3.heap.size := by omega
  have HB4 := Lib.hid hb4
  have OA := Lib.hid oa
  have tO := ot4
  have tfA := tO.f; have t0 := tO.c0; have t1 := tO.c1; have t2 := tO.c2; have t3 := tO.c3; have t4 := tO.c4
  clear tO
  clear ot3 hd3 hb3 kk3 kA hb4 oa ot4
  obtain ⟨ba, bc, rfl⟩ : ∃ a c, bv = .slice a cs.length c := book_slice HB4.out
  go_wp2_with fail
  refine (R.out _ (ht.below kk4) (hc.below kk4)).mono ?_
  rintro e w5 ⟨rv, ys, rfl, hr5, k5⟩
  have oa5 := OA.out.below k5
  have hb5 := HB4.out.below k5
  have hd5 := hd4.below k5
  have kk5 := kk4.trans (k5.mono kk4.size)
  have kB := boxed_below w5 (.cells #[rv] 29)
  have ob := Own.new (w := w5) rfl [rv] 29
  have n5 : ¬ w3.heap.size = w5.heap.size := by have := k5.size; simp at this; omega
  have oa6 := oa5.below kB
  have hd6 := hd5.below kB
  have hb6 := hb5.below kB
  have hr6 := hr5.below kB
  have kk6 := kk5.trans (kB.mono kk5.size)
  have HB6 := Lib.hid hb6
  have HR6 := Lib.hid hr6
  have HD6 := Lib.hid hd6
  have KK6 := Lib.hid kk6
  have pO := oa6
  have pfA := pO.f; have p0 := pO.c0
  clear pO
  have qO := ob
  have qfA := qO.f; have q0 := qO.c0
  clear qO
  obtain ⟨ra, rc, rfl⟩ : ∃ a c, rv = .slice a cs.length c := book_slice HR6.out
  clear t0 t1 t2 t3 t4 tfA hd4 kk4 k5 oa5 hb5 hd5 kk5 kB ob hr5 oa6 hd6 hb6 hr6 kk6 R OA HB4
  go_wp2_with fail
  refine (SB.out _ _ _ _ _ _ _ HB6.out HR6.out).mono ?_
  rintro e w7 ⟨rfl, k7⟩
  have kk7 := KK6.out.trans (k7.mono KK6.out.size)
  have hd7 := HD6.out.below k7
  go_wp2_with fail
  refine (SW.out _ _ (hc.below kk7) hd7).mono ?_
  rintro e w8 ⟨rfl, k8⟩
  have kk8 := kk7.trans (k8.mono kk7.size)
  clear k7 k8 kk7 hd7 p0 pfA q0 qfA
  go_wp2
  go_ret
  exact Grew.intro (by simp) kk8

set_option maxRecDepth 100000 in
theorem lifted (os : Os) (started : os.Started) (H : Type) (enc : TypeId × Value → H) :
    ReturnsInHanded {} Try.checked os 5 .any (Rows.vendLoadsSpec.pre6 enc Try.prog Try.f5 Rows.vendLoadsRow.domain false) (Rows.vendLoadsSpec.post enc Try.prog Try.f5 false true false false) := by
  refine returnsInHanded_of_change_sized (C := Try.checked) own started (by kernel_rfl) Try.func5
    (ChangeSpec.witness6 (enc := enc) (C := Try.checked) false ⟨#[], #[.agg #[.slice none 0 0, .int .i64 0, .int .i64 0, .int .i64 0, .int .i64 0], .slice none 0 0], []⟩ 8 (by kernel_rfl) (by kernel_rfl) (by kernel_rfl) (by kernel_rfl)) ?_
  intro W base args ds gs before hval hW hcnd hsz _
  have hfin := fun W' => post_true (fn := Try.f5) (s := Rows.vendLoadsSpec) (bt := 4) (W' := W') rfl laidOut (by kernel_rfl) Try.underlying4 rfl (fun ds h => by match ds, h with | [_, _], _ => rfl) hW
  have hsz : (DataW.weightsEach Try.prog (Try.f5.params.toList ++ []) (ds ++ gs)).all (· ≤ reachBytes) = true := hsz
  obtain ⟨p, q, hA, hV, rfl, hfz, hnd⟩ := hW
  obtain ⟨rfl, rfl⟩ := trodVars_none hV
  rw [Try.params5] at hA hval hsz
  obtain ⟨v0, vs0, d0, ds0, p0, q0, hargs, rfl, rfl, h0, r0⟩ := trodAll_cons hA
  obtain ⟨v1, vs1, d1, ds1, p1, q1, rfl, rfl, rfl, h1, r1⟩ := trodAll_cons r0
  obtain ⟨rfl, rfl, rfl⟩ := trodAll_nil r1
  obtain rfl : args = #[v0, v1] := by cases args; simp_all
  simp only [List.append_nil] at hsz
  have pl0 := arg_plains (ks := (shape Try.prog 9 24).getD []) (by kernel_rfl) h0 (arg_weights (j := 0) hsz rfl rfl)
  obtain ⟨cs0, rfl, pl0⟩ := arg_struct Try.underlying24 (hval 0 24 v0 rfl rfl) pl0
  obtain ⟨x0, u0, xs0, rfl, hx0, hS0, hw0, hb0⟩ := decodeTerms _ pl0
  have pl1 := arg_plains (ks := (shape Try.prog 9 37).getD []) (by kernel_rfl) h1 (arg_weights (j := 1) hsz rfl rfl)
  obtain ⟨xs1, hS1, hw1, hb1⟩ := plain_words (arg_slice Try.underlying37 (hval 1 37 v1 rfl rfl) pl1)
  exact (walk x0 u0 xs0 v1 xs1 W hx0 hS0 hw0 hb0 hS1 hw1 hb1).mono fun e W' h => by
    obtain ⟨rfl, hb⟩ := h.grew
    exact ⟨_, rfl, hfin W' hb⟩

theorem over : Rows.vendLoadsRow.holds Try.pinned (OpenSpec.ofChange Rows.vendLoadsSpec) :=
  OpenClaim.holds_of_wide 5 Try.f5 rfl rfl rfl rfl rfl rfl rfl ⟨rfl, rfl, rfl, rfl, rfl⟩ rfl rfl rfl rfl rfl (by kernel_rfl) Try.func5 (by kernel_rfl)
    (of_decide_eq_true (by kernel_rfl)) (by unfold Func.isWrapper; first | (rw [if_pos (by decide +kernel)]; kernel_rfl) | (rw [if_neg (by decide +kernel)]; exact ⟨rfl, rfl⟩))
    (fun os started H enc _ => lifted os started H enc)

theorem proved : Rows.VendLoadsSaid := over
#print axioms proved
end Go.Proofs.Ytenoigmkhlnfoaa.vendLoads
