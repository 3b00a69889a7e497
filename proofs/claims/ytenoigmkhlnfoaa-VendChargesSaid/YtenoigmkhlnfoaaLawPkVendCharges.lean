/- vend.Charge answers as the reference does, at every argument, and changes none of them. No conditions. -/
import Derived.Test.YtenoigmkhlnfoaaPk00
import Derived.Test.YtenoigmkhlnfoaaPk01
import Derived.Test.YtenoigmkhlnfoaaVendChg
import Derived.Deep.RegionHeld3
import Derived.Test.YtenoigmkhlnfoaaPk51
namespace Go.Proofs.Ytenoigmkhlnfoaa.vendCharges
set_option linter.unusedSimpArgs false
set_option linter.unusedVariables false
open Go.ChangeShapes Go.WideShapes Go.ChangeAt Go.RowKit
set_option maxRecDepth 20000
set_option maxHeartbeats 4000000 in
theorem walk (z : ATerms) (tv : Value) (ts : List AStep) (cv : Value) (xs : List Int) (me : Int) (z2 : ADebt) (w : World) (_hz : z.wf) (ht : Sl w tv 2 ts.length (ts.flatMap AStep.cells)) (_hv : ∀ x ∈ ts, x.wf) (hbt : ts.length * 16 ≤ 140737488351232)
    (hc : Sl w cv 1 xs.length (xs.map U32)) (hw : ∀ x ∈ xs, W32 x) (hbc : xs.length * 4 ≤ 140737488351232) (_hd : z2.wf) :
    Calls Try.prog 7 #[.agg #[tv, I z.feeFix, I z.feeBp, I z.debtBp, I z.allow], cv, I me, .agg #[I z2.owed, I z2.bp]] w (Grew (.bool true) w) := by
  obtain ⟨f, b, d, al⟩ := z
  obtain ⟨ow, bp⟩ := z2
  have WD := Lib.hid (fun W hW => words_any cv xs W hW (by omega))
  have C := Lib.hid (fun W hW => terms_any tv ts f b d al W hW (by omega))
  have P := Lib.hid (fun tv' cv' W h1 h2 => Charge_any ⟨ts, f, b, d, al⟩ tv' cv' xs me ow bp W h1 h2 hw)
  have R := Lib.hid (fun W h1 h2 => VendCharge_any ⟨ts, f, b, d, al⟩ tv cv xs me ow bp W h1 h2 hw)
  have SW := Lib.hid (fun v2 W h1 h2 => sameWords_any cv v2 xs xs W h1 h2)
  have ST := Lib.hid (fun v1 v2 W h1 h2 => sameWrites_any v1 v2 (chgL ⟨ts, f, b, d, al⟩ xs me ow bp) (chgL ⟨ts, f, b, d, al⟩ xs me ow bp) W h1 h2)
  unfold ChgP at P R
  generalize chgE ⟨ts, f, b, d, al⟩ xs me ow bp = E at *
  generalize chgL ⟨ts, f, b, d, al⟩ xs me ow bp = L at *
  simp only [GrewTerms, decide_true] at C SW ST
  clear hw _hv
  have ot := (Own.new (w := w) (g := w.heap.size) (by rfl) [tv, I f, I b, I d, I al] 24).alloc (.cells #[I ow, I bp] 60)
  have od := Own.new (w := (w.alloc (.cells #[tv, I f, I b, I d, I al] 24))) (g := w.heap.size + 1) (by simp) [I ow, I bp] 60
  have bx0 := boxed_below w (.cells #[tv, I f, I b, I d, I al] 24)
  have k0 := bx0.alloc bx0.size (.cells #[I ow, I bp] 60)
  clear bx0
  have hc0 := hc.below k0
  go_enter Try.func7, Try.ntmps7
  go_wp2_with fail
  refine (WD.out _ hc0).mono ?_
  rintro e w1 ⟨dv, rfl, hd, k1⟩
  have ot1 := ot.below k1
  have od1 := od.below k1
  have kk := k0.trans (k1.mono k0.size)
  have hlt : w.heap.size < w1.heap.size := ot1.lt
  have hld : w.heap.size + 1 < w1.heap.size := od1.lt
  clear k1 k0 ot od hc0
  have OT := Lib.hid ot1
  have OD := Lib.hid od1
  have HT1 := Lib.hid (ht.below kk)
  have HD1 := Lib.hid hd
  have KK := Lib.hid kk
  have tO := ot1
  have tfA := tO.f; have t0 := tO.c0; have t1 := tO.c1; have t2 := tO.c2; have t3 := tO.c3; have t4 := tO.c4
  clear tO
  have qO := od1
  have qfA := qO.f; have q0 := qO.c0; have q1 := qO.c1
  clear qO
  obtain ⟨da, dc, rfl, -⟩ := id hd
  clear ot1 od1 kk hd
  go_upto_region 2 with fail
  go_cut [10, 11] (fun s10 s11 wx => ∃ ua uc, s10 = .slice ua L.length uc ∧ s11 = I E ∧ Sl wx (.slice ua L.length uc) 2 L.length (L.flatMap AWrite.cells) ∧ Below w1.heap.size w1 wx)
  case first =>
    go_region_held3 (fun W => W.cell? ⟨w.heap.size, 0, none⟩ = some tv ∧ W.cell? ⟨w.heap.size, 1, none⟩ = some (I f) ∧ W.cell? ⟨w.heap.size, 2, none⟩ = some (I b) ∧ W.cell? ⟨w.heap.size, 3, none⟩ = some (I d) ∧ W.cell? ⟨w.heap.size, 4, none⟩ = some (I al) ∧ W.cell? ⟨w.heap.size + 1, 0, none⟩ = some (I ow) ∧ W.cell? ⟨w.heap.size + 1, 1, none⟩ = some (I bp))
      (first | go_keep | (exact ⟨t0, t1, t2, t3, t4, q0, q1⟩) | (exact ⟨a0, a1, a2, a3, a4, a5, a6⟩) | (exact ⟨c0, c1, c2, c3, c4, c5, c6⟩))
      ((first
        | (
           (with_reducible refine (C.out _ ?_).mono ?_)
           · exact HT1.out
           rintro e w2 ⟨tv2, rfl, ht2, k2'⟩
           have k2 : Below w1.heap.size w1 w2 := ⟨k2'.os, k2'.tape, k2'.output, k2'.size, k2'.block⟩
           have a0 := (k2.cell (p := ⟨w.heap.size, 0, none⟩) hlt).trans t0
           have a1 := (k2.cell (p := ⟨w.heap.size, 1, none⟩) hlt).trans t1
           have a2 := (k2.cell (p := ⟨w.heap.size, 2, none⟩) hlt).trans t2
           have a3 := (k2.cell (p := ⟨w.heap.size, 3, none⟩) hlt).trans t3
           have a4 := (k2.cell (p := ⟨w.heap.size, 4, none⟩) hlt).trans t4
           have a5 := (k2.cell (p := ⟨w.heap.size + 1, 0, none⟩) hld).trans q0
           have a6 := (k2.cell (p := ⟨w.heap.size + 1, 1, none⟩) hld).trans q1
           have hs2 := k2.size
           have HT2 := Lib.hid ht2
           have HD2 := Lib.hid (HD1.out.below k2)
           have K2 := Lib.hid k2
           obtain ⟨ta2, tc2, rfl, -⟩ := id ht2
           clear k2 k2' ht2)
        | (
           (with_reducible refine (P.out _ _ _ ?_ ?_).mono ?_)
           · exact HT2.out
           · exact HD2.out
           rintro e w3 ⟨uv, rfl, hu3, k3⟩
           have c0 := (k3.cell (p := ⟨w.heap.size, 0, none⟩) (Nat.lt_of_lt_of_le hlt hs2)).trans a0
           have c1 := (k3.cell (p := ⟨w.heap.size, 1, none⟩) (Nat.lt_of_lt_of_le hlt hs2)).trans a1
           have c2 := (k3.cell (p := ⟨w.heap.size, 2, none⟩) (Nat.lt_of_lt_of_le hlt hs2)).trans a2
           have c3 := (k3.cell (p := ⟨w.heap.size, 3, none⟩) (Nat.lt_of_lt_of_le hlt hs2)).trans a3
           have c4 := (k3.cell (p := ⟨w.heap.size, 4, none⟩) (Nat.lt_of_lt_of_le hlt hs2)).trans a4
           have c5 := (k3.cell (p := ⟨w.heap.size + 1, 0, none⟩) (Nat.lt_of_lt_of_le hld hs2)).trans a5
           have c6 := (k3.cell (p := ⟨w.heap.size + 1, 1, none⟩) (Nat.lt_of_lt_of_le hld hs2)).trans a6
           have HU3 := Lib.hid hu3
           have K3 := Lib.hid (K2.out.trans (k3.mono K2.out.size))
           obtain ⟨ua, uc, rfl, -⟩ := id hu3
           clear hu3 k3)
        | fail))
    all_goals
      go_wp2_with fail
      go_meet
      exact ⟨_, _, rfl, rfl, HU3.out, K3.out⟩
  case rest =>
    obtain ⟨ua, uc, rfl, rfl, hu, kc⟩ := hcut
    have KK3 := Lib.hid (KK.out.trans (kc.mono KK.out.size))
    have HU3 := Lib.hid hu
    have HD3 := Lib.hid (HD1.out.below kc)
    have ot3 := OT.out.below kc
    have od3 := OD.out.below kc
    clear t0 t1 t2 t3 t4 tfA q0 q1 qfA hu kc OT OD P C WD
    have tO := ot3
    have tfA := tO.f; have t0 := tO.c0; have t1 := tO.c1; have t2 := tO.c2; have t3 := tO.c3; have t4 := tO.c4
    clear tO
    have qO := od3
    have qfA := qO.f; have q0 := qO.c0; have q1 := qO.c1
    clear qO
    clear ot3 od3
    go_wp2_with fail
    refine (R.out _ (ht.below KK3.out) (hc.below KK3.out)).mono ?_
    rintro e w5 ⟨rv, rfl, hr5, k5⟩
    have HU5 := Lib.hid (HU3.out.below k5)
    have HD5 := Lib.hid (HD3.out.below k5)
    have KK5 := Lib.hid (KK3.out.trans (k5.mono KK3.out.size))
    have HR5 := Lib.hid hr5
    obtain ⟨ra, rc, rfl, -⟩ := id hr5
    clear t0 t1 t2 t3 t4 tfA q0 q1 qfA k5 hr5 R HD3 HU3
    go_wp2_with fail
    refine (ST.out _ _ _ HU5.out HR5.out).mono ?_
    rintro e w7 ⟨rfl, k7⟩
    have kk7 := KK5.out.trans (k7.mono KK5.out.size)
    have hd7 := HD5.out.below k7
    go_wp2_with fail
    refine (SW.out _ _ (hc.below kk7) hd7).mono ?_
    rintro e w8 ⟨rfl, k8⟩
    have kk8 := kk7.trans (k8.mono kk7.size)
    clear k7 k8 kk7 hd7
    go_wp2
    go_ret
    exact Grew.intro (by simp) kk8

set_option maxRecDepth 100000 in
theorem lifted (os : Os) (started : os.Started) (H : Type) (enc : TypeId × Value → H) :
    ReturnsInHanded {} Try.checked os 7 .any (Rows.vendChargesSpec.pre6 enc Try.prog Try.f7 Rows.vendChargesRow.domain false) (Rows.vendChargesSpec.post enc Try.prog Try.f7 false true false false) := by
  refine returnsInHanded_of_change_sized (C := Try.checked) own started (by kernel_rfl) Try.func7
    (ChangeSpec.witness6 (enc := enc) (C := Try.checked) false ⟨#[], #[.agg #[.slice none 0 0, .int .i64 0, .int .i64 0, .int .i64 0, .int .i64 0], .slice none 0 0, .int .i64 0, .agg #[.int .i64 0, .int .i64 0]], []⟩ 8 (by kernel_rfl) (by kernel_rfl) (by kernel_rfl) (by kernel_rfl)) ?_
  intro W base args ds gs before hval hW hcnd hsz _
  have hfin := fun W' => post_true (fn := Try.f7) (s := Rows.vendChargesSpec) (bt := 4) (W' := W') rfl laidOut (by kernel_rfl) Try.underlying4 rfl (fun ds h => by match ds, h with | [_, _, _, _], _ => rfl) hW
  have hsz : (DataW.weightsEach Try.prog (Try.f7.params.toList ++ []) (ds ++ gs)).all (· ≤ reachBytes) = true := hsz
  obtain ⟨p, q, hA, hV, rfl, hfz, hnd⟩ := hW
  obtain ⟨rfl, rfl⟩ := trodVars_none hV
  rw [Try.params7] at hA hval hsz
  obtain ⟨v0, vs0, d0, ds0, p0, q0, hargs, rfl, rfl, h0, r0⟩ := trodAll_cons hA
  obtain ⟨v1, vs1, d1, ds1, p1, q1, rfl, rfl, rfl, h1, r1⟩ := trodAll_cons r0
  obtain ⟨v2, vs2, d2, ds2, p2, q2, rfl, rfl, rfl, h2, r2⟩ := trodAll_cons r1
  obtain ⟨v3, vs3, d3, ds3, p3, q3, rfl, rfl, rfl, h3, r3⟩ := trodAll_cons r2
  obtain ⟨rfl, rfl, rfl⟩ := trodAll_nil r3
  obtain rfl : args = #[v0, v1, v2, v3] := by cases args; simp_all
  simp only [List.append_nil] at hsz
  have pl0 := arg_plains (ks := (shape Try.prog 9 24).getD []) (by kernel_rfl) h0 (arg_weights (j := 0) hsz rfl rfl)
  obtain ⟨cs0, rfl, pl0⟩ := arg_struct Try.underlying24 (hval 0 24 v0 rfl rfl) pl0
  obtain ⟨x0, u0, xs0, rfl, hx0, hS0, hw0, hb0⟩ := decodeTerms _ pl0
  have pl1 := arg_plains (ks := (shape Try.prog 9 37).getD []) (by kernel_rfl) h1 (arg_weights (j := 1) hsz rfl rfl)
  obtain ⟨xs1, hS1, hw1, hb1⟩ := plain_words (arg_slice Try.underlying37 (hval 1 37 v1 rfl rfl) pl1)
  obtain ⟨a2, rfl, rfl, rfl, wf2⟩ := open_int Try.underlying3 (hval 2 3 v2 rfl rfl) h2
  have pl3 := arg_plains (ks := (shape Try.prog 9 60).getD []) (by kernel_rfl) h3 (arg_weights (j := 3) hsz rfl rfl)
  obtain ⟨cs3, rfl, pl3⟩ := arg_struct Try.underlying60 (hval 3 60 v3 rfl rfl) pl3
  obtain ⟨x3, rfl, hx3⟩ := decodeDebt _ pl3
  exact (walk x0 u0 xs0 v1 xs1 a2 x3 W hx0 hS0 hw0 hb0 hS1 hw1 hb1 hx3).mono fun e W' h => by
    obtain ⟨rfl, hb⟩ := h.grew
    exact ⟨_, rfl, hfin W' hb⟩

theorem over : Rows.vendChargesRow.holds Try.pinned (OpenSpec.ofChange Rows.vendChargesSpec) :=
  OpenClaim.holds_of_wide 7 Try.f7 rfl rfl rfl rfl rfl rfl rfl ⟨rfl, rfl, rfl, rfl, rfl⟩ rfl rfl rfl rfl rfl (by kernel_rfl) Try.func7 (by kernel_rfl)
    (of_decide_eq_true (by kernel_rfl)) (by unfold Func.isWrapper; first | (rw [if_pos (by decide +kernel)]; kernel_rfl) | (rw [if_neg (by decide +kernel)]; exact ⟨rfl, rfl⟩))
    (fun os started H enc _ => lifted os started H enc)

theorem proved : Rows.VendChargesSaid := over
#print axioms proved
end Go.Proofs.Ytenoigmkhlnfoaa.vendCharges
