/- book.Of answers as the reference does, at every argument, and changes none of them. No conditions. -/
import Derived.Test.YtenoigmkhlnfoaaPk00
import Derived.Test.YtenoigmkhlnfoaaPk02
import Derived.Test.YtenoigmkhlnfoaaPk44
import Derived.Test.YtenoigmkhlnfoaaBookOfR
import Derived.Test.YtenoigmkhlnfoaaPk50
import Derived.Test.YtenoigmkhlnfoaaPk51
namespace Go.Proofs.Ytenoigmkhlnfoaa.bookOfs
set_option linter.unusedSimpArgs false
set_option linter.unusedVariables false
open Go.ChangeShapes Go.WideShapes Go.ChangeAt Go.RowKit
set_option maxRecDepth 20000
set_option maxHeartbeats 4000000 in
theorem walk (z : ATerms) (tv : Value) (ts : List AStep) (lv : Value) (l : List AEvent) (w : World) (_hz : z.wf) (ht : Sl w tv 2 ts.length (ts.flatMap AStep.cells)) (_hv : ∀ x ∈ ts, x.wf) (hbt : ts.length * 16 ≤ 140737488351232)
    (hl : Sl w lv 13 l.length (l.flatMap AEvent.cells)) (hlw : ∀ x ∈ l, x.wf) (hbl : l.length * 104 ≤ 140737488351232) :
    Calls Try.prog 3 #[.agg #[tv, I z.feeFix, I z.feeBp, I z.debtBp, I z.allow], lv] w (Grew (.bool true) w) := by
  obtain ⟨f, b, d, al⟩ := z
  have hI : ∀ v ∈ l, I64 v.meter := fun v hv => (hlw v hv).2.1
  have EV := Lib.hid (fun W hW => events_any lv l W hW (by omega))
  have C := Lib.hid (fun W hW => terms_any tv ts f b d al W hW (by omega))
  have P := Lib.hid (fun tv' lv' W h1 h2 => Of_any ⟨ts, f, b, d, al⟩ tv' lv' l W hI h1 h2)
  have R := Lib.hid (fun W h1 h2 => BookOf_any ⟨ts, f, b, d, al⟩ tv lv l W h1 h2)
  have bd := bookR_bd ⟨ts, f, b, d, al⟩ l
  have SE := Lib.hid (fun v1 W h1 h2 => sameEvents_any v1 lv l l W h1 h2)
  have SB := Lib.hid (fun v1 v2 B1 B2 xs ys W h1 h2 => sameBook_any v1 v2 B1 B2 (bookR ⟨ts, f, b, d, al⟩ l).2.2 xs ys W h1 h2 (by omega) (fun c hc => by have := bd.2 c hc; omega))
  unfold BookP at P R
  generalize (bookR ⟨ts, f, b, d, al⟩ l).1 = E at *
  generalize (bookR ⟨ts, f, b, d, al⟩ l).2.1 = pl at *
  generalize (bookR ⟨ts, f, b, d, al⟩ l).2.2 = cs at *
  simp only [GrewTerms, decide_true] at C SE
  clear bd hI hlw _hv
  have k0 := boxed_below w (.cells #[tv, I f, I b, I d, I al] 24)
  have ot := Own.new (w := w) rfl [tv, I f, I b, I d, I al] 24
  have ht0 := ht.below k0
  have hl0 := hl.below k0
  go_enter Try.func3, Try.ntmps3
  go_wp2_with fail
  refine (EV.out _ hl0).mono ?_
  rintro e w1 ⟨cv, rfl, hc, k1⟩
  have ot1 := ot.below k1
  have kk := k0.trans (k1.mono k0.size)
  have n1 : w.heap.size + 1 ≤ w1.heap.size := by have := k1.size; simp at this; omega
  clear k1 k0 ot hl0 ht0
  have OT := Lib.hid ot1
  have tO := ot1
  obtain ⟨⟨t0, tf0⟩, ⟨t1, tf1⟩, ⟨t2, tf2⟩, ⟨t3, tf3⟩, ⟨t4, tf4⟩, -⟩ := tO.a5
  simp only [List.getD_cons_zero, List.getD_cons_succ] at t0 t1 t2 t3 t4
  clear tO
  clear ot1
  go_wp2_with fail
  refine (C.out _ (ht.below kk)).mono ?_
  rintro e w2 ⟨tv2, rfl, ht2, k2⟩
  have hc2 := hc.below k2
  have ot2 := OT.out.below k2
  have kk2 := kk.trans (k2.mono kk.size)
  have n2 := Nat.le_trans n1 k2.size
  clear t0 t1 t2 t3 t4 tf0 tf1 tf2 tf3 tf4 OT kk k2 hc C EV
  obtain ⟨ta2, tc2, rfl, -⟩ := id ht2
  go_wp2_with fail
  refine (P.out _ _ _ ht2 hc2).mono ?_
  rintro e w3 ⟨bv, xs, rfl, hb3, k3⟩
  have hc3 := hc2.below k3
  have ot3 := ot2.below k3
  have kk3 := kk2.trans (k3.mono kk2.size)
  have n3 := Nat.le_trans n2 k3.size
  clear hc2 ot2 kk2 k3 ht2 P n2 n1
  have kA := boxed_below w3 (.cells #[bv] 29)
  have oa := Own.new (w := w3) rfl [bv] 29
  have ot4 := ot3.below kA
  have hc4 := hc3.below kA
  have hb4 := hb3.below kA
  have kk4 := kk3.trans (kA.mono kk3.size)
  have n13 : ¬ w.heap.size = w3.heap.size := by omega
  have HB4 := Lib.hid hb4
  have OA := Lib.hid oa
  have OT := Lib.hid ot4
  have tO := ot4
  obtain ⟨⟨t0, tf0⟩, ⟨t1, tf1⟩, ⟨t2, tf2⟩, ⟨t3, tf3⟩, ⟨t4, tf4⟩, -⟩ := tO.a5
  simp only [List.getD_cons_zero, List.getD_cons_succ] at t0 t1 t2 t3 t4
  clear tO
  clear ot3 hc3 hb3 kk3 kA hb4 oa ot4
  obtain ⟨ba, bc, rfl⟩ : ∃ a c, bv = .slice a cs.length c := book_slice HB4.out
  go_wp2_with fail
  refine (R.out _ (ht.below kk4) (hl.below kk4)).mono ?_
  rintro e w5 ⟨rv, ys, rfl, hr5, k5⟩
  have oa5 := OA.out.below k5
  have hb5 := HB4.out.below k5
  have hc5 := hc4.below k5
  have kk5 := kk4.trans (k5.mono kk4.size)
  have kB := boxed_below w5 (.cells #[rv] 29)
  have ob := Own.new (w := w5) rfl [rv] 29
  have n5 : ¬ w3.heap.size = w5.heap.size := by have := k5.size; simp at this; omega
  have oa6 := oa5.below kB
  have hc6 := hc5.below kB
  have hb6 := hb5.below kB
  have hr6 := hr5.below kB
  have kk6 := kk5.trans (kB.mono kk5.size)
  have HB6 := Lib.hid hb6
  have HR6 := Lib.hid hr6
  have HC6 := Lib.hid hc6
  have KK6 := Lib.hid kk6
  have pO := oa6
  obtain ⟨⟨p0, pf0⟩, -⟩ := pO.a1
  simp only [List.getD_cons_zero] at p0
  clear pO
  have qO := ob
  obtain ⟨⟨q0, qf0⟩, -⟩ := qO.a1
  simp only [List.getD_cons_zero] at q0
  clear qO
  obtain ⟨ra, rc, rfl⟩ : ∃ a c, rv = .slice a cs.length c := book_slice HR6.out
  clear t0 t1 t2 t3 t4 tf0 tf1 tf2 tf3 tf4 hc4 kk4 k5 oa5 hb5 hc5 kk5 kB ob hr5 oa6 hc6 hb6 hr6 kk6 R OA OT HB4
  go_wp2_with fail
  refine (SB.out _ _ _ _ _ _ _ HB6.out HR6.out).mono ?_
  rintro e w7 ⟨rfl, k7⟩
  have kk7 := KK6.out.trans (k7.mono KK6.out.size)
  have hc7 := HC6.out.below k7
  go_wp2_with fail
  refine (SE.out _ _ hc7 (hl.below kk7)).mono ?_
  rintro e w8 ⟨rfl, k8⟩
  have kk8 := kk7.trans (k8.mono kk7.size)
  clear k7 k8 kk7 hc7 p0 pf0 q0 qf0
  go_wp2
  go_ret
  exact Grew.intro (by simp) kk8

set_option maxRecDepth 100000 in
theorem lifted (os : Os) (started : os.Started) (H : Type) (enc : TypeId × Value → H) :
    ReturnsInHanded {} Try.checked os 3 .any (Rows.bookOfsSpec.pre6 enc Try.prog Try.f3 Rows.bookOfsRow.domain false) (Rows.bookOfsSpec.post enc Try.prog Try.f3 false true false false) := by
  refine returnsInHanded_of_change_sized (C := Try.checked) own started (by kernel_rfl) Try.func3
    (ChangeSpec.witness6 (enc := enc) (C := Try.checked) false ⟨#[], #[.agg #[.slice none 0 0, .int .i64 0, .int .i64 0, .int .i64 0, .int .i64 0], .slice none 0 0], []⟩ 8 (by kernel_rfl) (by kernel_rfl) (by kernel_rfl) (by kernel_rfl)) ?_
  intro W base args ds gs before hval hW hcnd hsz _
  have hfin := fun W' => post_true (fn := Try.f3) (s := Rows.bookOfsSpec) (bt := 4) (W' := W') rfl laidOut (by kernel_rfl) Try.underlying4 rfl (fun ds h => by match ds, h with | [_, _], _ => rfl) hW
  have hsz : (DataW.weightsEach Try.prog (Try.f3.params.toList ++ []) (ds ++ gs)).all (· ≤ reachBytes) = true := hsz
  obtain ⟨p, q, hA, hV, rfl, hfz, hnd⟩ := hW
  obtain ⟨rfl, rfl⟩ := trodVars_none hV
  rw [Try.params3] at hA hval hsz
  obtain ⟨v0, vs0, d0, ds0, p0, q0, hargs, rfl, rfl, h0, r0⟩ := trodAll_cons hA
  obtain ⟨v1, vs1, d1, ds1, p1, q1, rfl, rfl, rfl, h1, r1⟩ := trodAll_cons r0
  obtain ⟨rfl, rfl, rfl⟩ := trodAll_nil r1
  obtain rfl : args = #[v0, v1] := by cases args; simp_all
  simp only [List.append_nil] at hsz
  have pl0 := arg_plains (ks := (shape Try.prog 9 24).getD []) (by kernel_rfl) h0 (arg_weights (j := 0) hsz rfl rfl)
  obtain ⟨cs0, rfl, pl0⟩ := arg_struct Try.underlying24 (hval 0 24 v0 rfl rfl) pl0
  obtain ⟨x0, u0, xs0, rfl, hx0, hS0, hw0, hb0⟩ := decodeTerms _ pl0
  have pl1 := arg_plains (ks := (shape Try.prog 9 25).getD []) (by kernel_rfl) h1 (arg_weights (j := 1) hsz rfl rfl)
  obtain ⟨xs1, hS1, hw1, hb1⟩ := plainEvents (arg_slice Try.underlying25 (hval 1 25 v1 rfl rfl) pl1)
  exact (walk x0 u0 xs0 v1 xs1 W hx0 hS0 hw0 hb0 hS1 hw1 hb1).mono fun e W' h => by
    obtain ⟨rfl, hb⟩ := h.grew
    exact ⟨_, rfl, hfin W' hb⟩

theorem over : Rows.bookOfsRow.holds Try.pinned (OpenSpec.ofChange Rows.bookOfsSpec) :=
  OpenClaim.holds_of_wide 3 Try.f3 rfl rfl rfl rfl rfl rfl rfl ⟨rfl, rfl, rfl, rfl, rfl⟩ rfl rfl rfl rfl rfl (by kernel_rfl) Try.func3 (by kernel_rfl)
    (of_decide_eq_true (by kernel_rfl)) (by unfold Func.isWrapper; first | (rw [if_pos (by decide +kernel)]; kernel_rfl) | (rw [if_neg (by decide +kernel)]; exact ⟨rfl, rfl⟩))
    (fun os started H enc _ => lifted os started H enc)

theorem proved : Rows.BookOfsSaid := over
#print axioms proved
end Go.Proofs.Ytenoigmkhlnfoaa.bookOfs
