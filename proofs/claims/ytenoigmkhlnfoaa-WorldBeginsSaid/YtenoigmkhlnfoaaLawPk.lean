/- world.Begin answers as the reference does, at every argument, and changes none of them. No conditions. -/
import Derived.Test.YtenoigmkhlnfoaaLift
import Derived.Test.YtenoigmkhlnfoaaDecodeB
import Derived.Test.YtenoigmkhlnfoaaWorldE
namespace Go.Proofs.Ytenoigmkhlnfoaa.worldBegins
set_option linter.unusedSimpArgs false
set_option linter.unusedVariables false
open Go.ChangeShapes Go.WideShapes Go.ChangeAt Go.RowKit
set_option maxRecDepth 20000
set_option maxHeartbeats 2000000 in
theorem sameOracle0_any (w : World) : Calls Try.prog 46 #[.agg #[.slice none 0 0], .agg #[.slice none 0 0]] w (Grew (.bool true) w) := by
  have o1 := (Own.new (w := w) (g := w.heap.size) (by rfl) [.slice none 0 0] 40).alloc (.cells #[.slice none 0 0] 40)
  have o2 := Own.new (w := (w.alloc (.cells #[.slice none 0 0] 40))) (g := w.heap.size + 1) (by simp) [.slice none 0 0] 40
  have bx0 := boxed_below w (.cells #[.slice none 0 0] 40)
  have kB := bx0.alloc bx0.size (.cells #[.slice none 0 0] 40)
  clear bx0
  have O1 := Lib.hid o1
  have O2 := Lib.hid o2
  have KB := Lib.hid kB
  have pO := o1
  have p0 := pO.c 0; have pf0 := pO.f 0
  (try simp only [List.getD_cons_zero] at p0)
  clear pO
  have qO := o2
  have q0 := qO.c 0; have qf0 := qO.f 0
  (try simp only [List.getD_cons_zero] at q0)
  clear qO
  clear o1 o2 kB
  go_enter Try.func46, Try.ntmps46
  go_wp2
  go_loopw [5] (fun i wr => i = I 0 ∧ Hid (Own wr w.heap.size [.slice none 0 0]) ∧ Hid (Own wr (w.heap.size + 1) [.slice none 0 0]) ∧ Below w.heap.size w wr) (fun _ _ => 0)
  case atStart => exact ⟨rfl, O1, O2, KB.out⟩
  case round =>
    obtain ⟨rfl, q1, q2, hbw⟩ := hrel
    clear p0 pf0 q0 qf0
    have pO := q1.out
    have p0 := pO.c 0; have pf0 := pO.f 0
    (try simp only [List.getD_cons_zero] at p0)
    clear pO
    have qO := q2.out
    have q0 := qO.c 0; have qf0 := qO.f 0
    (try simp only [List.getD_cons_zero] at q0)
    clear qO
    clear O1 O2 KB q1 q2
    go_wp2
    go_ret
    exact Grew.intro rfl hbw
set_option maxHeartbeats 4000000 in
theorem sameWorld_any (ts : List AStep) (f b d al : Int) (xs : List Int) (ps : List (List Int)) (tv1 tv2 dv1 dv2 pv1 pv2 : Value) (us1 us2 : List Value) (w : World) (t1 : Sl w tv1 2 ts.length (ts.flatMap AStep.cells)) (t2 : Sl w tv2 2 ts.length (ts.flatMap AStep.cells))
    (d1 : Sl w dv1 1 xs.length (xs.map U32)) (d2 : Sl w dv2 1 xs.length (xs.map U32)) (p1 : SlRecs w pv1 ps us1) (p2 : SlRecs w pv2 ps us2) (hn : ps.length ≤ 4096) :
    Calls Try.prog 16 #[.agg #[tv1, I f, I b, I d, I al, dv1, .slice none 0 0, pv1], .agg #[tv2, I f, I b, I d, I al, dv2, .slice none 0 0, pv2]] w (Grew (.bool true) w) := by
  have o1 := (Own.new (w := w) (g := w.heap.size) (by rfl) [tv1, I f, I b, I d, I al, dv1, .slice none 0 0, pv1] 43).alloc (.cells #[tv2, I f, I b, I d, I al, dv2, .slice none 0 0, pv2] 43)
  have o2 := Own.new (w := (w.alloc (.cells #[tv1, I f, I b, I d, I al, dv1, .slice none 0 0, pv1] 43))) (g := w.heap.size + 1) (by simp) [tv2, I f, I b, I d, I al, dv2, .slice none 0 0, pv2] 43
  have bx0 := boxed_below w (.cells #[tv1, I f, I b, I d, I al, dv1, .slice none 0 0, pv1] 43)
  have kB := bx0.alloc bx0.size (.cells #[tv2, I f, I b, I d, I al, dv2, .slice none 0 0, pv2] 43)
  clear bx0
  have O1 := Lib.hid o1
  have O2 := Lib.hid o2
  have KB := Lib.hid kB
  have T1 := Lib.hid (t1.below kB)
  have T2 := Lib.hid (t2.below kB)
  have D1 := Lib.hid (d1.below kB)
  have D2 := Lib.hid (d2.below kB)
  have P1 := Lib.hid (p1.below kB)
  have P2 := Lib.hid (p2.below kB)
  have STc := Lib.hid (fun W h1 h2 => sameTerms_any tv1 tv2 ts f b d al W h1 h2)
  have SWc := Lib.hid (fun W h1 h2 => sameWords_any dv1 dv2 xs xs W h1 h2)
  have SRc := Lib.hid (fun W h1 h2 => sameRecS_any pv1 pv2 ps us1 us2 W h1 h2 hn)
  simp only [decide_true] at SWc
  obtain ⟨ta1, tc1, rfl, -⟩ := id t1
  obtain ⟨ta2, tc2, rfl, -⟩ := id t2
  obtain ⟨da1, dc1, rfl, -⟩ := id d1
  obtain ⟨da2, dc2, rfl, -⟩ := id d2
  obtain ⟨pa1, pc1, rfl, -⟩ := id p1.2.1
  obtain ⟨pa2, pc2, rfl, -⟩ := id p2.2.1
  have pO := o1
  have p0 := pO.c 0; have pf0 := pO.f 0; have p1 := pO.c 1; have pf1 := pO.f 1; have p2 := pO.c 2; have pf2 := pO.f 2; have p3 := pO.c 3; have pf3 := pO.f 3; have p4 := pO.c 4; have pf4 := pO.f 4; have p5 := pO.c 5; have pf5 := pO.f 5; have p6 := pO.c 6; have pf6 := pO.f 6; have p7 := pO.c 7; have pf7 := pO.f 7
  (try simp only [List.getD_cons_zero, List.getD_cons_succ] at p0 p1 p2 p3 p4 p5 p6 p7)
  clear pO
  have qO := o2
  have q0 := qO.c 0; have qf0 := qO.f 0; have q1 := qO.c 1; have qf1 := qO.f 1; have q2 := qO.c 2; have qf2 := qO.f 2; have q3 := qO.c 3; have qf3 := qO.f 3; have q4 := qO.c 4; have qf4 := qO.f 4; have q5 := qO.c 5; have qf5 := qO.f 5; have q6 := qO.c 6; have qf6 := qO.f 6; have q7 := qO.c 7; have qf7 := qO.f 7
  (try simp only [List.getD_cons_zero, List.getD_cons_succ] at q0 q1 q2 q3 q4 q5 q6 q7)
  clear qO
  clear o1 o2 kB t1 t2 d1 d2 p1 p2
  go_enter Try.func16, Try.ntmps16
  go_wp2_with fail
  refine (STc.out _ T1.out T2.out).mono ?_
  rintro e w1 ⟨rfl, k1⟩
  have o1 := O1.out.below k1
  have o2 := O2.out.below k1
  have D1 := Lib.hid (D1.out.below k1)
  have D2 := Lib.hid (D2.out.below k1)
  have P1 := Lib.hid (P1.out.below k1)
  have P2 := Lib.hid (P2.out.below k1)
  have KB := Lib.hid (KB.out.trans (k1.mono KB.out.size))
  clear p0 p1 p2 p3 p4 p5 p6 p7 pf0 pf1 pf2 pf3 pf4 pf5 pf6 pf7 q0 q1 q2 q3 q4 q5 q6 q7 qf0 qf1 qf2 qf3 qf4 qf5 qf6 qf7 k1 T1 T2
  have O1 := Lib.hid o1
  have O2 := Lib.hid o2
  have pO := o1
  have p0 := pO.c 0; have pf0 := pO.f 0; have p1 := pO.c 1; have pf1 := pO.f 1; have p2 := pO.c 2; have pf2 := pO.f 2; have p3 := pO.c 3; have pf3 := pO.f 3; have p4 := pO.c 4; have pf4 := pO.f 4; have p5 := pO.c 5; have pf5 := pO.f 5; have p6 := pO.c 6; have pf6 := pO.f 6; have p7 := pO.c 7; have pf7 := pO.f 7
  (try simp only [List.getD_cons_zero, List.getD_cons_succ] at p0 p1 p2 p3 p4 p5 p6 p7)
  clear pO
  have qO := o2
  have q0 := qO.c 0; have qf0 := qO.f 0; have q1 := qO.c 1; have qf1 := qO.f 1; have q2 := qO.c 2; have qf2 := qO.f 2; have q3 := qO.c 3; have qf3 := qO.f 3; have q4 := qO.c 4; have qf4 := qO.f 4; have q5 := qO.c 5; have qf5 := qO.f 5; have q6 := qO.c 6; have qf6 := qO.f 6; have q7 := qO.c 7; have qf7 := qO.f 7
  (try simp only [List.getD_cons_zero, List.getD_cons_succ] at q0 q1 q2 q3 q4 q5 q6 q7)
  clear qO
  clear o1 o2
  go_wp2_with fail
  refine (SWc.out _ D1.out D2.out).mono ?_
  rintro e w2 ⟨rfl, k1⟩
  have o1 := O1.out.below k1
  have o2 := O2.out.below k1
  have P1 := Lib.hid (P1.out.below k1)
  have P2 := Lib.hid (P2.out.below k1)
  have KB := Lib.hid (KB.out.trans (k1.mono KB.out.size))
  clear p0 p1 p2 p3 p4 p5 p6 p7 pf0 pf1 pf2 pf3 pf4 pf5 pf6 pf7 q0 q1 q2 q3 q4 q5 q6 q7 qf0 qf1 qf2 qf3 qf4 qf5 qf6 qf7 k1 D1 D2
  have O1 := Lib.hid o1
  have O2 := Lib.hid o2
  have pO := o1
  have p0 := pO.c 0; have pf0 := pO.f 0; have p1 := pO.c 1; have pf1 := pO.f 1; have p2 := pO.c 2; have pf2 := pO.f 2; have p3 := pO.c 3; have pf3 := pO.f 3; have p4 := pO.c 4; have pf4 := pO.f 4; have p5 := pO.c 5; have pf5 := pO.f 5; have p6 := pO.c 6; have pf6 := pO.f 6; have p7 := pO.c 7; have pf7 := pO.f 7
  (try simp only [List.getD_cons_zero, List.getD_cons_succ] at p0 p1 p2 p3 p4 p5 p6 p7)
  clear pO
  have qO := o2
  have q0 := qO.c 0; have qf0 := qO.f 0; have q1 := qO.c 1; have qf1 := qO.f 1; have q2 := qO.c 2; have qf2 := qO.f 2; have q3 := qO.c 3; have qf3 := qO.f 3; have q4 := qO.c 4; have qf4 := qO.f 4; have q5 := qO.c 5; have qf5 := qO.f 5; have q6 := qO.c 6; have qf6 := qO.f 6; have q7 := qO.c 7; have qf7 := qO.f 7
  (try simp only [List.getD_cons_zero, List.getD_cons_succ] at q0 q1 q2 q3 q4 q5 q6 q7)
  clear qO
  clear o1 o2
  go_wp2_with fail
  refine (sameOracle0_any _).mono ?_
  rintro e w3 ⟨rfl, k1⟩
  have o1 := O1.out.below k1
  have o2 := O2.out.below k1
  have P1 := Lib.hid (P1.out.below k1)
  have P2 := Lib.hid (P2.out.below k1)
  have KB := Lib.hid (KB.out.trans (k1.mono KB.out.size))
  clear p0 p1 p2 p3 p4 p5 p6 p7 pf0 pf1 pf2 pf3 pf4 pf5 pf6 pf7 q0 q1 q2 q3 q4 q5 q6 q7 qf0 qf1 qf2 qf3 qf4 qf5 qf6 qf7 k1
  have pO := o1
  have p0 := pO.c 0; have pf0 := pO.f 0; have p1 := pO.c 1; have pf1 := pO.f 1; have p2 := pO.c 2; have pf2 := pO.f 2; have p3 := pO.c 3; have pf3 := pO.f 3; have p4 := pO.c 4; have pf4 := pO.f 4; have p5 := pO.c 5; have pf5 := pO.f 5; have p6 := pO.c 6; have pf6 := pO.f 6; have p7 := pO.c 7; have pf7 := pO.f 7
  (try simp only [List.getD_cons_zero, List.getD_cons_succ] at p0 p1 p2 p3 p4 p5 p6 p7)
  clear pO
  have qO := o2
  have q0 := qO.c 0; have qf0 := qO.f 0; have q1 := qO.c 1; have qf1 := qO.f 1; have q2 := qO.c 2; have qf2 := qO.f 2; have q3 := qO.c 3; have qf3 := qO.f 3; have q4 := qO.c 4; have qf4 := qO.f 4; have q5 := qO.c 5; have qf5 := qO.f 5; have q6 := qO.c 6; have qf6 := qO.f 6; have q7 := qO.c 7; have qf7 := qO.f 7
  (try simp only [List.getD_cons_zero, List.getD_cons_succ] at q0 q1 q2 q3 q4 q5 q6 q7)
  clear qO
  clear o1 o2
  go_wp2_with fail
  refine (SRc.out _ P1.out P2.out).mono ?_
  rintro e w4 ⟨rfl, k1⟩
  have kk := KB.out.trans (k1.mono KB.out.size)
  clear p0 p1 p2 p3 p4 p5 p6 p7 pf0 pf1 pf2 pf3 pf4 pf5 pf6 pf7 q0 q1 q2 q3 q4 q5 q6 q7 qf0 qf1 qf2 qf3 qf4 qf5 qf6 qf7 k1 P1 P2 KB
  go_wp2
  go_ret
  exact Grew.intro rfl kk
set_option maxHeartbeats 4000000 in
theorem walk (z : ATerms) (tv : Value) (ts : List AStep) (dn me : Int) (w : World) (_hz : z.wf) (ht : Sl w tv 2 ts.length (ts.flatMap AStep.cells)) (_hv : ∀ x ∈ ts, x.wf) (hbt : ts.length * 16 ≤ 140737488351232) :
    Calls Try.prog 4 #[.agg #[tv, I z.feeFix, I z.feeBp, I z.debtBp, I z.allow], I dn, I me] w (Grew (.bool true) w) := by
  obtain ⟨f, b, d, al⟩ := z
  have C := Lib.hid (fun W hW => terms_any tv ts f b d al W hW (by omega))
  have P := Lib.hid (fun tv' W h => WBegin_any ts f b d al dn me tv' W h)
  have R := Lib.hid (fun W h => WBegun_any ts f b d al dn me tv W h)
  have ST := Lib.hid (fun v1 W h1 h2 => sameTerms_any v1 tv ts f b d al W h1 h2)
  unfold WbP at P R
  (try simp only [GrewTerms] at C)
  have k0 := boxed_below w (.cells #[tv, I f, I b, I d, I al] 24)
  have ot := Own.new (w := w) rfl [tv, I f, I b, I d, I al] 24
  have HT := Lib.hid ht
  have OT := Lib.hid ot
  have K0 := Lib.hid k0
  obtain ⟨ta, tc, rfl, -⟩ := id ht
  have tO := ot
  have t0 := tO.c 0; have tf0 := tO.f 0; have t1 := tO.c 1; have tf1 := tO.f 1; have t2 := tO.c 2; have tf2 := tO.f 2; have t3 := tO.c 3; have tf3 := tO.f 3; have t4 := tO.c 4; have tf4 := tO.f 4
  (try simp only [List.getD_cons_zero, List.getD_cons_succ] at t0 t1 t2 t3 t4)
  clear tO
  clear k0 ot ht
  go_enter Try.func4, Try.ntmps4
  go_wp2_with fail
  refine (C.out _ (HT.out.below K0.out)).mono ?_
  rintro e w1 ⟨tv2, rfl, ht2, k1⟩
  have kA := boxed_below w1 (.cells #[tv2, I f, I b, I d, I al] 24)
  have oc := Own.new (w := w1) rfl [tv2, I f, I b, I d, I al] 24
  have ot1 := (OT.out.below k1).below kA
  have hlt1 := (OT.out.below k1).lt
  have kk := (K0.out.trans (k1.mono K0.out.size)).trans (kA.mono (Nat.le_trans K0.out.size k1.size))
  have HT2 := Lib.hid (ht2.below kA)
  have OC := Lib.hid oc
  have OT1 := Lib.hid ot1
  have KK := Lib.hid kk
  obtain ⟨ta2, tc2, rfl, -⟩ := id ht2
  clear t0 t1 t2 t3 t4 tf0 tf1 tf2 tf3 tf4 C OT K0 k1 kA ht2 ot1 kk
  have cO := oc
  have c0 := cO.c 0; have cf0 := cO.f 0; have c1 := cO.c 1; have cf1 := cO.f 1; have c2 := cO.c 2; have cf2 := cO.f 2; have c3 := cO.c 3; have cf3 := cO.f 3; have c4 := cO.c 4; have cf4 := cO.f 4
  (try simp only [List.getD_cons_zero, List.getD_cons_succ] at c0 c1 c2 c3 c4)
  clear cO
  clear oc
  go_wp2_with fail
  refine (P.out _ _ HT2.out).mono ?_
  rintro e w3 hP
  clear c0 c1 c2 c3 c4 cf0 cf1 cf2 cf3 cf4
  by_cases hE : wbE ts f b d al dn me = 0
  · obtain ⟨tv3, dv3, pv3, us3, rfl, s1, s2, s3, k3⟩ := hP.1 hE
    have HE := Lib.hid hE
    have hpn : (wbPks me).length ≤ 4096 := by
      have : inB me 0 50 = true := by
        unfold wbE at hE
        split at hE
        · split at hE
          · split at hE
            · assumption
            · cases hE
          · rename_i h1 h2; exact absurd hE h2
        · rename_i h1; exact absurd hE h1
      have := inB_true.1 this
      unfold wbPks
      simp
      omega
    have kA := boxed_below w3 (.cells #[tv3, I f, I b, I d, I al, dv3, .slice none 0 0, pv3] 43)
    have oa := Own.new (w := w3) rfl [tv3, I f, I b, I d, I al, dv3, .slice none 0 0, pv3] 43
    have oc3 := (OC.out.below k3).below kA
    have ot3 := (OT1.out.below k3).below kA
    have hltT := (OT1.out.below k3).lt
    have hltC := (OC.out.below k3).lt
    have KK3 := Lib.hid ((KK.out.trans (k3.mono KK.out.size)).trans (kA.mono (Nat.le_trans KK.out.size k3.size)))
    have S1 := Lib.hid (s1.below kA)
    have S2 := Lib.hid (s2.below kA)
    have S3 := Lib.hid (s3.below kA)
    have HT3 := Lib.hid ((HT2.out.below k3).below kA)
    have OA := Lib.hid oa
    have OC3 := Lib.hid oc3
    have OT3 := Lib.hid ot3
    obtain ⟨xa, xc, rfl, -⟩ := id s1
    obtain ⟨ya, yc, rfl, -⟩ := id s2
    obtain ⟨za, zc, rfl, -⟩ := id s3.2.1
    have n1 : ¬ w.heap.size = w3.heap.size := by omega
    have n2 : ¬ w1.heap.size = w3.heap.size := by omega
    clear hP hE k3 kA s1 s2 s3 oc3 oa P HT2 OC OT1 KK
    have tO := ot3
    have t0 := tO.c 0; have tf0 := tO.f 0; have t1 := tO.c 1; have tf1 := tO.f 1; have t2 := tO.c 2; have tf2 := tO.f 2; have t3 := tO.c 3; have tf3 := tO.f 3; have t4 := tO.c 4; have tf4 := tO.f 4
    (try simp only [List.getD_cons_zero, List.getD_cons_succ] at t0 t1 t2 t3 t4)
    clear tO
    clear ot3
    go_wp2_with fail
    refine (R.out _ (HT.out.below KK3.out)).mono ?_
    rintro e w5 hQ
    obtain ⟨tv5, dv5, pv5, us5, rfl, r1, r2, r3, k5⟩ := hQ.1 HE.out
    have kB := boxed_below w5 (.cells #[tv5, I f, I b, I d, I al, dv5, .slice none 0 0, pv5] 43)
    have ob := Own.new (w := w5) rfl [tv5, I f, I b, I d, I al, dv5, .slice none 0 0, pv5] 43
    have k5B := k5.trans (kB.mono k5.size)
    have oa5 := OA.out.below k5B
    have OC5 := Lib.hid (OC3.out.below k5B)
    have OT5 := Lib.hid (OT3.out.below k5B)
    have KK5 := Lib.hid (KK3.out.trans (k5B.mono KK3.out.size))
    have HT5 := Lib.hid (HT3.out.below k5B)
    have hlA := (OA.out.below k5).lt
    have n5 : ¬ w3.heap.size = w5.heap.size := by omega
    have SWo := Lib.hid (sameWorld_any ts f b d al (List.replicate (blankN dn) (0 : Int)) (wbPks me) _ _ _ _ _ _ us3 us5 _ (S1.out.below k5B) (r1.below kB) (by rw [List.length_replicate, List.map_replicate]; exact S2.out.below k5B) (by rw [List.length_replicate, List.map_replicate]; exact r2.below kB) (S3.out.below k5B) (r3.below kB) hpn)
    obtain ⟨xa5, xc5, rfl, -⟩ := id r1
    obtain ⟨ya5, yc5, rfl, -⟩ := id r2
    obtain ⟨za5, zc5, rfl, -⟩ := id r3.2.1
    clear t0 t1 t2 t3 t4 tf0 tf1 tf2 tf3 tf4 hQ k5 kB k5B r1 r2 r3 S1 S2 S3 R OA OC3 OT3 KK3 HT3
    have pO := oa5
    have p0 := pO.c 0; have pf0 := pO.f 0; have p1 := pO.c 1; have pf1 := pO.f 1; have p2 := pO.c 2; have pf2 := pO.f 2; have p3 := pO.c 3; have pf3 := pO.f 3; have p4 := pO.c 4; have pf4 := pO.f 4; have p5 := pO.c 5; have pf5 := pO.f 5; have p6 := pO.c 6; have pf6 := pO.f 6; have p7 := pO.c 7; have pf7 := pO.f 7
    (try simp only [List.getD_cons_zero, List.getD_cons_succ] at p0 p1 p2 p3 p4 p5 p6 p7)
    clear pO
    have qO := ob
    have q0 := qO.c 0; have qf0 := qO.f 0; have q1 := qO.c 1; have qf1 := qO.f 1; have q2 := qO.c 2; have qf2 := qO.f 2; have q3 := qO.c 3; have qf3 := qO.f 3; have q4 := qO.c 4; have qf4 := qO.f 4; have q5 := qO.c 5; have qf5 := qO.f 5; have q6 := qO.c 6; have qf6 := qO.f 6; have q7 := qO.c 7; have qf7 := qO.f 7
    (try simp only [List.getD_cons_zero, List.getD_cons_succ] at q0 q1 q2 q3 q4 q5 q6 q7)
    clear qO
    clear oa5 ob
    go_wp2_with fail
    refine SWo.out.mono ?_
    rintro e w6 ⟨rfl, k6⟩
    have KK6 := Lib.hid (KK5.out.trans (k6.mono KK5.out.size))
    have HT6 := Lib.hid (HT5.out.below k6)
    clear p0 p1 p2 p3 p4 p5 p6 p7 pf0 pf1 pf2 pf3 pf4 pf5 pf6 pf7 q0 q1 q2 q3 q4 q5 q6 q7 qf0 qf1 qf2 qf3 qf4 qf5 qf6 qf7
    have tO := OT5.out.below k6
    have t0 := tO.c 0; have tf0 := tO.f 0; have t1 := tO.c 1; have tf1 := tO.f 1; have t2 := tO.c 2; have tf2 := tO.f 2; have t3 := tO.c 3; have tf3 := tO.f 3; have t4 := tO.c 4; have tf4 := tO.f 4
    (try simp only [List.getD_cons_zero, List.getD_cons_succ] at t0 t1 t2 t3 t4)
    clear tO
    have cO := OC5.out.below k6
    have c0 := cO.c 0; have cf0 := cO.f 0; have c1 := cO.c 1; have cf1 := cO.f 1; have c2 := cO.c 2; have cf2 := cO.f 2; have c3 := cO.c 3; have cf3 := cO.f 3; have c4 := cO.c 4; have cf4 := cO.f 4
    (try simp only [List.getD_cons_zero, List.getD_cons_succ] at c0 c1 c2 c3 c4)
    clear cO
    clear k6 OT5 OC5 KK5 HT5 SWo
    go_wp2_with fail
    refine (ST.out _ _ HT6.out (HT.out.below KK6.out)).mono ?_
    rintro e w7 ⟨rfl, k7⟩
    have kk := KK6.out.trans (k7.mono KK6.out.size)
    clear t0 t1 t2 t3 t4 tf0 tf1 tf2 tf3 tf4 c0 c1 c2 c3 c4 cf0 cf1 cf2 cf3 cf4 k7
    go_wp2
    go_ret
    exact Grew.intro (by simp) kk
  · obtain ⟨rfl, k3⟩ := hP.2 hE
    have HE := Lib.hid hE
    have kA := boxed_below w3 (.cells #[.slice none 0 0, I 0, I 0, I 0, I 0, .slice none 0 0, .slice none 0 0, .slice none 0 0] 43)
    have oa := Own.new (w := w3) rfl [.slice none 0 0, I 0, I 0, I 0, I 0, .slice none 0 0, .slice none 0 0, .slice none 0 0] 43
    have oc3 := (OC.out.below k3).below kA
    have ot3 := (OT1.out.below k3).below kA
    have hltT := (OT1.out.below k3).lt
    have hltC := (OC.out.below k3).lt
    have KK3 := Lib.hid ((KK.out.trans (k3.mono KK.out.size)).trans (kA.mono (Nat.le_trans KK.out.size k3.size)))
    have HT3 := Lib.hid ((HT2.out.below k3).below kA)
    have OA := Lib.hid oa
    have OC3 := Lib.hid oc3
    have OT3 := Lib.hid ot3
    have n1 : ¬ w.heap.size = w3.heap.size := by omega
    have n2 : ¬ w1.heap.size = w3.heap.size := by omega
    clear hP hE k3 kA oc3 oa P HT2 OC OT1 KK
    have tO := ot3
    have t0 := tO.c 0; have tf0 := tO.f 0; have t1 := tO.c 1; have tf1 := tO.f 1; have t2 := tO.c 2; have tf2 := tO.f 2; have t3 := tO.c 3; have tf3 := tO.f 3; have t4 := tO.c 4; have tf4 := tO.f 4
    (try simp only [List.getD_cons_zero, List.getD_cons_succ] at t0 t1 t2 t3 t4)
    clear tO
    clear ot3
    generalize wbE ts f b d al dn me = E at *
    go_wp2_with fail
    refine (R.out _ (HT.out.below KK3.out)).mono ?_
    rintro e w5 hQ
    obtain ⟨rfl, k5⟩ := hQ.2 HE.out
    have kB := boxed_below w5 (.cells #[.slice none 0 0, I 0, I 0, I 0, I 0, .slice none 0 0, .slice none 0 0, .slice none 0 0] 43)
    have ob := Own.new (w := w5) rfl [.slice none 0 0, I 0, I 0, I 0, I 0, .slice none 0 0, .slice none 0 0, .slice none 0 0] 43
    have k5B := k5.trans (kB.mono k5.size)
    have oa5 := OA.out.below k5B
    have OC5 := Lib.hid (OC3.out.below k5B)
    have OT5 := Lib.hid (OT3.out.below k5B)
    have KK5 := Lib.hid (KK3.out.trans (k5B.mono KK3.out.size))
    have HT5 := Lib.hid (HT3.out.below k5B)
    have hlA := (OA.out.below k5).lt
    have n5 : ¬ w3.heap.size = w5.heap.size := by omega
    have nl : SlRecs ((w5.alloc (.cells #[.slice none 0 0, I 0, I 0, I 0, I 0, .slice none 0 0, .slice none 0 0, .slice none 0 0] 43))) (.slice none 0 0) [] [] := ⟨rfl, Sl.nil _ _, fun k hk => absurd hk (by simp)⟩
    have SWo := Lib.hid (sameWorld_any [] 0 0 0 0 [] [] (.slice none 0 0) (.slice none 0 0) (.slice none 0 0) (.slice none 0 0) (.slice none 0 0) (.slice none 0 0) [] [] _ (Sl.nil _ _) (Sl.nil _ _) (Sl.nil _ _) (Sl.nil _ _) nl nl (by simp))
    clear t0 t1 t2 t3 t4 tf0 tf1 tf2 tf3 tf4 hQ k5 kB k5B R OA OC3 OT3 KK3 HT3 nl
    have pO := oa5
    have p0 := pO.c 0; have pf0 := pO.f 0; have p1 := pO.c 1; have pf1 := pO.f 1; have p2 := pO.c 2; have pf2 := pO.f 2; have p3 := pO.c 3; have pf3 := pO.f 3; have p4 := pO.c 4; have pf4 := pO.f 4; have p5 := pO.c 5; have pf5 := pO.f 5; have p6 := pO.c 6; have pf6 := pO.f 6; have p7 := pO.c 7; have pf7 := pO.f 7
    (try simp only [List.getD_cons_zero, List.getD_cons_succ] at p0 p1 p2 p3 p4 p5 p6 p7)
    clear pO
    have qO := ob
    have q0 := qO.c 0; have qf0 := qO.f 0; have q1 := qO.c 1; have qf1 := qO.f 1; have q2 := qO.c 2; have qf2 := qO.f 2; have q3 := qO.c 3; have qf3 := qO.f 3; have q4 := qO.c 4; have qf4 := qO.f 4; have q5 := qO.c 5; have qf5 := qO.f 5; have q6 := qO.c 6; have qf6 := qO.f 6; have q7 := qO.c 7; have qf7 := qO.f 7
    (try simp only [List.getD_cons_zero, List.getD_cons_succ] at q0 q1 q2 q3 q4 q5 q6 q7)
    clear qO
    clear oa5 ob
    go_wp2_with fail
    refine SWo.out.mono ?_
    rintro e w6 ⟨rfl, k6⟩
    have KK6 := Lib.hid (KK5.out.trans (k6.mono KK5.out.size))
    have HT6 := Lib.hid (HT5.out.below k6)
    clear p0 p1 p2 p3 p4 p5 p6 p7 pf0 pf1 pf2 pf3 pf4 pf5 pf6 pf7 q0 q1 q2 q3 q4 q5 q6 q7 qf0 qf1 qf2 qf3 qf4 qf5 qf6 qf7
    have tO := OT5.out.below k6
    have t0 := tO.c 0; have tf0 := tO.f 0; have t1 := tO.c 1; have tf1 := tO.f 1; have t2 := tO.c 2; have tf2 := tO.f 2; have t3 := tO.c 3; have tf3 := tO.f 3; have t4 := tO.c 4; have tf4 := tO.f 4
    (try simp only [List.getD_cons_zero, List.getD_cons_succ] at t0 t1 t2 t3 t4)
    clear tO
    have cO := OC5.out.below k6
    have c0 := cO.c 0; have cf0 := cO.f 0; have c1 := cO.c 1; have cf1 := cO.f 1; have c2 := cO.c 2; have cf2 := cO.f 2; have c3 := cO.c 3; have cf3 := cO.f 3; have c4 := cO.c 4; have cf4 := cO.f 4
    (try simp only [List.getD_cons_zero, List.getD_cons_succ] at c0 c1 c2 c3 c4)
    clear cO
    clear k6 OT5 OC5 KK5 HT5 SWo
    go_wp2_with fail
    refine (ST.out _ _ HT6.out (HT.out.below KK6.out)).mono ?_
    rintro e w7 ⟨rfl, k7⟩
    have kk := KK6.out.trans (k7.mono KK6.out.size)
    clear t0 t1 t2 t3 t4 tf0 tf1 tf2 tf3 tf4 c0 c1 c2 c3 c4 cf0 cf1 cf2 cf3 cf4 k7
    go_wp2
    go_ret
    exact Grew.intro (by simp) kk

set_option maxRecDepth 100000 in
theorem lifted (os : Os) (started : os.Started) (H : Type) (enc : TypeId × Value → H) :
    ReturnsInHanded {} Try.checked os 4 .any (Rows.worldBeginsSpec.pre6 enc Try.prog Try.f4 Rows.worldBeginsRow.domain false) (Rows.worldBeginsSpec.post enc Try.prog Try.f4 false true false false) := by
  refine returnsInHanded_of_change_sized (C := Try.checked) own started (by kernel_rfl) Try.func4
    (ChangeSpec.witness6 (enc := enc) (C := Try.checked) false ⟨#[], #[.agg #[.slice none 0 0, .int .i64 0, .int .i64 0, .int .i64 0, .int .i64 0], .int .i64 0, .int .i64 0], []⟩ 8 (by kernel_rfl) (by kernel_rfl) (by kernel_rfl) (by kernel_rfl)) ?_
  intro W base args ds gs before hval hW hcnd hsz _
  have hfin := fun W' => post_true (fn := Try.f4) (s := Rows.worldBeginsSpec) (bt := 4) (W' := W') rfl laidOut (by kernel_rfl) Try.underlying4 rfl (fun ds h => by match ds, h with | [_, _, _], _ => rfl) hW
  have hsz : (DataW.weightsEach Try.prog (Try.f4.params.toList ++ []) (ds ++ gs)).all (· ≤ reachBytes) = true := hsz
  obtain ⟨p, q, hA, hV, rfl, hfz, hnd⟩ := hW
  obtain ⟨rfl, rfl⟩ := trodVars_none hV
  rw [Try.params4] at hA hval hsz
  obtain ⟨v0, vs0, d0, ds0, p0, q0, hargs, rfl, rfl, h0, r0⟩ := trodAll_cons hA
  obtain ⟨v1, vs1, d1, ds1, p1, q1, rfl, rfl, rfl, h1, r1⟩ := trodAll_cons r0
  obtain ⟨v2, vs2, d2, ds2, p2, q2, rfl, rfl, rfl, h2, r2⟩ := trodAll_cons r1
  obtain ⟨rfl, rfl, rfl⟩ := trodAll_nil r2
  obtain rfl : args = #[v0, v1, v2] := by cases args; simp_all
  simp only [List.append_nil] at hsz
  have pl0 := arg_plains (ks := (shape Try.prog 9 24).getD []) (by kernel_rfl) h0 (arg_weights (j := 0) hsz rfl rfl)
  obtain ⟨cs0, rfl, pl0⟩ := arg_struct Try.underlying24 (hval 0 24 v0 rfl rfl) pl0
  obtain ⟨x0, u0, xs0, rfl, hx0, hS0, hw0, hb0⟩ := decodeTerms _ pl0
  obtain ⟨a1, rfl, rfl, rfl, wf1⟩ := open_int Try.underlying3 (hval 1 3 v1 rfl rfl) h1
  obtain ⟨a2, rfl, rfl, rfl, wf2⟩ := open_int Try.underlying3 (hval 2 3 v2 rfl rfl) h2
  exact (walk x0 u0 xs0 a1 a2 W hx0 hS0 hw0 hb0).mono fun e W' h => by
    obtain ⟨rfl, hb⟩ := h.grew
    exact ⟨_, rfl, hfin W' hb⟩

theorem over : Rows.worldBeginsRow.holds Try.pinned (OpenSpec.ofChange Rows.worldBeginsSpec) :=
  OpenClaim.holds_of_wide 4 Try.f4 rfl rfl rfl rfl rfl rfl rfl ⟨rfl, rfl, rfl, rfl, rfl⟩ rfl rfl rfl rfl rfl (by kernel_rfl) Try.func4 (by kernel_rfl)
    (of_decide_eq_true (by kernel_rfl)) (by unfold Func.isWrapper; first | (rw [if_pos (by decide +kernel)]; kernel_rfl) | (rw [if_neg (by decide +kernel)]; exact ⟨rfl, rfl⟩))
    (fun os started H enc _ => lifted os started H enc)

theorem proved : Rows.WorldBeginsSaid := over
#print axioms proved
end Go.Proofs.Ytenoigmkhlnfoaa.worldBegins
