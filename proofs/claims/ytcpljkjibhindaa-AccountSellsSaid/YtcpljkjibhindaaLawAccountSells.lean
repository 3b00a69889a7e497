/- account.Sell answers as the reference does, at every argument, and changes none of them. No conditions. -/
import Derived.Test.YtcpljkjibhindaaLift
import Derived.Test.YtcpljkjibhindaaDecodeB
import Derived.Test.YtcpljkjibhindaaSoldForT
import Derived.Test.YtcpljkjibhindaaEqBill
namespace Go.Proofs.Ytcpljkjibhindaa.accountSells
open Go.ChangeShapes Go.WideShapes Go.ChangeAt Go.RowKit
set_option maxRecDepth 20000
set_option maxHeartbeats 6000000 in
theorem walk (x : AAcc) (u : Value) (xs : List ADebt) (z : ATerms) (tv : Value) (ts : List AStep) (t m : Int) (w : World) (_hx : x.wf) (h : Sl w u 2 xs.length (xs.flatMap ADebt.cells)) (_hw : ∀ x ∈ xs, x.wf) (hby : xs.length * 16 ≤ 140737488351232) (_hz : z.wf) (ht : Sl w tv 2 ts.length (ts.flatMap AStep.cells)) (_hv : ∀ x ∈ ts, x.wf) (hbt : ts.length * 16 ≤ 140737488351232) :
    Calls Try.prog 13 #[.agg #[I x.meter, I x.rev, I x.next, I x.month, I x.bought, I x.free, u], .agg #[tv, I z.feeFix, I z.feeBp, I z.debtBp, I z.allow], I t, I m] w (Grew (.bool true) w) := by
  obtain ⟨f, b, d, al⟩ := z
  have A := Lib.hid (fun W hW => accounts_any x u xs W hW (by omega))
  have C := Lib.hid (fun W hW => terms_any tv ts f b d al W hW (by omega))
  have T := Lib.hid (fun v s W hW hs => Sell_any x v s xs ts f b d al t m W hW hs)
  have R := Lib.hid (fun W hW hs => SoldFor_any x u tv xs ts f b d al t m W hW hs)
  have S0 := Lib.hid (fun v1 v2 W h1 h2 => sameAccount_any x v1 v2 xs W h1 h2)
  have ST := Lib.hid (fun v1 v2 W h1 h2 => sameTerms_any v1 v2 ts f b d al W h1 h2)
  generalize soldE x xs ts f b d al t m = E at *
  generalize soldX x xs ts f b d t m E = y at *
  generalize soldL x xs d t m E = ys at *
  generalize soldB x xs ts f b d t m E = bl at *
  have S := Lib.hid (fun v1 v2 W h1 h2 => sameAccount_any y v1 v2 ys W h1 h2)
  have B := fun w => eqlBill_run bl bl w
  obtain ⟨x1, x2, x3, x4, x5, x6⟩ := x
  obtain ⟨y1, y2, y3, y4, y5, y6⟩ := y
  obtain ⟨b1, b2, b3, b4, b5, b6, b7⟩ := bl
  simp only [GrewAccB, GrewAccBF, GrewAcc1, GrewTerms, eq_self, decide_true] at A T R S0 S ST B C ⊢
  have kz := boxed_below w (.cells #[I x1, I x2, I x3, I x4, I x5, I x6, u] 39)
  have k0 := kz.alloc kz.size (.cells #[tv, I f, I b, I d, I al] 55)
  have ox := (Own.new (w := w) rfl [I x1, I x2, I x3, I x4, I x5, I x6, u] 39).alloc (.cells #[tv, I f, I b, I d, I al] 55)
  have ot := Own.new (w := w.alloc (.cells #[I x1, I x2, I x3, I x4, I x5, I x6, u] 39)) (g := w.heap.size + 1) (by simp) [tv, I f, I b, I d, I al] 55
  have g0 := h.below k0
  obtain ⟨a0, p0, rfl, -⟩ := id h
  obtain ⟨at0, pt0, rfl, -⟩ := id ht
  go_enter Try.func13, Try.ntmps13
  go_wp2_with fail
  refine (A.out _ g0).mono ?_
  rintro e w1 ⟨v1, rfl, s1, k1⟩
  obtain ⟨a1, p1, rfl, -⟩ := id s1
  have kA := boxed_below w1 (.cells #[I x1, I x2, I x3, I x4, I x5, I x6, .slice a1 xs.length p1] 39)
  have ox1 := (ox.below k1).below kA
  have ot1 := (ot.below k1).below kA
  have oc1 := Own.new (w := w1) rfl [I x1, I x2, I x3, I x4, I x5, I x6, .slice a1 xs.length p1] 39
  have k := (k0.trans (k1.mono k0.size)).trans (kA.mono (Nat.le_trans k0.size k1.size))
  have z1 : w.heap.size + 2 ≤ w1.heap.size := by have := k1.size; simp at this; omega
  have s1 := s1.below kA
  clear ox ot k1 k0 kz g0 kA
  have ttO := ot1
  have tt0 := ttO.cell 0 (by simp)
  have ttf0 := ttO.frozen 0
  have tt1 := ttO.cell 1 (by simp)
  have ttf1 := ttO.frozen 1
  have tt2 := ttO.cell 2 (by simp)
  have ttf2 := ttO.frozen 2
  have tt3 := ttO.cell 3 (by simp)
  have ttf3 := ttO.frozen 3
  have tt4 := ttO.cell 4 (by simp)
  have ttf4 := ttO.frozen 4
  simp only [Nat.zero_add, List.getD_cons_zero, List.getD_cons_succ] at tt0 tt1 tt2 tt3 tt4
  clear ttO
  have n10 : ¬ w.heap.size + 1 = w1.heap.size := by omega
  have l1 : w.heap.size + 1 < w1.heap.size := by omega
  go_wp2_with fail
  refine (C.out _ (ht.below k)).mono ?_
  rintro e w2 ⟨v2, rfl, s2, k2⟩
  obtain ⟨a2, p2, rfl, -⟩ := id s2
  have kA := boxed_below w2 (.cells #[.slice a2 ts.length p2, I f, I b, I d, I al] 55)
  have ox2 := (ox1.below k2).below kA
  have ot2 := (ot1.below k2).below kA
  have oc2 := (oc1.below k2).below kA
  have ou2 := Own.new (w := w2) rfl [.slice a2 ts.length p2, I f, I b, I d, I al] 55
  have z2 : w1.heap.size + 1 ≤ w2.heap.size := by have := k2.size; simp at this; omega
  have kk := (k.trans (k2.mono k.size)).trans (kA.mono (Nat.le_trans k.size k2.size))
  have s1 := (s1.below k2).below kA
  have s2 := s2.below kA
  clear ox1 ot1 oc1 k k2 kA tt0 tt1 tt2 tt3 tt4 ttf0 ttf1 ttf2 ttf3 ttf4
  have ccO := oc2
  have cc0 := ccO.cell 0 (by simp)
  have ccf0 := ccO.frozen 0
  have cc1 := ccO.cell 1 (by simp)
  have ccf1 := ccO.frozen 1
  have cc2 := ccO.cell 2 (by simp)
  have ccf2 := ccO.frozen 2
  have cc3 := ccO.cell 3 (by simp)
  have ccf3 := ccO.frozen 3
  have cc4 := ccO.cell 4 (by simp)
  have ccf4 := ccO.frozen 4
  have cc5 := ccO.cell 5 (by simp)
  have ccf5 := ccO.frozen 5
  have cc6 := ccO.cell 6 (by simp)
  have ccf6 := ccO.frozen 6
  simp only [Nat.zero_add, List.getD_cons_zero, List.getD_cons_succ] at cc0 cc1 cc2 cc3 cc4 cc5 cc6
  clear ccO
  have qqO := ou2
  have qq0 := qqO.cell 0 (by simp)
  have qqf0 := qqO.frozen 0
  have qq1 := qqO.cell 1 (by simp)
  have qqf1 := qqO.frozen 1
  have qq2 := qqO.cell 2 (by simp)
  have qqf2 := qqO.frozen 2
  have qq3 := qqO.cell 3 (by simp)
  have qqf3 := qqO.frozen 3
  have qq4 := qqO.cell 4 (by simp)
  have qqf4 := qqO.frozen 4
  simp only [Nat.zero_add, List.getD_cons_zero, List.getD_cons_succ] at qq0 qq1 qq2 qq3 qq4
  clear qqO
  have n21 : ¬ w1.heap.size = w2.heap.size := by omega
  have l2 : w1.heap.size < w2.heap.size := by omega
  go_wp2_with fail
  refine (T.out _ _ _ s1 s2).mono ?_
  rintro e w3 ⟨v3, rfl, s3, k3, -⟩
  obtain ⟨a3, p3, rfl, -⟩ := id s3
  have kA := (boxed_below w3 (.cells #[I y1, I y2, I y3, I y4, I y5, I y6, .slice a3 ys.length p3] 39)).alloc (by simp) (.cells #[I b1, I b2, I b3, I b4, I b5, I b6, I b7] 50)
  have ox3 := (ox2.below k3).below kA
  have ot3 := (ot2.below k3).below kA
  have oc3 := (oc2.below k3).below kA
  have ou3 := (ou2.below k3).below kA
  have oa3 := (Own.new (w := w3) rfl [I y1, I y2, I y3, I y4, I y5, I y6, .slice a3 ys.length p3] 39).alloc (.cells #[I b1, I b2, I b3, I b4, I b5, I b6, I b7] 50)
  have om3 := Own.new (w := w3.alloc (.cells #[I y1, I y2, I y3, I y4, I y5, I y6, .slice a3 ys.length p3] 39)) (g := w3.heap.size + 1) (by simp) [I b1, I b2, I b3, I b4, I b5, I b6, I b7] 50
  have z3 : w2.heap.size + 1 ≤ w3.heap.size := by have := k3.size; simp at this; omega
  have k := (kk.trans (k3.mono kk.size)).trans (kA.mono (Nat.le_trans kk.size k3.size))
  have s1 := (s1.below k3).below kA
  have s2 := (s2.below k3).below kA
  have s3 := s3.below kA
  clear ox2 ot2 oc2 ou2 kk k3 kA cc0 cc1 cc2 cc3 cc4 cc5 cc6 ccf0 ccf1 ccf2 ccf3 ccf4 ccf5 ccf6 qq0 qq1 qq2 qq3 qq4 qqf0 qqf1 qqf2 qqf3 qqf4
  have xxO := ox3
  have xx0 := xxO.cell 0 (by simp)
  have xxf0 := xxO.frozen 0
  have xx1 := xxO.cell 1 (by simp)
  have xxf1 := xxO.frozen 1
  have xx2 := xxO.cell 2 (by simp)
  have xxf2 := xxO.frozen 2
  have xx3 := xxO.cell 3 (by simp)
  have xxf3 := xxO.frozen 3
  have xx4 := xxO.cell 4 (by simp)
  have xxf4 := xxO.frozen 4
  have xx5 := xxO.cell 5 (by simp)
  have xxf5 := xxO.frozen 5
  have xx6 := xxO.cell 6 (by simp)
  have xxf6 := xxO.frozen 6
  simp only [Nat.zero_add, List.getD_cons_zero, List.getD_cons_succ] at xx0 xx1 xx2 xx3 xx4 xx5 xx6
  clear xxO
  have ttO := ot3
  have tt0 := ttO.cell 0 (by simp)
  have ttf0 := ttO.frozen 0
  have tt1 := ttO.cell 1 (by simp)
  have ttf1 := ttO.frozen 1
  have tt2 := ttO.cell 2 (by simp)
  have ttf2 := ttO.frozen 2
  have tt3 := ttO.cell 3 (by simp)
  have ttf3 := ttO.frozen 3
  have tt4 := ttO.cell 4 (by simp)
  have ttf4 := ttO.frozen 4
  simp only [Nat.zero_add, List.getD_cons_zero, List.getD_cons_succ] at tt0 tt1 tt2 tt3 tt4
  clear ttO
  have n30 : ¬ w.heap.size = w3.heap.size := by omega
  have n31 : ¬ w.heap.size + 1 = w3.heap.size := by omega
  have n32 : ¬ w.heap.size = w3.heap.size + 1 := by omega
  have n33 : ¬ w.heap.size = w3.heap.size := by omega
  have l3 : w.heap.size < w3.heap.size := by omega
  have l31 : w.heap.size + 1 < w3.heap.size := by omega
  go_wp2_with fail
  refine (R.out _ (h.below k) (ht.below k)).mono ?_
  rintro e w4 ⟨v4, rfl, s4, k4⟩
  obtain ⟨a4, p4, rfl, -⟩ := id s4
  have kA := (boxed_below w4 (.cells #[I y1, I y2, I y3, I y4, I y5, I y6, .slice a4 ys.length p4] 39)).alloc (by simp) (.cells #[I b1, I b2, I b3, I b4, I b5, I b6, I b7] 50)
  have ox4 := (ox3.below k4).below kA
  have ot4 := (ot3.below k4).below kA
  have oc4 := (oc3.below k4).below kA
  have ou4 := (ou3.below k4).below kA
  have oa4 := (oa3.below k4).below kA
  have om4 := (om3.below k4).below kA
  have ob4 := (Own.new (w := w4) rfl [I y1, I y2, I y3, I y4, I y5, I y6, .slice a4 ys.length p4] 39).alloc (.cells #[I b1, I b2, I b3, I b4, I b5, I b6, I b7] 50)
  have on4 := Own.new (w := w4.alloc (.cells #[I y1, I y2, I y3, I y4, I y5, I y6, .slice a4 ys.length p4] 39)) (g := w4.heap.size + 1) (by simp) [I b1, I b2, I b3, I b4, I b5, I b6, I b7] 50
  have z4 : w3.heap.size + 2 ≤ w4.heap.size := by have := k4.size; simp at this; omega
  have kk := (k.trans (k4.mono k.size)).trans (kA.mono (Nat.le_trans k.size k4.size))
  have s1 := (s1.below k4).below kA
  have s2 := (s2.below k4).below kA
  have s3 := (s3.below k4).below kA
  have s4 := s4.below kA
  clear ox3 ot3 oc3 ou3 oa3 om3 k k4 kA xx0 xx1 xx2 xx3 xx4 xx5 xx6 xxf0 xxf1 xxf2 xxf3 xxf4 xxf5 xxf6 tt0 tt1 tt2 tt3 tt4 ttf0 ttf1 ttf2 ttf3 ttf4
  have aaO := oa4
  have aa0 := aaO.cell 0 (by simp)
  have aaf0 := aaO.frozen 0
  have aa1 := aaO.cell 1 (by simp)
  have aaf1 := aaO.frozen 1
  have aa2 := aaO.cell 2 (by simp)
  have aaf2 := aaO.frozen 2
  have aa3 := aaO.cell 3 (by simp)
  have aaf3 := aaO.frozen 3
  have aa4 := aaO.cell 4 (by simp)
  have aaf4 := aaO.frozen 4
  have aa5 := aaO.cell 5 (by simp)
  have aaf5 := aaO.frozen 5
  have aa6 := aaO.cell 6 (by simp)
  have aaf6 := aaO.frozen 6
  simp only [Nat.zero_add, List.getD_cons_zero, List.getD_cons_succ] at aa0 aa1 aa2 aa3 aa4 aa5 aa6
  clear aaO
  have mmO := om4
  have mm0 := mmO.cell 0 (by simp)
  have mmf0 := mmO.frozen 0
  have mm1 := mmO.cell 1 (by simp)
  have mmf1 := mmO.frozen 1
  have mm2 := mmO.cell 2 (by simp)
  have mmf2 := mmO.frozen 2
  have mm3 := mmO.cell 3 (by simp)
  have mmf3 := mmO.frozen 3
  have mm4 := mmO.cell 4 (by simp)
  have mmf4 := mmO.frozen 4
  have mm5 := mmO.cell 5 (by simp)
  have mmf5 := mmO.frozen 5
  have mm6 := mmO.cell 6 (by simp)
  have mmf6 := mmO.frozen 6
  simp only [Nat.zero_add, List.getD_cons_zero, List.getD_cons_succ] at mm0 mm1 mm2 mm3 mm4 mm5 mm6
  clear mmO
  have bbO := ob4
  have bb0 := bbO.cell 0 (by simp)
  have bbf0 := bbO.frozen 0
  have bb1 := bbO.cell 1 (by simp)
  have bbf1 := bbO.frozen 1
  have bb2 := bbO.cell 2 (by simp)
  have bbf2 := bbO.frozen 2
  have bb3 := bbO.cell 3 (by simp)
  have bbf3 := bbO.frozen 3
  have bb4 := bbO.cell 4 (by simp)
  have bbf4 := bbO.frozen 4
  have bb5 := bbO.cell 5 (by simp)
  have bbf5 := bbO.frozen 5
  have bb6 := bbO.cell 6 (by simp)
  have bbf6 := bbO.frozen 6
  simp only [Nat.zero_add, List.getD_cons_zero, List.getD_cons_succ] at bb0 bb1 bb2 bb3 bb4 bb5 bb6
  clear bbO
  have nnO := on4
  have nn0 := nnO.cell 0 (by simp)
  have nnf0 := nnO.frozen 0
  have nn1 := nnO.cell 1 (by simp)
  have nnf1 := nnO.frozen 1
  have nn2 := nnO.cell 2 (by simp)
  have nnf2 := nnO.frozen 2
  have nn3 := nnO.cell 3 (by simp)
  have nnf3 := nnO.frozen 3
  have nn4 := nnO.cell 4 (by simp)
  have nnf4 := nnO.frozen 4
  have nn5 := nnO.cell 5 (by simp)
  have nnf5 := nnO.frozen 5
  have nn6 := nnO.cell 6 (by simp)
  have nnf6 := nnO.frozen 6
  simp only [Nat.zero_add, List.getD_cons_zero, List.getD_cons_succ] at nn0 nn1 nn2 nn3 nn4 nn5 nn6
  clear nnO
  have n40 : ¬ w3.heap.size = w4.heap.size := by omega
  have n41 : ¬ w3.heap.size + 1 = w4.heap.size := by omega
  have n42 : ¬ w3.heap.size = w4.heap.size + 1 := by omega
  have n43 : ¬ w3.heap.size + 1 = w4.heap.size + 1 := by omega
  have l4 : w3.heap.size < w4.heap.size := by omega
  have l41 : w3.heap.size + 1 < w4.heap.size := by omega
  go_wp2_with fail
  refine (S.out _ _ _ s3 s4).mono ?_
  rintro e w5 ⟨rfl, k5⟩
  have k := kk.trans (k5.mono kk.size)
  have s1 := s1.below k5
  have s2 := s2.below k5
  have oc5 := oc4.below k5
  have ox5 := ox4.below k5
  have ou5 := ou4.below k5
  have ot5 := ot4.below k5
  clear kk k5 ox4 ot4 oc4 ou4 oa4 om4 ob4 on4 aa0 aa1 aa2 aa3 aa4 aa5 aa6 aaf0 aaf1 aaf2 aaf3 aaf4 aaf5 aaf6 mm0 mm1 mm2 mm3 mm4 mm5 mm6 mmf0 mmf1 mmf2 mmf3 mmf4 mmf5 mmf6 bb0 bb1 bb2 bb3 bb4 bb5 bb6 bbf0 bbf1 bbf2 bbf3 bbf4 bbf5 bbf6 nn0 nn1 nn2 nn3 nn4 nn5 nn6 nnf0 nnf1 nnf2 nnf3 nnf4 nnf5 nnf6
  have ccO := oc5
  have cc0 := ccO.cell 0 (by simp)
  have ccf0 := ccO.frozen 0
  have cc1 := ccO.cell 1 (by simp)
  have ccf1 := ccO.frozen 1
  have cc2 := ccO.cell 2 (by simp)
  have ccf2 := ccO.frozen 2
  have cc3 := ccO.cell 3 (by simp)
  have ccf3 := ccO.frozen 3
  have cc4 := ccO.cell 4 (by simp)
  have ccf4 := ccO.frozen 4
  have cc5 := ccO.cell 5 (by simp)
  have ccf5 := ccO.frozen 5
  have cc6 := ccO.cell 6 (by simp)
  have ccf6 := ccO.frozen 6
  simp only [Nat.zero_add, List.getD_cons_zero, List.getD_cons_succ] at cc0 cc1 cc2 cc3 cc4 cc5 cc6
  clear ccO
  have xxO := ox5
  have xx0 := xxO.cell 0 (by simp)
  have xxf0 := xxO.frozen 0
  have xx1 := xxO.cell 1 (by simp)
  have xxf1 := xxO.frozen 1
  have xx2 := xxO.cell 2 (by simp)
  have xxf2 := xxO.frozen 2
  have xx3 := xxO.cell 3 (by simp)
  have xxf3 := xxO.frozen 3
  have xx4 := xxO.cell 4 (by simp)
  have xxf4 := xxO.frozen 4
  have xx5 := xxO.cell 5 (by simp)
  have xxf5 := xxO.frozen 5
  have xx6 := xxO.cell 6 (by simp)
  have xxf6 := xxO.frozen 6
  simp only [Nat.zero_add, List.getD_cons_zero, List.getD_cons_succ] at xx0 xx1 xx2 xx3 xx4 xx5 xx6
  clear xxO
  go_wp2_with fail
  refine (S0.out _ _ _ s1 (h.below k)).mono ?_
  rintro e w6 ⟨rfl, k6⟩
  have kk := k.trans (k6.mono k.size)
  have s2 := s2.below k6
  clear cc0 cc1 cc2 cc3 cc4 cc5 cc6 ccf0 ccf1 ccf2 ccf3 ccf4 ccf5 ccf6 xx0 xx1 xx2 xx3 xx4 xx5 xx6 xxf0 xxf1 xxf2 xxf3 xxf4 xxf5 xxf6 k
  have qqO := ou5.below k6
  have qq0 := qqO.cell 0 (by simp)
  have qqf0 := qqO.frozen 0
  have qq1 := qqO.cell 1 (by simp)
  have qqf1 := qqO.frozen 1
  have qq2 := qqO.cell 2 (by simp)
  have qqf2 := qqO.frozen 2
  have qq3 := qqO.cell 3 (by simp)
  have qqf3 := qqO.frozen 3
  have qq4 := qqO.cell 4 (by simp)
  have qqf4 := qqO.frozen 4
  simp only [Nat.zero_add, List.getD_cons_zero, List.getD_cons_succ] at qq0 qq1 qq2 qq3 qq4
  clear qqO
  have ttO := ot5.below k6
  have tt0 := ttO.cell 0 (by simp)
  have ttf0 := ttO.frozen 0
  have tt1 := ttO.cell 1 (by simp)
  have ttf1 := ttO.frozen 1
  have tt2 := ttO.cell 2 (by simp)
  have ttf2 := ttO.frozen 2
  have tt3 := ttO.cell 3 (by simp)
  have ttf3 := ttO.frozen 3
  have tt4 := ttO.cell 4 (by simp)
  have ttf4 := ttO.frozen 4
  simp only [Nat.zero_add, List.getD_cons_zero, List.getD_cons_succ] at tt0 tt1 tt2 tt3 tt4
  clear ttO
  go_wp2_with fail
  refine (ST.out _ _ _ s2 (ht.below kk)).mono ?_
  rintro e w7 ⟨rfl, k7⟩
  have k := kk.trans (k7.mono kk.size)
  clear qq0 qq1 qq2 qq3 qq4 tt0 tt1 tt2 tt3 tt4
  go_wp2
  go_ret
  exact Grew.intro (by simp) k

set_option maxRecDepth 100000 in
theorem lifted (os : Os) (started : os.Started) (H : Type) (enc : TypeId × Value → H) :
    ReturnsInHanded {} Try.checked os 13 .any (Rows.accountSellsSpec.pre6 enc Try.prog Try.f13 Rows.accountSellsRow.domain false) (Rows.accountSellsSpec.post enc Try.prog Try.f13 false true false false) := by
  refine returnsInHanded_of_change_sized (C := Try.checked) own started (by kernel_rfl) Try.func13
    (ChangeSpec.witness6 (enc := enc) (C := Try.checked) false ⟨#[], #[.agg #[.int .i64 0, .int .i64 0, .int .i64 0, .int .i64 0, .int .i64 0, .int .i64 0, .slice none 0 0], .agg #[.slice none 0 0, .int .i64 0, .int .i64 0, .int .i64 0, .int .i64 0], .int .i64 0, .int .i64 0], []⟩ 8 (by kernel_rfl) (by kernel_rfl) (by kernel_rfl) (by kernel_rfl)) ?_
  intro W base args ds gs before hval hW hcnd hsz _
  have hfin := fun W' => post_true (fn := Try.f13) (s := Rows.accountSellsSpec) (bt := 4) (W' := W') rfl laidOut (by kernel_rfl) Try.underlying4 rfl (fun ds h => by match ds, h with | [_, _, _, _], _ => rfl) hW
  have hsz : (DataW.weightsEach Try.prog (Try.f13.params.toList ++ []) (ds ++ gs)).all (· ≤ reachBytes) = true := hsz
  obtain ⟨p, q, hA, hV, rfl, hfz, hnd⟩ := hW
  obtain ⟨rfl, rfl⟩ := trodVars_none hV
  rw [Try.params13] at hA hval hsz
  obtain ⟨v0, vs0, d0, ds0, p0, q0, hargs, rfl, rfl, h0, r0⟩ := trodAll_cons hA
  obtain ⟨v1, vs1, d1, ds1, p1, q1, rfl, rfl, rfl, h1, r1⟩ := trodAll_cons r0
  obtain ⟨v2, vs2, d2, ds2, p2, q2, rfl, rfl, rfl, h2, r2⟩ := trodAll_cons r1
  obtain ⟨v3, vs3, d3, ds3, p3, q3, rfl, rfl, rfl, h3, r3⟩ := trodAll_cons r2
  obtain ⟨rfl, rfl, rfl⟩ := trodAll_nil r3
  obtain rfl : args = #[v0, v1, v2, v3] := by cases args; simp_all
  simp only [List.append_nil] at hsz
  have pl0 := arg_plains (ks := (shape Try.prog 9 39).getD []) (by kernel_rfl) h0 (arg_weights (j := 0) hsz rfl rfl)
  obtain ⟨cs0, rfl, pl0⟩ := arg_struct Try.underlying39 (hval 0 39 v0 rfl rfl) pl0
  obtain ⟨x0, u0, xs0, rfl, hx0, hS0, hw0, hb0⟩ := decodeAccount _ pl0
  have pl1 := arg_plains (ks := (shape Try.prog 9 55).getD []) (by kernel_rfl) h1 (arg_weights (j := 1) hsz rfl rfl)
  obtain ⟨cs1, rfl, pl1⟩ := arg_struct Try.underlying55 (hval 1 55 v1 rfl rfl) pl1
  obtain ⟨x1, u1, xs1, rfl, hx1, hS1, hw1, hb1⟩ := decodeTerms _ pl1
  obtain ⟨a2, rfl, rfl, rfl, wf2⟩ := open_int Try.underlying3 (hval 2 3 v2 rfl rfl) h2
  obtain ⟨a3, rfl, rfl, rfl, wf3⟩ := open_int Try.underlying3 (hval 3 3 v3 rfl rfl) h3
  exact (walk x0 u0 xs0 x1 u1 xs1 a2 a3 W hx0 hS0 hw0 hb0 hx1 hS1 hw1 hb1).mono fun e W' h => by
    obtain ⟨rfl, hb⟩ := h.grew
    exact ⟨_, rfl, hfin W' hb⟩

theorem over : Rows.accountSellsRow.holds Try.pinned (OpenSpec.ofChange Rows.accountSellsSpec) :=
  OpenClaim.holds_of_wide 13 Try.f13 rfl rfl rfl rfl rfl rfl rfl ⟨rfl, rfl, rfl, rfl, rfl⟩ rfl rfl rfl rfl rfl (by kernel_rfl) Try.func13 (by kernel_rfl)
    (of_decide_eq_true (by kernel_rfl)) (by unfold Func.isWrapper; first | (rw [if_pos (by decide +kernel)]; kernel_rfl) | (rw [if_neg (by decide +kernel)]; exact ⟨rfl, rfl⟩))
    (fun os started H enc _ => lifted os started H enc)

theorem proved : Rows.AccountSellsSaid := over
#print axioms proved
end Go.Proofs.Ytcpljkjibhindaa.accountSells
