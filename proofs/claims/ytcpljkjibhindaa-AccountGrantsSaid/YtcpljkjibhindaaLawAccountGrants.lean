/- account.Grant answers as the reference does, at every argument, and changes none of them. No conditions. -/
import Derived.Test.YtcpljkjibhindaaLift
import Derived.Test.YtcpljkjibhindaaDecodeB
import Derived.Test.YtcpljkjibhindaaGrant
import Derived.Test.YtcpljkjibhindaaGranted
import Derived.Test.YtcpljkjibhindaaEqBill
import Derived.Test.YtcpljkjibhindaaRegE
import Derived.Deep.DeepCutAuto
namespace Go.Proofs.Ytcpljkjibhindaa.accountGrants
open Go.ChangeShapes Go.WideShapes Go.ChangeAt Go.RowKit
set_option maxRecDepth 20000
set_option maxHeartbeats 4000000 in
theorem walk (x : AAcc) (u : Value) (xs : List ADebt) (z : ATerms) (tv : Value) (ts : List AStep) (m : Int) (w : World) (_hx : x.wf) (h : Sl w u 2 xs.length (xs.flatMap ADebt.cells)) (_hw : ∀ x ∈ xs, x.wf) (hby : xs.length * 16 ≤ 140737488351232) (_hz : z.wf) (ht : Sl w tv 2 ts.length (ts.flatMap AStep.cells)) (_hv : ∀ x ∈ ts, x.wf) (hbt : ts.length * 16 ≤ 140737488351232) :
    Calls Try.prog 12 #[.agg #[I x.meter, I x.rev, I x.next, I x.month, I x.bought, I x.free, u], .agg #[tv, I z.feeFix, I z.feeBp, I z.debtBp, I z.allow], I m] w (Grew (.bool true) w) := by
  obtain ⟨f, b, d, al⟩ := z
  have A := Lib.hid (fun W hW => accounts_any x u xs W hW (by omega))
  have C := Lib.hid (fun W hW => terms_any tv ts f b d al W hW (by omega))
  have T := Lib.hid (fun v s W hW hs => Grant_any x v s xs ts f b d al m W hW hs)
  have R := Lib.hid (fun W hW hs => Granted_any x u tv xs ts f b d al m W hW hs)
  have S0 := Lib.hid (fun v1 v2 W h1 h2 => sameAccount_any x v1 v2 xs W h1 h2)
  generalize grantE x xs ts f b d al m = E at *
  generalize grantX x m E = y at *
  generalize grantL x xs m E = ys at *
  generalize grantB x al E = bb at *
  have S := Lib.hid (fun v1 v2 W h1 h2 => sameAccount_any y v1 v2 ys W h1 h2)
  have B := fun w => eqlBill_run bb bb w
  obtain ⟨x1, x2, x3, x4, x5, x6⟩ := x
  obtain ⟨y1, y2, y3, y4, y5, y6⟩ := y
  obtain ⟨b1, b2, b3, b4, b5, b6, b7⟩ := bb
  simp only [eq_self, decide_true] at A C T R S0 S B ⊢
  have k0 := (boxed_below w (.cells #[I x1, I x2, I x3, I x4, I x5, I x6, u] 39)).alloc (by simp) (.cells #[tv, I f, I b, I d, I al] 55)
  have ox := (Own.new (w := w) rfl [I x1, I x2, I x3, I x4, I x5, I x6, u] 39).alloc (.cells #[tv, I f, I b, I d, I al] 55)
  have ot := Own.new (w := w.alloc (.cells #[I x1, I x2, I x3, I x4, I x5, I x6, u] 39)) (g := w.heap.size + 1) (by simp) [tv, I f, I b, I d, I al] 55
  have g0 := h.below k0
  have h' := h
  have ht' := ht
  obtain ⟨a0, p0, rfl, -⟩ := h'
  obtain ⟨ta, tp, rfl, -⟩ := ht'
  go_enter Try.func12, Try.ntmps12
  go_wp2_with fail
  refine (A.out _ g0).mono ?_
  rintro e w1 ⟨v1, rfl, s1, k1⟩
  have s1' := s1
  obtain ⟨a1, p1, rfl, -⟩ := s1'
  have kA := boxed_below w1 (.cells #[I x1, I x2, I x3, I x4, I x5, I x6, .slice a1 xs.length p1] 39)
  have ox1 := (ox.below k1).below kA
  have ot1 := (ot.below k1).below kA
  have oc1 := Own.new (w := w1) rfl [I x1, I x2, I x3, I x4, I x5, I x6, .slice a1 xs.length p1] 39
  have k := (k0.trans (k1.mono k0.size)).trans (kA.mono (Nat.le_trans k0.size k1.size))
  have z1 : w.heap.size + 2 ≤ w1.heap.size := by have := k1.size; simp at this; omega
  clear ox ot k1 k0 g0
  go_upto_region 2 with fail
  go_cut [8, 9, 10] (fun s8 s9 s10 wx => ∃ g8 g9 a3 p3, s8 = .pointer (some ⟨g8, 0, none⟩) ∧ s9 = .pointer (some ⟨g9, 0, none⟩) ∧ s10 = I E ∧ Own wx g8 [I y1, I y2, I y3, I y4, I y5, I y6, .slice a3 ys.length p3] ∧ Own wx g9 [I b1, I b2, I b3, I b4, I b5, I b6, I b7] ∧ Own wx w1.heap.size [I x1, I x2, I x3, I x4, I x5, I x6, .slice a1 xs.length p1] ∧ Own wx w.heap.size [I x1, I x2, I x3, I x4, I x5, I x6, .slice a0 xs.length p0] ∧ Own wx (w.heap.size + 1) [.slice ta ts.length tp, I f, I b, I d, I al] ∧ Below w.heap.size w wx ∧ Sl wx (.slice a1 xs.length p1) 2 xs.length (xs.flatMap ADebt.cells) ∧ Sl wx (.slice a3 ys.length p3) 2 ys.length (ys.flatMap ADebt.cells) ∧ w1.heap.size < g8 ∧ w1.heap.size < g9 ∧ g8 ≠ g9)
  case first =>
    have OX : Own (World.drew (w1.alloc (.cells #[I x1, I x2, I x3, I x4, I x5, I x6, .slice a1 xs.length p1] 39))) w.heap.size [I x1, I x2, I x3, I x4, I x5, I x6, .slice a0 xs.length p0] := ox1
    have OT : Own (World.drew (w1.alloc (.cells #[I x1, I x2, I x3, I x4, I x5, I x6, .slice a1 xs.length p1] 39))) (w.heap.size + 1) [.slice ta ts.length tp, I f, I b, I d, I al] := ot1
    have OC : Own (World.drew (w1.alloc (.cells #[I x1, I x2, I x3, I x4, I x5, I x6, .slice a1 xs.length p1] 39))) w1.heap.size [I x1, I x2, I x3, I x4, I x5, I x6, .slice a1 xs.length p1] := oc1
    have S1 : Sl (World.drew (w1.alloc (.cells #[I x1, I x2, I x3, I x4, I x5, I x6, .slice a1 xs.length p1] 39))) (.slice a1 xs.length p1) 2 xs.length (xs.flatMap ADebt.cells) := (s1.below kA).drew
    have K : Below w.heap.size w (World.drew (w1.alloc (.cells #[I x1, I x2, I x3, I x4, I x5, I x6, .slice a1 xs.length p1] 39))) := k.drew
    clear ox1 ot1 oc1 kA k R S0 S B
    refine AnyC.begin 13 (fun W => Own W w1.heap.size [I x1, I x2, I x3, I x4, I x5, I x6, .slice a1 xs.length p1] ∧ Own W (w.heap.size + 1) [.slice ta ts.length tp, I f, I b, I d, I al]) (by kernel_rfl) ?_
    generalize World.drew (w1.alloc (.cells #[I x1, I x2, I x3, I x4, I x5, I x6, .slice a1 xs.length p1] 39)) = W at *
    have HH := And.intro OC OT
    refine AnyC.take (i := 0) (v := ?_) rfl (by kernel_rfl) (by kernel_rfl) (by kernel_rfl) (by kernel_rfl) (fun _ _ _ h => h) (Or.inl ⟨by rfl, ?_⟩) HH ?_
    rotate_left
    · intro W hSw
      obtain ⟨q1, q2⟩ := hSw
      have cO := q1
      have c0 := cO.cell 0 (by simp)
      have cf0 := cO.frozen 0
      have c1 := cO.cell 1 (by simp)
      have cf1 := cO.frozen 1
      have c2 := cO.cell 2 (by simp)
      have cf2 := cO.frozen 2
      have c3 := cO.cell 3 (by simp)
      have cf3 := cO.frozen 3
      have c4 := cO.cell 4 (by simp)
      have cf4 := cO.frozen 4
      have c5 := cO.cell 5 (by simp)
      have cf5 := cO.frozen 5
      have c6 := cO.cell 6 (by simp)
      have cf6 := cO.frozen 6
      simp only [Nat.zero_add, List.getD_cons_zero, List.getD_cons_succ] at c0 c1 c2 c3 c4 c5 c6
      clear cO
      have tO := q2
      have t0 := tO.cell 0 (by simp)
      have tf0 := tO.frozen 0
      have t1 := tO.cell 1 (by simp)
      have tf1 := tO.frozen 1
      have t2 := tO.cell 2 (by simp)
      have tf2 := tO.frozen 2
      have t3 := tO.cell 3 (by simp)
      have tf3 := tO.frozen 3
      have t4 := tO.cell 4 (by simp)
      have tf4 := tO.frozen 4
      simp only [Nat.zero_add, List.getD_cons_zero, List.getD_cons_succ] at t0 t1 t2 t3 t4
      clear tO
      first | (go_simp; done) | (go_simp; with_reducible rfl)
    (try simp only [Act.put])
    (try simp only [List.setIfInBounds_toArray])
    have HH := And.intro OC OT
    refine AnyC.take (i := 1) (v := ?_) rfl (by kernel_rfl) (by kernel_rfl) (by kernel_rfl) (by kernel_rfl) (fun _ _ _ h => h) (Or.inl ⟨by rfl, ?_⟩) HH ?_
    rotate_left
    · intro W hSw
      obtain ⟨q1, q2⟩ := hSw
      have cO := q1
      have c0 := cO.cell 0 (by simp)
      have cf0 := cO.frozen 0
      have c1 := cO.cell 1 (by simp)
      have cf1 := cO.frozen 1
      have c2 := cO.cell 2 (by simp)
      have cf2 := cO.frozen 2
      have c3 := cO.cell 3 (by simp)
      have cf3 := cO.frozen 3
      have c4 := cO.cell 4 (by simp)
      have cf4 := cO.frozen 4
      have c5 := cO.cell 5 (by simp)
      have cf5 := cO.frozen 5
      have c6 := cO.cell 6 (by simp)
      have cf6 := cO.frozen 6
      simp only [Nat.zero_add, List.getD_cons_zero, List.getD_cons_succ] at c0 c1 c2 c3 c4 c5 c6
      clear cO
      have tO := q2
      have t0 := tO.cell 0 (by simp)
      have tf0 := tO.frozen 0
      have t1 := tO.cell 1 (by simp)
      have tf1 := tO.frozen 1
      have t2 := tO.cell 2 (by simp)
      have tf2 := tO.frozen 2
      have t3 := tO.cell 3 (by simp)
      have tf3 := tO.frozen 3
      have t4 := tO.cell 4 (by simp)
      have tf4 := tO.frozen 4
      simp only [Nat.zero_add, List.getD_cons_zero, List.getD_cons_succ] at t0 t1 t2 t3 t4
      clear tO
      first | (go_simp; done) | (go_simp; with_reducible rfl)
    (try simp only [Act.put])
    have HH := And.intro OC OT
    refine AnyC.take (i := 3) (v := ?_) rfl (by kernel_rfl) (by kernel_rfl) (by kernel_rfl) (by kernel_rfl) (fun _ _ _ h => h) (Or.inl ⟨by rfl, ?_⟩) HH ?_
    rotate_left
    · (intro W hSw; first | (go_simp; done) | (go_simp; with_reducible rfl))
    (try simp only [Act.put])
    refine AnyC.three (i := 2) (j := 9) (l := 10) (by kernel_rfl) (by rfl) (by rfl) (by rfl) (fun K' hK => ?_) (fun K' hK => ?_) (fun K' hK => ?_)
    · skip
      go_simp
      (with_reducible refine (C.out _ (ht.below K)).mono ?_)
      rintro e W ⟨s, rfl, ST, k⟩
      replace OX := OX.below k
      replace OT := OT.below k
      replace OC := OC.below k
      replace S1 := S1.below k
      (try replace ST := ST.below k)
      (try replace SG := SG.below k)
      (try replace O8 := O8.below k)
      (try replace O9 := O9.below k)
      replace K := K.trans (k.mono K.size)
      clear k
      have ST' := ST
      obtain ⟨a2, p2, rfl, -⟩ := ST'
      (try go_simp)
      refine hK.out _ _ (fun _ _ => ⟨OC, OT⟩) ?_
      clear hK K'
      (try simp only [Act.put])
      refine AnyC.three (i := 4) (j := 9) (l := 10) (by kernel_rfl) (by rfl) (by rfl) (by rfl) (fun K' hK => ?_) (fun K' hK => ?_) (fun K' hK => ?_)
      · skip
        go_simp
        (with_reducible refine (T.out _ _ _ S1 ST).mono ?_)
        rintro e W ⟨v3, rfl, SG, k, FB⟩
        (try have F8 := FB.far O8.lt)
        (try have F9 := FB.far O9.lt)
        clear FB
        replace OX := OX.below k
        replace OT := OT.below k
        replace OC := OC.below k
        replace S1 := S1.below k
        (try replace ST := ST.below k)
        (try replace SG := SG.below k)
        (try replace O8 := O8.below k)
        (try replace O9 := O9.below k)
        replace K := K.trans (k.mono K.size)
        clear k
        have SG' := SG
        obtain ⟨a3, p3, rfl, -⟩ := SG'
        (try go_simp)
        refine hK.out _ _ (fun _ _ => ⟨OC, OT⟩) ?_
        clear hK K'
        (try simp only [Act.put])
        have HH := And.intro OC OT
        refine AnyC.take (i := 5) (v := ?_) rfl (by kernel_rfl) (by kernel_rfl) (by kernel_rfl) (by kernel_rfl) (fun _ _ _ h => h) (Or.inl ⟨by rfl, ?_⟩) HH ?_
        rotate_left
        · (intro W hSw; first | (go_simp; done) | (go_simp; with_reducible rfl))
        (try simp only [Act.put])
        have HH := And.intro OC OT
        refine AnyC.take (i := 6) (v := ?_) rfl (by kernel_rfl) (by kernel_rfl) (by kernel_rfl) (by kernel_rfl) (fun _ _ _ h => h) (Or.inl ⟨by rfl, ?_⟩) HH ?_
        rotate_left
        · (intro W hSw; first | (go_simp; done) | (go_simp; with_reducible rfl))
        (try simp only [Act.put])
        have HH := And.intro OC OT
        refine AnyC.take (i := 7) (v := ?_) rfl (by kernel_rfl) (by kernel_rfl) (by kernel_rfl) (by kernel_rfl) (fun _ _ _ h => h) (Or.inl ⟨by rfl, ?_⟩) HH ?_
        rotate_left
        · (intro W hSw; first | (go_simp; done) | (go_simp; with_reducible rfl))
        (try simp only [Act.put])
        have HH := And.intro OC OT
        refine AnyC.take (i := 8) (v := ?_) rfl (by kernel_rfl) (by kernel_rfl) (by kernel_rfl) (by kernel_rfl) (fun _ _ _ h => h) (Or.inl ⟨by rfl, ?_⟩) HH ?_
        rotate_left
        · (intro W hSw; first | (go_simp; done) | (go_simp; with_reducible rfl))
        (try simp only [Act.put])
        refine AnyC.two (i := 9) (j := 10) (by kernel_rfl) (by rfl) (by rfl) (fun K' hK => ?_) (fun K' hK => ?_)
        · skip
          go_simp
          have k := boxed_below W (.cells #[I 0, I 0, I 0, I 0, I 0, I 0, .slice none 0 0] 39)
          have O8 := Own.new (w := W) rfl [I 0, I 0, I 0, I 0, I 0, I 0, .slice none 0 0] 39
          have F18 := S1.farNew (Nat.le_refl W.heap.size)
          (try have F8 := SG.farNew (Nat.le_refl W.heap.size))
          have n8 : w1.heap.size < W.heap.size := OC.lt
          (try have n98 := O9.lt)
          replace OX := OX.below k
          replace OT := OT.below k
          replace OC := OC.below k
          replace S1 := S1.below k
          (try replace ST := ST.below k)
          (try replace SG := SG.below k)
          (try replace O8 := O8.below k)
          (try replace O9 := O9.below k)
          replace K := K.trans (k.mono K.size)
          clear k
          refine hK.out _ _ (fun _ _ => ⟨OC, OT⟩) ?_
          clear hK K'
          (try simp only [Act.put])
          generalize W.heap.size = g8 at *
          generalize World.alloc W (.cells #[I 0, I 0, I 0, I 0, I 0, I 0, .slice none 0 0] 39) = W at *
          refine AnyC.one (i := 10) (by kernel_rfl) (by rfl) (fun K' hK => ?_)
          go_simp
          have k := boxed_below W (.cells #[I 0, I 0, I 0, I 0, I 0, I 0, I 0] 50)
          have O9 := Own.new (w := W) rfl [I 0, I 0, I 0, I 0, I 0, I 0, I 0] 50
          have F19 := S1.farNew (Nat.le_refl W.heap.size)
          (try have F9 := SG.farNew (Nat.le_refl W.heap.size))
          have n9 : w1.heap.size < W.heap.size := OC.lt
          (try have n89 := O8.lt)
          replace OX := OX.below k
          replace OT := OT.below k
          replace OC := OC.below k
          replace S1 := S1.below k
          (try replace ST := ST.below k)
          (try replace SG := SG.below k)
          (try replace O8 := O8.below k)
          (try replace O9 := O9.below k)
          replace K := K.trans (k.mono K.size)
          clear k
          refine hK.out _ _ (fun _ _ => ⟨OC, OT⟩) ?_
          clear hK K'
          (try simp only [Act.put])
          generalize W.heap.size = g9 at *
          generalize World.alloc W (.cells #[I 0, I 0, I 0, I 0, I 0, I 0, I 0] 50) = W at *
          have ne89 : g8 ≠ g9 := by omega
          have pO := O8
          have p0 := pO.cell 0 (by simp)
          have pf0 := pO.frozen 0
          have p1 := pO.cell 1 (by simp)
          have pf1 := pO.frozen 1
          have p2 := pO.cell 2 (by simp)
          have pf2 := pO.frozen 2
          have p3 := pO.cell 3 (by simp)
          have pf3 := pO.frozen 3
          have p4 := pO.cell 4 (by simp)
          have pf4 := pO.frozen 4
          have p5 := pO.cell 5 (by simp)
          have pf5 := pO.frozen 5
          have p6 := pO.cell 6 (by simp)
          have pf6 := pO.frozen 6
          simp only [Nat.zero_add, List.getD_cons_zero, List.getD_cons_succ] at p0 p1 p2 p3 p4 p5 p6
          clear pO
          refine AnyC.one (i := 11) (by kernel_rfl) (by rfl) (fun K' hK => ?_)
          go_simp
          clear p0 p1 p2 p3 p4 p5 p6 pf0 pf1 pf2 pf3 pf4 pf5 pf6
          have cg := ((((((((Chg.refl g8 W).set 0 (I y1)).set 1 (I y2)).set 2 (I y3)).set 3 (I y4)).set 4 (I y5)).set 5 (I y6)).set 6 (.slice a3 ys.length p3))
          have OX := OX.chg cg (by have := z1; omega)
          have OT := OT.chg cg (by have := z1; omega)
          have OC := OC.chg cg (by omega)
          have O9 := O9.chg cg (by omega)
          have O8 := (((((((O8.set 0 (I y1)).set 1 (I y2)).set 2 (I y3)).set 3 (I y4)).set 4 (I y5)).set 5 (I y6)).set 6 (.slice a3 ys.length p3))
          have S1 := S1.chg F18 cg
          have SG := SG.chg (by intros; first | exact F8 | exact F8 (by assumption)) cg
          have K := cg.below K (by have := z1; omega) K.size
          refine hK.out _ _ (fun _ _ => ⟨OC, OT⟩) ?_
          clear hK K' cg
          have qO := O9
          have q0 := qO.cell 0 (by simp)
          have qf0 := qO.frozen 0
          have q1 := qO.cell 1 (by simp)
          have qf1 := qO.frozen 1
          have q2 := qO.cell 2 (by simp)
          have qf2 := qO.frozen 2
          have q3 := qO.cell 3 (by simp)
          have qf3 := qO.frozen 3
          have q4 := qO.cell 4 (by simp)
          have qf4 := qO.frozen 4
          have q5 := qO.cell 5 (by simp)
          have qf5 := qO.frozen 5
          have q6 := qO.cell 6 (by simp)
          have qf6 := qO.frozen 6
          simp only [Nat.zero_add, List.getD_cons_zero, List.getD_cons_succ] at q0 q1 q2 q3 q4 q5 q6
          clear qO
          refine AnyC.one (i := 12) (by kernel_rfl) (by rfl) (fun K' hK => ?_)
          go_simp
          clear q0 q1 q2 q3 q4 q5 q6 qf0 qf1 qf2 qf3 qf4 qf5 qf6
          have cg := ((((((((Chg.refl g9 (((((((W.setCell ⟨g8, 0, none⟩ (I y1)).setCell ⟨g8, 1, none⟩ (I y2)).setCell ⟨g8, 2, none⟩ (I y3)).setCell ⟨g8, 3, none⟩ (I y4)).setCell ⟨g8, 4, none⟩ (I y5)).setCell ⟨g8, 5, none⟩ (I y6)).setCell ⟨g8, 6, none⟩ (.slice a3 ys.length p3))).set 0 (I b1)).set 1 (I b2)).set 2 (I b3)).set 3 (I b4)).set 4 (I b5)).set 5 (I b6)).set 6 (I b7))
          have OX := OX.chg cg (by have := z1; omega)
          have OT := OT.chg cg (by have := z1; omega)
          have OC := OC.chg cg (by omega)
          have O8 := O8.chg cg (by omega)
          have O9 := (((((((O9.set 0 (I b1)).set 1 (I b2)).set 2 (I b3)).set 3 (I b4)).set 4 (I b5)).set 5 (I b6)).set 6 (I b7))
          have S1 := S1.chg F19 cg
          have SG := SG.chg (by intros; first | exact F9 | exact F9 (by assumption)) cg
          have K := cg.below K (by have := z1; omega) K.size
          refine hK.out _ _ (fun _ _ => ⟨OC, OT⟩) ?_
          clear hK K' cg
          refine AnyC.one (i := 13) (by kernel_rfl) (by rfl) (fun K' hK => ?_)
          go_simp
          refine hK.out _ _ (fun h => absurd rfl h) ?_
          clear hK K'
          refine AnyC.done (by kernel_rfl) ?_ _
          go_wp2_with fail
          go_meet
          exact ⟨g8, g9, a3, p3, rfl, rfl, rfl, O8, O9, OC, OX, OT, K, S1, SG, n8, n9, ne89⟩
        · skip
          go_simp
          have k := boxed_below W (.cells #[I 0, I 0, I 0, I 0, I 0, I 0, I 0] 50)
          have O9 := Own.new (w := W) rfl [I 0, I 0, I 0, I 0, I 0, I 0, I 0] 50
          have F19 := S1.farNew (Nat.le_refl W.heap.size)
          (try have F9 := SG.farNew (Nat.le_refl W.heap.size))
          have n9 : w1.heap.size < W.heap.size := OC.lt
          (try have n89 := O8.lt)
          replace OX := OX.below k
          replace OT := OT.below k
          replace OC := OC.below k
          replace S1 := S1.below k
          (try replace ST := ST.below k)
          (try replace SG := SG.below k)
          (try replace O8 := O8.below k)
          (try replace O9 := O9.below k)
          replace K := K.trans (k.mono K.size)
          clear k
          refine hK.out _ _ (fun _ _ => ⟨OC, OT⟩) ?_
          clear hK K'
          (try simp only [Act.put])
          generalize W.heap.size = g9 at *
          generalize World.alloc W (.cells #[I 0, I 0, I 0, I 0, I 0, I 0, I 0] 50) = W at *
          refine AnyC.one (i := 9) (by kernel_rfl) (by rfl) (fun K' hK => ?_)
          go_simp
          have k := boxed_below W (.cells #[I 0, I 0, I 0, I 0, I 0, I 0, .slice none 0 0] 39)
          have O8 := Own.new (w := W) rfl [I 0, I 0, I 0, I 0, I 0, I 0, .slice none 0 0] 39
          have F18 := S1.farNew (Nat.le_refl W.heap.size)
          (try have F8 := SG.farNew (Nat.le_refl W.heap.size))
          have n8 : w1.heap.size < W.heap.size := OC.lt
          (try have n98 := O9.lt)
          replace OX := OX.below k
          replace OT := OT.below k
          replace OC := OC.below k
          replace S1 := S1.below k
          (try replace ST := ST.below k)
          (try replace SG := SG.below k)
          (try replace O8 := O8.below k)
          (try replace O9 := O9.below k)
          replace K := K.trans (k.mono K.size)
          clear k
          refine hK.out _ _ (fun _ _ => ⟨OC, OT⟩) ?_
          clear hK K'
          (try simp only [Act.put])
          generalize W.heap.size = g8 at *
          generalize World.alloc W (.cells #[I 0, I 0, I 0, I 0, I 0, I 0, .slice none 0 0] 39) = W at *
          have ne89 : g8 ≠ g9 := by omega
          have pO := O8
          have p0 := pO.cell 0 (by simp)
          have pf0 := pO.frozen 0
          have p1 := pO.cell 1 (by simp)
          have pf1 := pO.frozen 1
          have p2 := pO.cell 2 (by simp)
          have pf2 := pO.frozen 2
          have p3 := pO.cell 3 (by simp)
          have pf3 := pO.frozen 3
          have p4 := pO.cell 4 (by simp)
          have pf4 := pO.frozen 4
          have p5 := pO.cell 5 (by simp)
          have pf5 := pO.frozen 5
          have p6 := pO.cell 6 (by simp)
          have pf6 := pO.frozen 6
          simp only [Nat.zero_add, List.getD_cons_zero, List.getD_cons_succ] at p0 p1 p2 p3 p4 p5 p6
          clear pO
          refine AnyC.one (i := 11) (by kernel_rfl) (by rfl) (fun K' hK => ?_)
          go_simp
          clear p0 p1 p2 p3 p4 p5 p6 pf0 pf1 pf2 pf3 pf4 pf5 pf6
          have cg := ((((((((Chg.refl g8 W).set 0 (I y1)).set 1 (I y2)).set 2 (I y3)).set 3 (I y4)).set 4 (I y5)).set 5 (I y6)).set 6 (.slice a3 ys.length p3))
          have OX := OX.chg cg (by have := z1; omega)
          have OT := OT.chg cg (by have := z1; omega)
          have OC := OC.chg cg (by omega)
          have O9 := O9.chg cg (by omega)
          have O8 := (((((((O8.set 0 (I y1)).set 1 (I y2)).set 2 (I y3)).set 3 (I y4)).set 4 (I y5)).set 5 (I y6)).set 6 (.slice a3 ys.length p3))
          have S1 := S1.chg F18 cg
          have SG := SG.chg (by intros; first | exact F8 | exact F8 (by assumption)) cg
          have K := cg.below K (by have := z1; omega) K.size
          refine hK.out _ _ (fun _ _ => ⟨OC, OT⟩) ?_
          clear hK K' cg
          have qO := O9
          have q0 := qO.cell 0 (by simp)
          have qf0 := qO.frozen 0
          have q1 := qO.cell 1 (by simp)
          have qf1 := qO.frozen 1
          have q2 := qO.cell 2 (by simp)
          have qf2 := qO.frozen 2
          have q3 := qO.cell 3 (by simp)
          have qf3 := qO.frozen 3
          have q4 := qO.cell 4 (by simp)
          have qf4 := qO.frozen 4
          have q5 := qO.cell 5 (by simp)
          have qf5 := qO.frozen 5
          have q6 := qO.cell 6 (by simp)
          have qf6 := qO.frozen 6
          simp only [Nat.zero_add, List.getD_cons_zero, List.getD_cons_succ] at q0 q1 q2 q3 q4 q5 q6
          clear qO
          refine AnyC.one (i := 12) (by kernel_rfl) (by rfl) (fun K' hK => ?_)
          go_simp
          clear q0 q1 q2 q3 q4 q5 q6 qf0 qf1 qf2 qf3 qf4 qf5 qf6
          have cg := ((((((((Chg.refl g9 (((((((W.setCell ⟨g8, 0, none⟩ (I y1)).setCell ⟨g8, 1, none⟩ (I y2)).setCell ⟨g8, 2, none⟩ (I y3)).setCell ⟨g8, 3, none⟩ (I y4)).setCell ⟨g8, 4, none⟩ (I y5)).setCell ⟨g8, 5, none⟩ (I y6)).setCell ⟨g8, 6, none⟩ (.slice a3 ys.length p3))).set 0 (I b1)).set 1 (I b2)).set 2 (I b3)).set 3 (I b4)).set 4 (I b5)).set 5 (I b6)).set 6 (I b7))
          have OX := OX.chg cg (by have := z1; omega)
          have OT := OT.chg cg (by have := z1; omega)
          have OC := OC.chg cg (by omega)
          have O8 := O8.chg cg (by omega)
          have O9 := (((((((O9.set 0 (I b1)).set 1 (I b2)).set 2 (I b3)).set 3 (I b4)).set 4 (I b5)).set 5 (I b6)).set 6 (I b7))
          have S1 := S1.chg F19 cg
          have SG := SG.chg (by intros; first | exact F9 | exact F9 (by assumption)) cg
          have K := cg.below K (by have := z1; omega) K.size
          refine hK.out _ _ (fun _ _ => ⟨OC, OT⟩) ?_
          clear hK K' cg
          refine AnyC.one (i := 13) (by kernel_rfl) (by rfl) (fun K' hK => ?_)
          go_simp
          refine hK.out _ _ (fun h => absurd rfl h) ?_
          clear hK K'
          refine AnyC.done (by kernel_rfl) ?_ _
          go_wp2_with fail
          go_meet
          exact ⟨g8, g9, a3, p3, rfl, rfl, rfl, O8, O9, OC, OX, OT, K, S1, SG, n8, n9, ne89⟩
      · skip
        go_simp
        have k := boxed_below W (.cells #[I 0, I 0, I 0, I 0, I 0, I 0, .slice none 0 0] 39)
        have O8 := Own.new (w := W) rfl [I 0, I 0, I 0, I 0, I 0, I 0, .slice none 0 0] 39
        have F18 := S1.farNew (Nat.le_refl W.heap.size)
        (try have F8 := SG.farNew (Nat.le_refl W.heap.size))
        have n8 : w1.heap.size < W.heap.size := OC.lt
        (try have n98 := O9.lt)
        replace OX := OX.below k
        replace OT := OT.below k
        replace OC := OC.below k
        replace S1 := S1.below k
        (try replace ST := ST.below k)
        (try replace SG := SG.below k)
        (try replace O8 := O8.below k)
        (try replace O9 := O9.below k)
        replace K := K.trans (k.mono K.size)
        clear k
        refine hK.out _ _ (fun _ _ => ⟨OC, OT⟩) ?_
        clear hK K'
        (try simp only [Act.put])
        generalize W.heap.size = g8 at *
        generalize World.alloc W (.cells #[I 0, I 0, I 0, I 0, I 0, I 0, .slice none 0 0] 39) = W at *
        refine AnyC.two (i := 4) (j := 10) (by kernel_rfl) (by rfl) (by rfl) (fun K' hK => ?_) (fun K' hK => ?_)
        · skip
          go_simp
          (with_reducible refine (T.out _ _ _ S1 ST).mono ?_)
          rintro e W ⟨v3, rfl, SG, k, FB⟩
          (try have F8 := FB.far O8.lt)
          (try have F9 := FB.far O9.lt)
          clear FB
          replace OX := OX.below k
          replace OT := OT.below k
          replace OC := OC.below k
          replace S1 := S1.below k
          (try replace ST := ST.below k)
          (try replace SG := SG.below k)
          (try replace O8 := O8.below k)
          (try replace O9 := O9.below k)
          replace K := K.trans (k.mono K.size)
          clear k
          have SG' := SG
          obtain ⟨a3, p3, rfl, -⟩ := SG'
          (try go_simp)
          refine hK.out _ _ (fun _ _ => ⟨OC, OT⟩) ?_
          clear hK K'
          (try simp only [Act.put])
          have HH := And.intro OC OT
          refine AnyC.take (i := 5) (v := ?_) rfl (by kernel_rfl) (by kernel_rfl) (by kernel_rfl) (by kernel_rfl) (fun _ _ _ h => h) (Or.inl ⟨by rfl, ?_⟩) HH ?_
          rotate_left
          · (intro W hSw; first | (go_simp; done) | (go_simp; with_reducible rfl))
          (try simp only [Act.put])
          have HH := And.intro OC OT
          refine AnyC.take (i := 6) (v := ?_) rfl (by kernel_rfl) (by kernel_rfl) (by kernel_rfl) (by kernel_rfl) (fun _ _ _ h => h) (Or.inl ⟨by rfl, ?_⟩) HH ?_
          rotate_left
          · (intro W hSw; first | (go_simp; done) | (go_simp; with_reducible rfl))
          (try simp only [Act.put])
          have HH := And.intro OC OT
          refine AnyC.take (i := 7) (v := ?_) rfl (by kernel_rfl) (by kernel_rfl) (by kernel_rfl) (by kernel_rfl) (fun _ _ _ h => h) (Or.inl ⟨by rfl, ?_⟩) HH ?_
          rotate_left
          · (intro W hSw; first | (go_simp; done) | (go_simp; with_reducible rfl))
          (try simp only [Act.put])
          have HH := And.intro OC OT
          refine AnyC.take (i := 8) (v := ?_) rfl (by kernel_rfl) (by kernel_rfl) (by kernel_rfl) (by kernel_rfl) (fun _ _ _ h => h) (Or.inl ⟨by rfl, ?_⟩) HH ?_
          rotate_left
          · (intro W hSw; first | (go_simp; done) | (go_simp; with_reducible rfl))
          (try simp only [Act.put])
          refine AnyC.one (i := 10) (by kernel_rfl) (by rfl) (fun K' hK => ?_)
          go_simp
          have k := boxed_below W (.cells #[I 0, I 0, I 0, I 0, I 0, I 0, I 0] 50)
          have O9 := Own.new (w := W) rfl [I 0, I 0, I 0, I 0, I 0, I 0, I 0] 50
          have F19 := S1.farNew (Nat.le_refl W.heap.size)
          (try have F9 := SG.farNew (Nat.le_refl W.heap.size))
          have n9 : w1.heap.size < W.heap.size := OC.lt
          (try have n89 := O8.lt)
          replace OX := OX.below k
          replace OT := OT.below k
          replace OC := OC.below k
          replace S1 := S1.below k
          (try replace ST := ST.below k)
          (try replace SG := SG.below k)
          (try replace O8 := O8.below k)
          (try replace O9 := O9.below k)
          replace K := K.trans (k.mono K.size)
          clear k
          refine hK.out _ _ (fun _ _ => ⟨OC, OT⟩) ?_
          clear hK K'
          (try simp only [Act.put])
          generalize W.heap.size = g9 at *
          generalize World.alloc W (.cells #[I 0, I 0, I 0, I 0, I 0, I 0, I 0] 50) = W at *
          have ne89 : g8 ≠ g9 := by omega
          have pO := O8
          have p0 := pO.cell 0 (by simp)
          have pf0 := pO.frozen 0
          have p1 := pO.cell 1 (by simp)
          have pf1 := pO.frozen 1
          have p2 := pO.cell 2 (by simp)
          have pf2 := pO.frozen 2
          have p3 := pO.cell 3 (by simp)
          have pf3 := pO.frozen 3
          have p4 := pO.cell 4 (by simp)
          have pf4 := pO.frozen 4
          have p5 := pO.cell 5 (by simp)
          have pf5 := pO.frozen 5
          have p6 := pO.cell 6 (by simp)
          have pf6 := pO.frozen 6
          simp only [Nat.zero_add, List.getD_cons_zero, List.getD_cons_succ] at p0 p1 p2 p3 p4 p5 p6
          clear pO
          refine AnyC.one (i := 11) (by kernel_rfl) (by rfl) (fun K' hK => ?_)
          go_simp
          clear p0 p1 p2 p3 p4 p5 p6 pf0 pf1 pf2 pf3 pf4 pf5 pf6
          have cg := ((((((((Chg.refl g8 W).set 0 (I y1)).set 1 (I y2)).set 2 (I y3)).set 3 (I y4)).set 4 (I y5)).set 5 (I y6)).set 6 (.slice a3 ys.length p3))
          have OX := OX.chg cg (by have := z1; omega)
          have OT := OT.chg cg (by have := z1; omega)
          have OC := OC.chg cg (by omega)
          have O9 := O9.chg cg (by omega)
          have O8 := (((((((O8.set 0 (I y1)).set 1 (I y2)).set 2 (I y3)).set 3 (I y4)).set 4 (I y5)).set 5 (I y6)).set 6 (.slice a3 ys.length p3))
          have S1 := S1.chg F18 cg
          have SG := SG.chg (by intros; first | exact F8 | exact F8 (by assumption)) cg
          have K := cg.below K (by have := z1; omega) K.size
          refine hK.out _ _ (fun _ _ => ⟨OC, OT⟩) ?_
          clear hK K' cg
          have qO := O9
          have q0 := qO.cell 0 (by simp)
          have qf0 := qO.frozen 0
          have q1 := qO.cell 1 (by simp)
          have qf1 := qO.frozen 1
          have q2 := qO.cell 2 (by simp)
          have qf2 := qO.frozen 2
          have q3 := qO.cell 3 (by simp)
          have qf3 := qO.frozen 3
          have q4 := qO.cell 4 (by simp)
          have qf4 := qO.frozen 4
          have q5 := qO.cell 5 (by simp)
          have qf5 := qO.frozen 5
          have q6 := qO.cell 6 (by simp)
          have qf6 := qO.frozen 6
          simp only [Nat.zero_add, List.getD_cons_zero, List.getD_cons_succ] at q0 q1 q2 q3 q4 q5 q6
          clear qO
          refine AnyC.one (i := 12) (by kernel_rfl) (by rfl) (fun K' hK => ?_)
          go_simp
          clear q0 q1 q2 q3 q4 q5 q6 qf0 qf1 qf2 qf3 qf4 qf5 qf6
          have cg := ((((((((Chg.refl g9 (((((((W.setCell ⟨g8, 0, none⟩ (I y1)).setCell ⟨g8, 1, none⟩ (I y2)).setCell ⟨g8, 2, none⟩ (I y3)).setCell ⟨g8, 3, none⟩ (I y4)).setCell ⟨g8, 4, none⟩ (I y5)).setCell ⟨g8, 5, none⟩ (I y6)).setCell ⟨g8, 6, none⟩ (.slice a3 ys.length p3))).set 0 (I b1)).set 1 (I b2)).set 2 (I b3)).set 3 (I b4)).set 4 (I b5)).set 5 (I b6)).set 6 (I b7))
          have OX := OX.chg cg (by have := z1; omega)
          have OT := OT.chg cg (by have := z1; omega)
          have OC := OC.chg cg (by omega)
          have O8 := O8.chg cg (by omega)
          have O9 := (((((((O9.set 0 (I b1)).set 1 (I b2)).set 2 (I b3)).set 3 (I b4)).set 4 (I b5)).set 5 (I b6)).set 6 (I b7))
          have S1 := S1.chg F19 cg
          have SG := SG.chg (by intros; first | exact F9 | exact F9 (by assumption)) cg
          have K := cg.below K (by have := z1; omega) K.size
          refine hK.out _ _ (fun _ _ => ⟨OC, OT⟩) ?_
          clear hK K' cg
          refine AnyC.one (i := 13) (by kernel_rfl) (by rfl) (fun K' hK => ?_)
          go_simp
          refine hK.out _ _ (fun h => absurd rfl h) ?_
          clear hK K'
          refine AnyC.done (by kernel_rfl) ?_ _
          go_wp2_with fail
          go_meet
          exact ⟨g8, g9, a3, p3, rfl, rfl, rfl, O8, O9, OC, OX, OT, K, S1, SG, n8, n9, ne89⟩
        · skip
          go_simp
          have k := boxed_below W (.cells #[I 0, I 0, I 0, I 0, I 0, I 0, I 0] 50)
          have O9 := Own.new (w := W) rfl [I 0, I 0, I 0, I 0, I 0, I 0, I 0] 50
          have F19 := S1.farNew (Nat.le_refl W.heap.size)
          (try have F9 := SG.farNew (Nat.le_refl W.heap.size))
          have n9 : w1.heap.size < W.heap.size := OC.lt
          (try have n89 := O8.lt)
          replace OX := OX.below k
          replace OT := OT.below k
          replace OC := OC.below k
          replace S1 := S1.below k
          (try replace ST := ST.below k)
          (try replace SG := SG.below k)
          (try replace O8 := O8.below k)
          (try replace O9 := O9.below k)
          replace K := K.trans (k.mono K.size)
          clear k
          refine hK.out _ _ (fun _ _ => ⟨OC, OT⟩) ?_
          clear hK K'
          (try simp only [Act.put])
          generalize W.heap.size = g9 at *
          generalize World.alloc W (.cells #[I 0, I 0, I 0, I 0, I 0, I 0, I 0] 50) = W at *
          refine AnyC.one (i := 4) (by kernel_rfl) (by rfl) (fun K' hK => ?_)
          go_simp
          (with_reducible refine (T.out _ _ _ S1 ST).mono ?_)
          rintro e W ⟨v3, rfl, SG, k, FB⟩
          (try have F8 := FB.far O8.lt)
          (try have F9 := FB.far O9.lt)
          clear FB
          replace OX := OX.below k
          replace OT := OT.below k
          replace OC := OC.below k
          replace S1 := S1.below k
          (try replace ST := ST.below k)
          (try replace SG := SG.below k)
          (try replace O8 := O8.below k)
          (try replace O9 := O9.below k)
          replace K := K.trans (k.mono K.size)
          clear k
          have SG' := SG
          obtain ⟨a3, p3, rfl, -⟩ := SG'
          (try go_simp)
          refine hK.out _ _ (fun _ _ => ⟨OC, OT⟩) ?_
          clear hK K'
          (try simp only [Act.put])
          have HH := And.intro OC OT
          refine AnyC.take (i := 5) (v := ?_) rfl (by kernel_rfl) (by kernel_rfl) (by kernel_rfl) (by kernel_rfl) (fun _ _ _ h => h) (Or.inl ⟨by rfl, ?_⟩) HH ?_
          rotate_left
          · (intro W hSw; first | (go_simp; done) | (go_simp; with_reducible rfl))
          (try simp only [Act.put])
          have HH := And.intro OC OT
          refine AnyC.take (i := 6) (v := ?_) rfl (by kernel_rfl) (by kernel_rfl) (by kernel_rfl) (by kernel_rfl) (fun _ _ _ h => h) (Or.inl ⟨by rfl, ?_⟩) HH ?_
          rotate_left
          · (intro W hSw; first | (go_simp; done) | (go_simp; with_reducible rfl))
          (try simp only [Act.put])
          have HH := And.intro OC OT
          refine AnyC.take (i := 7) (v := ?_) rfl (by kernel_rfl) (by kernel_rfl) (by kernel_rfl) (by kernel_rfl) (fun _ _ _ h => h) (Or.inl ⟨by rfl, ?_⟩) HH ?_
          rotate_left
          · (intro W hSw; first | (go_simp; done) | (go_simp; with_reducible rfl))
          (try simp only [Act.put])
          have HH := And.intro OC OT
          refine AnyC.take (i := 8) (v := ?_) rfl (by kernel_rfl) (by kernel_rfl) (by kernel_rfl) (by kernel_rfl) (fun _ _ _ h => h) (Or.inl ⟨by rfl, ?_⟩) HH ?_
          rotate_left
          · (intro W hSw; first | (go_simp; done) | (go_simp; with_reducible rfl))
          (try simp only [Act.put])
          have ne89 : g8 ≠ g9 := by omega
          have pO := O8
          have p0 := pO.cell 0 (by simp)
          have pf0 := pO.frozen 0
          have p1 := pO.cell 1 (by simp)
          have pf1 := pO.frozen 1
          have p2 := pO.cell 2 (by simp)
          have pf2 := pO.frozen 2
          have p3 := pO.cell 3 (by simp)
          have pf3 := pO.frozen 3
          have p4 := pO.cell 4 (by simp)
          have pf4 := pO.frozen 4
          have p5 := pO.cell 5 (by simp)
          have pf5 := pO.frozen 5
          have p6 := pO.cell 6 (by simp)
          have pf6 := pO.frozen 6
          simp only [Nat.zero_add, List.getD_cons_zero, List.getD_cons_succ] at p0 p1 p2 p3 p4 p5 p6
          clear pO
          refine AnyC.one (i := 11) (by kernel_rfl) (by rfl) (fun K' hK => ?_)
          go_simp
          clear p0 p1 p2 p3 p4 p5 p6 pf0 pf1 pf2 pf3 pf4 pf5 pf6
          have cg := ((((((((Chg.refl g8 W).set 0 (I y1)).set 1 (I y2)).set 2 (I y3)).set 3 (I y4)).set 4 (I y5)).set 5 (I y6)).set 6 (.slice a3 ys.length p3))
          have OX := OX.chg cg (by have := z1; omega)
          have OT := OT.chg cg (by have := z1; omega)
          have OC := OC.chg cg (by omega)
          have O9 := O9.chg cg (by omega)
          have O8 := (((((((O8.set 0 (I y1)).set 1 (I y2)).set 2 (I y3)).set 3 (I y4)).set 4 (I y5)).set 5 (I y6)).set 6 (.slice a3 ys.length p3))
          have S1 := S1.chg F18 cg
          have SG := SG.chg (by intros; first | exact F8 | exact F8 (by assumption)) cg
          have K := cg.below K (by have := z1; omega) K.size
          refine hK.out _ _ (fun _ _ => ⟨OC, OT⟩) ?_
          clear hK K' cg
          have qO := O9
          have q0 := qO.cell 0 (by simp)
          have qf0 := qO.frozen 0
          have q1 := qO.cell 1 (by simp)
          have qf1 := qO.frozen 1
          have q2 := qO.cell 2 (by simp)
          have qf2 := qO.frozen 2
          have q3 := qO.cell 3 (by simp)
          have qf3 := qO.frozen 3
          have q4 := qO.cell 4 (by simp)
          have qf4 := qO.frozen 4
          have q5 := qO.cell 5 (by simp)
          have qf5 := qO.frozen 5
          have q6 := qO.cell 6 (by simp)
          have qf6 := qO.frozen 6
          simp only [Nat.zero_add, List.getD_cons_zero, List.getD_cons_succ] at q0 q1 q2 q3 q4 q5 q6
          clear qO
          refine AnyC.one (i := 12) (by kernel_rfl) (by rfl) (fun K' hK => ?_)
          go_simp
          clear q0 q1 q2 q3 q4 q5 q6 qf0 qf1 qf2 qf3 qf4 qf5 qf6
          have cg := ((((((((Chg.refl g9 (((((((W.setCell ⟨g8, 0, none⟩ (I y1)).setCell ⟨g8, 1, none⟩ (I y2)).setCell ⟨g8, 2, none⟩ (I y3)).setCell ⟨g8, 3, none⟩ (I y4)).setCell ⟨g8, 4, none⟩ (I y5)).setCell ⟨g8, 5, none⟩ (I y6)).setCell ⟨g8, 6, none⟩ (.slice a3 ys.length p3))).set 0 (I b1)).set 1 (I b2)).set 2 (I b3)).set 3 (I b4)).set 4 (I b5)).set 5 (I b6)).set 6 (I b7))
          have OX := OX.chg cg (by have := z1; omega)
          have OT := OT.chg cg (by have := z1; omega)
          have OC := OC.chg cg (by omega)
          have O8 := O8.chg cg (by omega)
          have O9 := (((((((O9.set 0 (I b1)).set 1 (I b2)).set 2 (I b3)).set 3 (I b4)).set 4 (I b5)).set 5 (I b6)).set 6 (I b7))
          have S1 := S1.chg F19 cg
          have SG := SG.chg (by intros; first | exact F9 | exact F9 (by assumption)) cg
          have K := cg.below K (by have := z1; omega) K.size
          refine hK.out _ _ (fun _ _ => ⟨OC, OT⟩) ?_
          clear hK K' cg
          refine AnyC.one (i := 13) (by kernel_rfl) (by rfl) (fun K' hK => ?_)
          go_simp
          refine hK.out _ _ (fun h => absurd rfl h) ?_
          clear hK K'
          refine AnyC.done (by kernel_rfl) ?_ _
          go_wp2_with fail
          go_meet
          exact ⟨g8, g9, a3, p3, rfl, rfl, rfl, O8, O9, OC, OX, OT, K, S1, SG, n8, n9, ne89⟩
      · skip
        go_simp
        have k := boxed_below W (.cells #[I 0, I 0, I 0, I 0, I 0, I 0, I 0] 50)
        have O9 := Own.new (w := W) rfl [I 0, I 0, I 0, I 0, I 0, I 0, I 0] 50
        have F19 := S1.farNew (Nat.le_refl W.heap.size)
        (try have F9 := SG.farNew (Nat.le_refl W.heap.size))
        have n9 : w1.heap.size < W.heap.size := OC.lt
        (try have n89 := O8.lt)
        replace OX := OX.below k
        replace OT := OT.below k
        replace OC := OC.below k
        replace S1 := S1.below k
        (try replace ST := ST.below k)
        (try replace SG := SG.below k)
        (try replace O8 := O8.below k)
        (try replace O9 := O9.below k)
        replace K := K.trans (k.mono K.size)
        clear k
        refine hK.out _ _ (fun _ _ => ⟨OC, OT⟩) ?_
        clear hK K'
        (try simp only [Act.put])
        generalize W.heap.size = g9 at *
        generalize World.alloc W (.cells #[I 0, I 0, I 0, I 0, I 0, I 0, I 0] 50) = W at *
        refine AnyC.two (i := 4) (j := 9) (by kernel_rfl) (by rfl) (by rfl) (fun K' hK => ?_) (fun K' hK => ?_)
        · skip
          go_simp
          (with_reducible refine (T.out _ _ _ S1 ST).mono ?_)
          rintro e W ⟨v3, rfl, SG, k, FB⟩
          (try have F8 := FB.far O8.lt)
          (try have F9 := FB.far O9.lt)
          clear FB
          replace OX := OX.below k
          replace OT := OT.below k
          replace OC := OC.below k
          replace S1 := S1.below k
          (try replace ST := ST.below k)
          (try replace SG := SG.below k)
          (try replace O8 := O8.below k)
          (try replace O9 := O9.below k)
          replace K := K.trans (k.mono K.size)
          clear k
          have SG' := SG
          obtain ⟨a3, p3, rfl, -⟩ := SG'
          (try go_simp)
          refine hK.out _ _ (fun _ _ => ⟨OC, OT⟩) ?_
          clear hK K'
          (try simp only [Act.put])
          have HH := And.intro OC OT
          refine AnyC.take (i := 5) (v := ?_) rfl (by kernel_rfl) (by kernel_rfl) (by kernel_rfl) (by kernel_rfl) (fun _ _ _ h => h) (Or.inl ⟨by rfl, ?_⟩) HH ?_
          rotate_left
          · (intro W hSw; first | (go_simp; done) | (go_simp; with_reducible rfl))
          (try simp only [Act.put])
          have HH := And.intro OC OT
          refine AnyC.take (i := 6) (v := ?_) rfl (by kernel_rfl) (by kernel_rfl) (by kernel_rfl) (by kernel_rfl) (fun _ _ _ h => h) (Or.inl ⟨by rfl, ?_⟩) HH ?_
          rotate_left
          · (intro W hSw; first | (go_simp; done) | (go_simp; with_reducible rfl))
          (try simp only [Act.put])
          have HH := And.intro OC OT
          refine AnyC.take (i := 7) (v := ?_) rfl (by kernel_rfl) (by kernel_rfl) (by kernel_rfl) (by kernel_rfl) (fun _ _ _ h => h) (Or.inl ⟨by rfl, ?_⟩) HH ?_
          rotate_left
          · (intro W hSw; first | (go_simp; done) | (go_simp; with_reducible rfl))
          (try simp only [Act.put])
          have HH := And.intro OC OT
          refine AnyC.take (i := 8) (v := ?_) rfl (by kernel_rfl) (by kernel_rfl) (by kernel_rfl) (by kernel_rfl) (fun _ _ _ h => h) (Or.inl ⟨by rfl, ?_⟩) HH ?_
          rotate_left
          · (intro W hSw; first | (go_simp; done) | (go_simp; with_reducible rfl))
          (try simp only [Act.put])
          refine AnyC.one (i := 9) (by kernel_rfl) (by rfl) (fun K' hK => ?_)
          go_simp
          have k := boxed_below W (.cells #[I 0, I 0, I 0, I 0, I 0, I 0, .slice none 0 0] 39)
          have O8 := Own.new (w := W) rfl [I 0, I 0, I 0, I 0, I 0, I 0, .slice none 0 0] 39
          have F18 := S1.farNew (Nat.le_refl W.heap.size)
          (try have F8 := SG.farNew (Nat.le_refl W.heap.size))
          have n8 : w1.heap.size < W.heap.size := OC.lt
          (try have n98 := O9.lt)
          replace OX := OX.below k
          replace OT := OT.below k
          replace OC := OC.below k
          replace S1 := S1.below k
          (try replace ST := ST.below k)
          (try replace SG := SG.below k)
          (try replace O8 := O8.below k)
          (try replace O9 := O9.below k)
          replace K := K.trans (k.mono K.size)
          clear k
          refine hK.out _ _ (fun _ _ => ⟨OC, OT⟩) ?_
          clear hK K'
          (try simp only [Act.put])
          generalize W.heap.size = g8 at *
          generalize World.alloc W (.cells #[I 0, I 0, I 0, I 0, I 0, I 0, .slice none 0 0] 39) = W at *
          have ne89 : g8 ≠ g9 := by omega
          have pO := O8
          have p0 := pO.cell 0 (by simp)
          have pf0 := pO.frozen 0
          have p1 := pO.cell 1 (by simp)
          have pf1 := pO.frozen 1
          have p2 := pO.cell 2 (by simp)
          have pf2 := pO.frozen 2
          have p3 := pO.cell 3 (by simp)
          have pf3 := pO.frozen 3
          have p4 := pO.cell 4 (by simp)
          have pf4 := pO.frozen 4
          have p5 := pO.cell 5 (by simp)
          have pf5 := pO.frozen 5
          have p6 := pO.cell 6 (by simp)
          have pf6 := pO.frozen 6
          simp only [Nat.zero_add, List.getD_cons_zero, List.getD_cons_succ] at p0 p1 p2 p3 p4 p5 p6
          clear pO
          refine AnyC.one (i := 11) (by kernel_rfl) (by rfl) (fun K' hK => ?_)
          go_simp
          clear p0 p1 p2 p3 p4 p5 p6 pf0 pf1 pf2 pf3 pf4 pf5 pf6
          have cg := ((((((((Chg.refl g8 W).set 0 (I y1)).set 1 (I y2)).set 2 (I y3)).set 3 (I y4)).set 4 (I y5)).set 5 (I y6)).set 6 (.slice a3 ys.length p3))
          have OX := OX.chg cg (by have := z1; omega)
          have OT := OT.chg cg (by have := z1; omega)
          have OC := OC.chg cg (by omega)
          have O9 := O9.chg cg (by omega)
          have O8 := (((((((O8.set 0 (I y1)).set 1 (I y2)).set 2 (I y3)).set 3 (I y4)).set 4 (I y5)).set 5 (I y6)).set 6 (.slice a3 ys.length p3))
          have S1 := S1.chg F18 cg
          have SG := SG.chg (by intros; first | exact F8 | exact F8 (by assumption)) cg
          have K := cg.below K (by have := z1; omega) K.size
          refine hK.out _ _ (fun _ _ => ⟨OC, OT⟩) ?_
          clear hK K' cg
          have qO := O9
          have q0 := qO.cell 0 (by simp)
          have qf0 := qO.frozen 0
          have q1 := qO.cell 1 (by simp)
          have qf1 := qO.frozen 1
          have q2 := qO.cell 2 (by simp)
          have qf2 := qO.frozen 2
          have q3 := qO.cell 3 (by simp)
          have qf3 := qO.frozen 3
          have q4 := qO.cell 4 (by simp)
          have qf4 := qO.frozen 4
          have q5 := qO.cell 5 (by simp)
          have qf5 := qO.frozen 5
          have q6 := qO.cell 6 (by simp)
          have qf6 := qO.frozen 6
          simp only [Nat.zero_add, List.getD_cons_zero, List.getD_cons_succ] at q0 q1 q2 q3 q4 q5 q6
          clear qO
          refine AnyC.one (i := 12) (by kernel_rfl) (by rfl) (fun K' hK => ?_)
          go_simp
          clear q0 q1 q2 q3 q4 q5 q6 qf0 qf1 qf2 qf3 qf4 qf5 qf6
          have cg := ((((((((Chg.refl g9 (((((((W.setCell ⟨g8, 0, none⟩ (I y1)).setCell ⟨g8, 1, none⟩ (I y2)).setCell ⟨g8, 2, none⟩ (I y3)).setCell ⟨g8, 3, none⟩ (I y4)).setCell ⟨g8, 4, none⟩ (I y5)).setCell ⟨g8, 5, none⟩ (I y6)).setCell ⟨g8, 6, none⟩ (.slice a3 ys.length p3))).set 0 (I b1)).set 1 (I b2)).set 2 (I b3)).set 3 (I b4)).set 4 (I b5)).set 5 (I b6)).set 6 (I b7))
          have OX := OX.chg cg (by have := z1; omega)
          have OT := OT.chg cg (by have := z1; omega)
          have OC := OC.chg cg (by omega)
          have O8 := O8.chg cg (by omega)
          have O9 := (((((((O9.set 0 (I b1)).set 1 (I b2)).set 2 (I b3)).set 3 (I b4)).set 4 (I b5)).set 5 (I b6)).set 6 (I b7))
          have S1 := S1.chg F19 cg
          have SG := SG.chg (by intros; first | exact F9 | exact F9 (by assumption)) cg
          have K := cg.below K (by have := z1; omega) K.size
          refine hK.out _ _ (fun _ _ => ⟨OC, OT⟩) ?_
          clear hK K' cg
          refine AnyC.one (i := 13) (by kernel_rfl) (by rfl) (fun K' hK => ?_)
          go_simp
          refine hK.out _ _ (fun h => absurd rfl h) ?_
          clear hK K'
          refine AnyC.done (by kernel_rfl) ?_ _
          go_wp2_with fail
          go_meet
          exact ⟨g8, g9, a3, p3, rfl, rfl, rfl, O8, O9, OC, OX, OT, K, S1, SG, n8, n9, ne89⟩
        · skip
          go_simp
          have k := boxed_below W (.cells #[I 0, I 0, I 0, I 0, I 0, I 0, .slice none 0 0] 39)
          have O8 := Own.new (w := W) rfl [I 0, I 0, I 0, I 0, I 0, I 0, .slice none 0 0] 39
          have F18 := S1.farNew (Nat.le_refl W.heap.size)
          (try have F8 := SG.farNew (Nat.le_refl W.heap.size))
          have n8 : w1.heap.size < W.heap.size := OC.lt
          (try have n98 := O9.lt)
          replace OX := OX.below k
          replace OT := OT.below k
          replace OC := OC.below k
          replace S1 := S1.below k
          (try replace ST := ST.below k)
          (try replace SG := SG.below k)
          (try replace O8 := O8.below k)
          (try replace O9 := O9.below k)
          replace K := K.trans (k.mono K.size)
          clear k
          refine hK.out _ _ (fun _ _ => ⟨OC, OT⟩) ?_
          clear hK K'
          (try simp only [Act.put])
          generalize W.heap.size = g8 at *
          generalize World.alloc W (.cells #[I 0, I 0, I 0, I 0, I 0, I 0, .slice none 0 0] 39) = W at *
          refine AnyC.one (i := 4) (by kernel_rfl) (by rfl) (fun K' hK => ?_)
          go_simp
          (with_reducible refine (T.out _ _ _ S1 ST).mono ?_)
          rintro e W ⟨v3, rfl, SG, k, FB⟩
          (try have F8 := FB.far O8.lt)
          (try have F9 := FB.far O9.lt)
          clear FB
          replace OX := OX.below k
          replace OT := OT.below k
          replace OC := OC.below k
          replace S1 := S1.below k
          (try replace ST := ST.below k)
          (try replace SG := SG.below k)
          (try replace O8 := O8.below k)
          (try replace O9 := O9.below k)
          replace K := K.trans (k.mono K.size)
          clear k
          have SG' := SG
          obtain ⟨a3, p3, rfl, -⟩ := SG'
          (try go_simp)
          refine hK.out _ _ (fun _ _ => ⟨OC, OT⟩) ?_
          clear hK K'
          (try simp only [Act.put])
          have HH := And.intro OC OT
          refine AnyC.take (i := 5) (v := ?_) rfl (by kernel_rfl) (by kernel_rfl) (by kernel_rfl) (by kernel_rfl) (fun _ _ _ h => h) (Or.inl ⟨by rfl, ?_⟩) HH ?_
          rotate_left
          · (intro W hSw; first | (go_simp; done) | (go_simp; with_reducible rfl))
          (try simp only [Act.put])
          have HH := And.intro OC OT
          refine AnyC.take (i := 6) (v := ?_) rfl (by kernel_rfl) (by kernel_rfl) (by kernel_rfl) (by kernel_rfl) (fun _ _ _ h => h) (Or.inl ⟨by rfl, ?_⟩) HH ?_
          rotate_left
          · (intro W hSw; first | (go_simp; done) | (go_simp; with_reducible rfl))
          (try simp only [Act.put])
          have HH := And.intro OC OT
          refine AnyC.take (i := 7) (v := ?_) rfl (by kernel_rfl) (by kernel_rfl) (by kernel_rfl) (by kernel_rfl) (fun _ _ _ h => h) (Or.inl ⟨by rfl, ?_⟩) HH ?_
          rotate_left
          · (intro W hSw; first | (go_simp; done) | (go_simp; with_reducible rfl))
          (try simp only [Act.put])
          have HH := And.intro OC OT
          refine AnyC.take (i := 8) (v := ?_) rfl (by kernel_rfl) (by kernel_rfl) (by kernel_rfl) (by kernel_rfl) (fun _ _ _ h => h) (Or.inl ⟨by rfl, ?_⟩) HH ?_
          rotate_left
          · (intro W hSw; first | (go_simp; done) | (go_simp; with_reducible rfl))
          (try simp only [Act.put])
          have ne89 : g8 ≠ g9 := by omega
          have pO := O8
          have p0 := pO.cell 0 (by simp)
          have pf0 := pO.frozen 0
          have p1 := pO.cell 1 (by simp)
          have pf1 := pO.frozen 1
          have p2 := pO.cell 2 (by simp)
          have pf2 := pO.frozen 2
          have p3 := pO.cell 3 (by simp)
          have pf3 := pO.frozen 3
          have p4 := pO.cell 4 (by simp)
          have pf4 := pO.frozen 4
          have p5 := pO.cell 5 (by simp)
          have pf5 := pO.frozen 5
          have p6 := pO.cell 6 (by simp)
          have pf6 := pO.frozen 6
          simp only [Nat.zero_add, List.getD_cons_zero, List.getD_cons_succ] at p0 p1 p2 p3 p4 p5 p6
          clear pO
          refine AnyC.one (i := 11) (by kernel_rfl) (by rfl) (fun K' hK => ?_)
          go_simp
          clear p0 p1 p2 p3 p4 p5 p6 pf0 pf1 pf2 pf3 pf4 pf5 pf6
          have cg := ((((((((Chg.refl g8 W).set 0 (I y1)).set 1 (I y2)).set 2 (I y3)).set 3 (I y4)).set 4 (I y5)).set 5 (I y6)).set 6 (.slice a3 ys.length p3))
          have OX := OX.chg cg (by have := z1; omega)
          have OT := OT.chg cg (by have := z1; omega)
          have OC := OC.chg cg (by omega)
          have O9 := O9.chg cg (by omega)
          have O8 := (((((((O8.set 0 (I y1)).set 1 (I y2)).set 2 (I y3)).set 3 (I y4)).set 4 (I y5)).set 5 (I y6)).set 6 (.slice a3 ys.length p3))
          have S1 := S1.chg F18 cg
          have SG := SG.chg (by intros; first | exact F8 | exact F8 (by assumption)) cg
          have K := cg.below K (by have := z1; omega) K.size
          refine hK.out _ _ (fun _ _ => ⟨OC, OT⟩) ?_
          clear hK K' cg
          have qO := O9
          have q0 := qO.cell 0 (by simp)
          have qf0 := qO.frozen 0
          have q1 := qO.cell 1 (by simp)
          have qf1 := qO.frozen 1
          have q2 := qO.cell 2 (by simp)
          have qf2 := qO.frozen 2
          have q3 := qO.cell 3 (by simp)
          have qf3 := qO.frozen 3
          have q4 := qO.cell 4 (by simp)
          have qf4 := qO.frozen 4
          have q5 := qO.cell 5 (by simp)
          have qf5 := qO.frozen 5
          have q6 := qO.cell 6 (by simp)
          have qf6 := qO.frozen 6
          simp only [Nat.zero_add, List.getD_cons_zero, List.getD_cons_succ] at q0 q1 q2 q3 q4 q5 q6
          clear qO
          refine AnyC.one (i := 12) (by kernel_rfl) (by rfl) (fun K' hK => ?_)
          go_simp
          clear q0 q1 q2 q3 q4 q5 q6 qf0 qf1 qf2 qf3 qf4 qf5 qf6
          have cg := ((((((((Chg.refl g9 (((((((W.setCell ⟨g8, 0, none⟩ (I y1)).setCell ⟨g8, 1, none⟩ (I y2)).setCell ⟨g8, 2, none⟩ (I y3)).setCell ⟨g8, 3, none⟩ (I y4)).setCell ⟨g8, 4, none⟩ (I y5)).setCell ⟨g8, 5, none⟩ (I y6)).setCell ⟨g8, 6, none⟩ (.slice a3 ys.length p3))).set 0 (I b1)).set 1 (I b2)).set 2 (I b3)).set 3 (I b4)).set 4 (I b5)).set 5 (I b6)).set 6 (I b7))
          have OX := OX.chg cg (by have := z1; omega)
          have OT := OT.chg cg (by have := z1; omega)
          have OC := OC.chg cg (by omega)
          have O8 := O8.chg cg (by omega)
          have O9 := (((((((O9.set 0 (I b1)).set 1 (I b2)).set 2 (I b3)).set 3 (I b4)).set 4 (I b5)).set 5 (I b6)).set 6 (I b7))
          have S1 := S1.chg F19 cg
          have SG := SG.chg (by intros; first | exact F9 | exact F9 (by assumption)) cg
          have K := cg.below K (by have := z1; omega) K.size
          refine hK.out _ _ (fun _ _ => ⟨OC, OT⟩) ?_
          clear hK K' cg
          refine AnyC.one (i := 13) (by kernel_rfl) (by rfl) (fun K' hK => ?_)
          go_simp
          refine hK.out _ _ (fun h => absurd rfl h) ?_
          clear hK K'
          refine AnyC.done (by kernel_rfl) ?_ _
          go_wp2_with fail
          go_meet
          exact ⟨g8, g9, a3, p3, rfl, rfl, rfl, O8, O9, OC, OX, OT, K, S1, SG, n8, n9, ne89⟩
    · skip
      go_simp
      have k := boxed_below W (.cells #[I 0, I 0, I 0, I 0, I 0, I 0, .slice none 0 0] 39)
      have O8 := Own.new (w := W) rfl [I 0, I 0, I 0, I 0, I 0, I 0, .slice none 0 0] 39
      have F18 := S1.farNew (Nat.le_refl W.heap.size)
      (try have F8 := SG.farNew (Nat.le_refl W.heap.size))
      have n8 : w1.heap.size < W.heap.size := OC.lt
      (try have n98 := O9.lt)
      replace OX := OX.below k
      replace OT := OT.below k
      replace OC := OC.below k
      replace S1 := S1.below k
      (try replace ST := ST.below k)
      (try replace SG := SG.below k)
      (try replace O8 := O8.below k)
      (try replace O9 := O9.below k)
      replace K := K.trans (k.mono K.size)
      clear k
      refine hK.out _ _ (fun _ _ => ⟨OC, OT⟩) ?_
      clear hK K'
      (try simp only [Act.put])
      generalize W.heap.size = g8 at *
      generalize World.alloc W (.cells #[I 0, I 0, I 0, I 0, I 0, I 0, .slice none 0 0] 39) = W at *
      refine AnyC.two (i := 2) (j := 10) (by kernel_rfl) (by rfl) (by rfl) (fun K' hK => ?_) (fun K' hK => ?_)
      · skip
        go_simp
        (with_reducible refine (C.out _ (ht.below K)).mono ?_)
        rintro e W ⟨s, rfl, ST, k⟩
        replace OX := OX.below k
        replace OT := OT.below k
        replace OC := OC.below k
        replace S1 := S1.below k
        (try replace ST := ST.below k)
        (try replace SG := SG.below k)
        (try replace O8 := O8.below k)
        (try replace O9 := O9.below k)
        replace K := K.trans (k.mono K.size)
        clear k
        have ST' := ST
        obtain ⟨a2, p2, rfl, -⟩ := ST'
        (try go_simp)
        refine hK.out _ _ (fun _ _ => ⟨OC, OT⟩) ?_
        clear hK K'
        (try simp only [Act.put])
        refine AnyC.two (i := 4) (j := 10) (by kernel_rfl) (by rfl) (by rfl) (fun K' hK => ?_) (fun K' hK => ?_)
        · skip
          go_simp
          (with_reducible refine (T.out _ _ _ S1 ST).mono ?_)
          rintro e W ⟨v3, rfl, SG, k, FB⟩
          (try have F8 := FB.far O8.lt)
          (try have F9 := FB.far O9.lt)
          clear FB
          replace OX := OX.below k
          replace OT := OT.below k
          replace OC := OC.below k
          replace S1 := S1.below k
          (try replace ST := ST.below k)
          (try replace SG := SG.below k)
          (try replace O8 := O8.below k)
          (try replace O9 := O9.below k)
          replace K := K.trans (k.mono K.size)
          clear k
          have SG' := SG
          obtain ⟨a3, p3, rfl, -⟩ := SG'
          (try go_simp)
          refine hK.out _ _ (fun _ _ => ⟨OC, OT⟩) ?_
          clear hK K'
          (try simp only [Act.put])
          have HH := And.intro OC OT
          refine AnyC.take (i := 5) (v := ?_) rfl (by kernel_rfl) (by kernel_rfl) (by kernel_rfl) (by kernel_rfl) (fun _ _ _ h => h) (Or.inl ⟨by rfl, ?_⟩) HH ?_
          rotate_left
          · (intro W hSw; first | (go_simp; done) | (go_simp; with_reducible rfl))
          (try simp only [Act.put])
          have HH := And.intro OC OT
          refine AnyC.take (i := 6) (v := ?_) rfl (by kernel_rfl) (by kernel_rfl) (by kernel_rfl) (by kernel_rfl) (fun _ _ _ h => h) (Or.inl ⟨by rfl, ?_⟩) HH ?_
          rotate_left
          · (intro W hSw; first | (go_simp; done) | (go_simp; with_reducible rfl))
          (try simp only [Act.put])
          have HH := And.intro OC OT
          refine AnyC.take (i := 7) (v := ?_) rfl (by kernel_rfl) (by kernel_rfl) (by kernel_rfl) (by kernel_rfl) (fun _ _ _ h => h) (Or.inl ⟨by rfl, ?_⟩) HH ?_
          rotate_left
          · (intro W hSw; first | (go_simp; done) | (go_simp; with_reducible rfl))
          (try simp only [Act.put])
          have HH := And.intro OC OT
          refine AnyC.take (i := 8) (v := ?_) rfl (by kernel_rfl) (by kernel_rfl) (by kernel_rfl) (by kernel_rfl) (fun _ _ _ h => h) (Or.inl ⟨by rfl, ?_⟩) HH ?_
          rotate_left
          · (intro W hSw; first | (go_simp; done) | (go_simp; with_reducible rfl))
          (try simp only [Act.put])
          refine AnyC.one (i := 10) (by kernel_rfl) (by rfl) (fun K' hK => ?_)
          go_simp
          have k := boxed_below W (.cells #[I 0, I 0, I 0, I 0, I 0, I 0, I 0] 50)
          have O9 := Own.new (w := W) rfl [I 0, I 0, I 0, I 0, I 0, I 0, I 0] 50
          have F19 := S1.farNew (Nat.le_refl W.heap.size)
          (try have F9 := SG.farNew (Nat.le_refl W.heap.size))
          have n9 : w1.heap.size < W.heap.size := OC.lt
          (try have n89 := O8.lt)
          replace OX := OX.below k
          replace OT := OT.below k
          replace OC := OC.below k
          replace S1 := S1.below k
          (try replace ST := ST.below k)
          (try replace SG := SG.below k)
          (try replace O8 := O8.below k)
          (try replace O9 := O9.below k)
          replace K := K.trans (k.mono K.size)
          clear k
          refine hK.out _ _ (fun _ _ => ⟨OC, OT⟩) ?_
          clear hK K'
          (try simp only [Act.put])
          generalize W.heap.size = g9 at *
          generalize World.alloc W (.cells #[I 0, I 0, I 0, I 0, I 0, I 0, I 0] 50) = W at *
          have ne89 : g8 ≠ g9 := by omega
          have pO := O8
          have p0 := pO.cell 0 (by simp)
          have pf0 := pO.frozen 0
          have p1 := pO.cell 1 (by simp)
          have pf1 := pO.frozen 1
          have p2 := pO.cell 2 (by simp)
          have pf2 := pO.frozen 2
          have p3 := pO.cell 3 (by simp)
          have pf3 := pO.frozen 3
          have p4 := pO.cell 4 (by simp)
          have pf4 := pO.frozen 4
          have p5 := pO.cell 5 (by simp)
          have pf5 := pO.frozen 5
          have p6 := pO.cell 6 (by simp)
          have pf6 := pO.frozen 6
          simp only [Nat.zero_add, List.getD_cons_zero, List.getD_cons_succ] at p0 p1 p2 p3 p4 p5 p6
          clear pO
          refine AnyC.one (i := 11) (by kernel_rfl) (by rfl) (fun K' hK => ?_)
          go_simp
          clear p0 p1 p2 p3 p4 p5 p6 pf0 pf1 pf2 pf3 pf4 pf5 pf6
          have cg := ((((((((Chg.refl g8 W).set 0 (I y1)).set 1 (I y2)).set 2 (I y3)).set 3 (I y4)).set 4 (I y5)).set 5 (I y6)).set 6 (.slice a3 ys.length p3))
          have OX := OX.chg cg (by have := z1; omega)
          have OT := OT.chg cg (by have := z1; omega)
          have OC := OC.chg cg (by omega)
          have O9 := O9.chg cg (by omega)
          have O8 := (((((((O8.set 0 (I y1)).set 1 (I y2)).set 2 (I y3)).set 3 (I y4)).set 4 (I y5)).set 5 (I y6)).set 6 (.slice a3 ys.length p3))
          have S1 := S1.chg F18 cg
          have SG := SG.chg (by intros; first | exact F8 | exact F8 (by assumption)) cg
          have K := cg.below K (by have := z1; omega) K.size
          refine hK.out _ _ (fun _ _ => ⟨OC, OT⟩) ?_
          clear hK K' cg
          have qO := O9
          have q0 := qO.cell 0 (by simp)
          have qf0 := qO.frozen 0
          have q1 := qO.cell 1 (by simp)
          have qf1 := qO.frozen 1
          have q2 := qO.cell 2 (by simp)
          have qf2 := qO.frozen 2
          have q3 := qO.cell 3 (by simp)
          have qf3 := qO.frozen 3
          have q4 := qO.cell 4 (by simp)
          have qf4 := qO.frozen 4
          have q5 := qO.cell 5 (by simp)
          have qf5 := qO.frozen 5
          have q6 := qO.cell 6 (by simp)
          have qf6 := qO.frozen 6
          simp only [Nat.zero_add, List.getD_cons_zero, List.getD_cons_succ] at q0 q1 q2 q3 q4 q5 q6
          clear qO
          refine AnyC.one (i := 12) (by kernel_rfl) (by rfl) (fun K' hK => ?_)
          go_simp
          clear q0 q1 q2 q3 q4 q5 q6 qf0 qf1 qf2 qf3 qf4 qf5 qf6
          have cg := ((((((((Chg.refl g9 (((((((W.setCell ⟨g8, 0, none⟩ (I y1)).setCell ⟨g8, 1, none⟩ (I y2)).setCell ⟨g8, 2, none⟩ (I y3)).setCell ⟨g8, 3, none⟩ (I y4)).setCell ⟨g8, 4, none⟩ (I y5)).setCell ⟨g8, 5, none⟩ (I y6)).setCell ⟨g8, 6, none⟩ (.slice a3 ys.length p3))).set 0 (I b1)).set 1 (I b2)).set 2 (I b3)).set 3 (I b4)).set 4 (I b5)).set 5 (I b6)).set 6 (I b7))
          have OX := OX.chg cg (by have := z1; omega)
          have OT := OT.chg cg (by have := z1; omega)
          have OC := OC.chg cg (by omega)
          have O8 := O8.chg cg (by omega)
          have O9 := (((((((O9.set 0 (I b1)).set 1 (I b2)).set 2 (I b3)).set 3 (I b4)).set 4 (I b5)).set 5 (I b6)).set 6 (I b7))
          have S1 := S1.chg F19 cg
          have SG := SG.chg (by intros; first | exact F9 | exact F9 (by assumption)) cg
          have K := cg.below K (by have := z1; omega) K.size
          refine hK.out _ _ (fun _ _ => ⟨OC, OT⟩) ?_
          clear hK K' cg
          refine AnyC.one (i := 13) (by kernel_rfl) (by rfl) (fun K' hK => ?_)
          go_simp
          refine hK.out _ _ (fun h => absurd rfl h) ?_
          clear hK K'
          refine AnyC.done (by kernel_rfl) ?_ _
          go_wp2_with fail
          go_meet
          exact ⟨g8, g9, a3, p3, rfl, rfl, rfl, O8, O9, OC, OX, OT, K, S1, SG, n8, n9, ne89⟩
        · skip
          go_simp
          have k := boxed_below W (.cells #[I 0, I 0, I 0, I 0, I 0, I 0, I 0] 50)
          have O9 := Own.new (w := W) rfl [I 0, I 0, I 0, I 0, I 0, I 0, I 0] 50
          have F19 := S1.farNew (Nat.le_refl W.heap.size)
          (try have F9 := SG.farNew (Nat.le_refl W.heap.size))
          have n9 : w1.heap.size < W.heap.size := OC.lt
          (try have n89 := O8.lt)
          replace OX := OX.below k
          replace OT := OT.below k
          replace OC := OC.below k
          replace S1 := S1.below k
          (try replace ST := ST.below k)
          (try replace SG := SG.below k)
          (try replace O8 := O8.below k)
          (try replace O9 := O9.below k)
          replace K := K.trans (k.mono K.size)
          clear k
          refine hK.out _ _ (fun _ _ => ⟨OC, OT⟩) ?_
          clear hK K'
          (try simp only [Act.put])
          generalize W.heap.size = g9 at *
          generalize World.alloc W (.cells #[I 0, I 0, I 0, I 0, I 0, I 0, I 0] 50) = W at *
          refine AnyC.one (i := 4) (by kernel_rfl) (by rfl) (fun K' hK => ?_)
          go_simp
          (with_reducible refine (T.out _ _ _ S1 ST).mono ?_)
          rintro e W ⟨v3, rfl, SG, k, FB⟩
          (try have F8 := FB.far O8.lt)
          (try have F9 := FB.far O9.lt)
          clear FB
          replace OX := OX.below k
          replace OT := OT.below k
          replace OC := OC.below k
          replace S1 := S1.below k
          (try replace ST := ST.below k)
          (try replace SG := SG.below k)
          (try replace O8 := O8.below k)
          (try replace O9 := O9.below k)
          replace K := K.trans (k.mono K.size)
          clear k
          have SG' := SG
          obtain ⟨a3, p3, rfl, -⟩ := SG'
          (try go_simp)
          refine hK.out _ _ (fun _ _ => ⟨OC, OT⟩) ?_
          clear hK K'
          (try simp only [Act.put])
          have HH := And.intro OC OT
          refine AnyC.take (i := 5) (v := ?_) rfl (by kernel_rfl) (by kernel_rfl) (by kernel_rfl) (by kernel_rfl) (fun _ _ _ h => h) (Or.inl ⟨by rfl, ?_⟩) HH ?_
          rotate_left
          · (intro W hSw; first | (go_simp; done) | (go_simp; with_reducible rfl))
          (try simp only [Act.put])
          have HH := And.intro OC OT
          refine AnyC.take (i := 6) (v := ?_) rfl (by kernel_rfl) (by kernel_rfl) (by kernel_rfl) (by kernel_rfl) (fun _ _ _ h => h) (Or.inl ⟨by rfl, ?_⟩) HH ?_
          rotate_left
          · (intro W hSw; first | (go_simp; done) | (go_simp; with_reducible rfl))
          (try simp only [Act.put])
          have HH := And.intro OC OT
          refine AnyC.take (i := 7) (v := ?_) rfl (by kernel_rfl) (by kernel_rfl) (by kernel_rfl) (by kernel_rfl) (fun _ _ _ h => h) (Or.inl ⟨by rfl, ?_⟩) HH ?_
          rotate_left
          · (intro W hSw; first | (go_simp; done) | (go_simp; with_reducible rfl))
          (try simp only [Act.put])
          have HH := And.intro OC OT
          refine AnyC.take (i := 8) (v := ?_) rfl (by kernel_rfl) (by kernel_rfl) (by kernel_rfl) (by kernel_rfl) (fun _ _ _ h => h) (Or.inl ⟨by rfl, ?_⟩) HH ?_
          rotate_left
          · (intro W hSw; first | (go_simp; done) | (go_simp; with_reducible rfl))
          (try simp only [Act.put])
          have ne89 : g8 ≠ g9 := by omega
          have pO := O8
          have p0 := pO.cell 0 (by simp)
          have pf0 := pO.frozen 0
          have p1 := pO.cell 1 (by simp)
          have pf1 := pO.frozen 1
          have p2 := pO.cell 2 (by simp)
          have pf2 := pO.frozen 2
          have p3 := pO.cell 3 (by simp)
          have pf3 := pO.frozen 3
          have p4 := pO.cell 4 (by simp)
          have pf4 := pO.frozen 4
          have p5 := pO.cell 5 (by simp)
          have pf5 := pO.frozen 5
          have p6 := pO.cell 6 (by simp)
          have pf6 := pO.frozen 6
          simp only [Nat.zero_add, List.getD_cons_zero, List.getD_cons_succ] at p0 p1 p2 p3 p4 p5 p6
          clear pO
          refine AnyC.one (i := 11) (by kernel_rfl) (by rfl) (fun K' hK => ?_)
          go_simp
          clear p0 p1 p2 p3 p4 p5 p6 pf0 pf1 pf2 pf3 pf4 pf5 pf6
          have cg := ((((((((Chg.refl g8 W).set 0 (I y1)).set 1 (I y2)).set 2 (I y3)).set 3 (I y4)).set 4 (I y5)).set 5 (I y6)).set 6 (.slice a3 ys.length p3))
          have OX := OX.chg cg (by have := z1; omega)
          have OT := OT.chg cg (by have := z1; omega)
          have OC := OC.chg cg (by omega)
          have O9 := O9.chg cg (by omega)
          have O8 := (((((((O8.set 0 (I y1)).set 1 (I y2)).set 2 (I y3)).set 3 (I y4)).set 4 (I y5)).set 5 (I y6)).set 6 (.slice a3 ys.length p3))
          have S1 := S1.chg F18 cg
          have SG := SG.chg (by intros; first | exact F8 | exact F8 (by assumption)) cg
          have K := cg.below K (by have := z1; omega) K.size
          refine hK.out _ _ (fun _ _ => ⟨OC, OT⟩) ?_
          clear hK K' cg
          have qO := O9
          have q0 := qO.cell 0 (by simp)
          have qf0 := qO.frozen 0
          have q1 := qO.cell 1 (by simp)
          have qf1 := qO.frozen 1
          have q2 := qO.cell 2 (by simp)
          have qf2 := qO.frozen 2
          have q3 := qO.cell 3 (by simp)
          have qf3 := qO.frozen 3
          have q4 := qO.cell 4 (by simp)
          have qf4 := qO.frozen 4
          have q5 := qO.cell 5 (by simp)
          have qf5 := qO.frozen 5
          have q6 := qO.cell 6 (by simp)
          have qf6 := qO.frozen 6
          simp only [Nat.zero_add, List.getD_cons_zero, List.getD_cons_succ] at q0 q1 q2 q3 q4 q5 q6
          clear qO
          refine AnyC.one (i := 12) (by kernel_rfl) (by rfl) (fun K' hK => ?_)
          go_simp
          clear q0 q1 q2 q3 q4 q5 q6 qf0 qf1 qf2 qf3 qf4 qf5 qf6
          have cg := ((((((((Chg.refl g9 (((((((W.setCell ⟨g8, 0, none⟩ (I y1)).setCell ⟨g8, 1, none⟩ (I y2)).setCell ⟨g8, 2, none⟩ (I y3)).setCell ⟨g8, 3, none⟩ (I y4)).setCell ⟨g8, 4, none⟩ (I y5)).setCell ⟨g8, 5, none⟩ (I y6)).setCell ⟨g8, 6, none⟩ (.slice a3 ys.length p3))).set 0 (I b1)).set 1 (I b2)).set 2 (I b3)).set 3 (I b4)).set 4 (I b5)).set 5 (I b6)).set 6 (I b7))
          have OX := OX.chg cg (by have := z1; omega)
          have OT := OT.chg cg (by have := z1; omega)
          have OC := OC.chg cg (by omega)
          have O8 := O8.chg cg (by omega)
          have O9 := (((((((O9.set 0 (I b1)).set 1 (I b2)).set 2 (I b3)).set 3 (I b4)).set 4 (I b5)).set 5 (I b6)).set 6 (I b7))
          have S1 := S1.chg F19 cg
          have SG := SG.chg (by intros; first | exact F9 | exact F9 (by assumption)) cg
          have K := cg.below K (by have := z1; omega) K.size
          refine hK.out _ _ (fun _ _ => ⟨OC, OT⟩) ?_
          clear hK K' cg
          refine AnyC.one (i := 13) (by kernel_rfl) (by rfl) (fun K' hK => ?_)
          go_simp
          refine hK.out _ _ (fun h => absurd rfl h) ?_
          clear hK K'
          refine AnyC.done (by kernel_rfl) ?_ _
          go_wp2_with fail
          go_meet
          exact ⟨g8, g9, a3, p3, rfl, rfl, rfl, O8, O9, OC, OX, OT, K, S1, SG, n8, n9, ne89⟩
      · skip
        go_simp
        have k := boxed_below W (.cells #[I 0, I 0, I 0, I 0, I 0, I 0, I 0] 50)
        have O9 := Own.new (w := W) rfl [I 0, I 0, I 0, I 0, I 0, I 0, I 0] 50
        have F19 := S1.farNew (Nat.le_refl W.heap.size)
        (try have F9 := SG.farNew (Nat.le_refl W.heap.size))
        have n9 : w1.heap.size < W.heap.size := OC.lt
        (try have n89 := O8.lt)
        replace OX := OX.below k
        replace OT := OT.below k
        replace OC := OC.below k
        replace S1 := S1.below k
        (try replace ST := ST.below k)
        (try replace SG := SG.below k)
        (try replace O8 := O8.below k)
        (try replace O9 := O9.below k)
        replace K := K.trans (k.mono K.size)
        clear k
        refine hK.out _ _ (fun _ _ => ⟨OC, OT⟩) ?_
        clear hK K'
        (try simp only [Act.put])
        generalize W.heap.size = g9 at *
        generalize World.alloc W (.cells #[I 0, I 0, I 0, I 0, I 0, I 0, I 0] 50) = W at *
        refine AnyC.one (i := 2) (by kernel_rfl) (by rfl) (fun K' hK => ?_)
        go_simp
        (with_reducible refine (C.out _ (ht.below K)).mono ?_)
        rintro e W ⟨s, rfl, ST, k⟩
        replace OX := OX.below k
        replace OT := OT.below k
        replace OC := OC.below k
        replace S1 := S1.below k
        (try replace ST := ST.below k)
        (try replace SG := SG.below k)
        (try replace O8 := O8.below k)
        (try replace O9 := O9.below k)
        replace K := K.trans (k.mono K.size)
        clear k
        have ST' := ST
        obtain ⟨a2, p2, rfl, -⟩ := ST'
        (try go_simp)
        refine hK.out _ _ (fun _ _ => ⟨OC, OT⟩) ?_
        clear hK K'
        (try simp only [Act.put])
        refine AnyC.one (i := 4) (by kernel_rfl) (by rfl) (fun K' hK => ?_)
        go_simp
        (with_reducible refine (T.out _ _ _ S1 ST).mono ?_)
        rintro e W ⟨v3, rfl, SG, k, FB⟩
        (try have F8 := FB.far O8.lt)
        (try have F9 := FB.far O9.lt)
        clear FB
        replace OX := OX.below k
        replace OT := OT.below k
        replace OC := OC.below k
        replace S1 := S1.below k
        (try replace ST := ST.below k)
        (try replace SG := SG.below k)
        (try replace O8 := O8.below k)
        (try replace O9 := O9.below k)
        replace K := K.trans (k.mono K.size)
        clear k
        have SG' := SG
        obtain ⟨a3, p3, rfl, -⟩ := SG'
        (try go_simp)
        refine hK.out _ _ (fun _ _ => ⟨OC, OT⟩) ?_
        clear hK K'
        (try simp only [Act.put])
        have HH := And.intro OC OT
        refine AnyC.take (i := 5) (v := ?_) rfl (by kernel_rfl) (by kernel_rfl) (by kernel_rfl) (by kernel_rfl) (fun _ _ _ h => h) (Or.inl ⟨by rfl, ?_⟩) HH ?_
        rotate_left
        · (intro W hSw; first | (go_simp; done) | (go_simp; with_reducible rfl))
        (try simp only [Act.put])
        have HH := And.intro OC OT
        refine AnyC.take (i := 6) (v := ?_) rfl (by kernel_rfl) (by kernel_rfl) (by kernel_rfl) (by kernel_rfl) (fun _ _ _ h => h) (Or.inl ⟨by rfl, ?_⟩) HH ?_
        rotate_left
        · (intro W hSw; first | (go_simp; done) | (go_simp; with_reducible rfl))
        (try simp only [Act.put])
        have HH := And.intro OC OT
        refine AnyC.take (i := 7) (v := ?_) rfl (by kernel_rfl) (by kernel_rfl) (by kernel_rfl) (by kernel_rfl) (fun _ _ _ h => h) (Or.inl ⟨by rfl, ?_⟩) HH ?_
        rotate_left
        · (intro W hSw; first | (go_simp; done) | (go_simp; with_reducible rfl))
        (try simp only [Act.put])
        have HH := And.intro OC OT
        refine AnyC.take (i := 8) (v := ?_) rfl (by kernel_rfl) (by kernel_rfl) (by kernel_rfl) (by kernel_rfl) (fun _ _ _ h => h) (Or.inl ⟨by rfl, ?_⟩) HH ?_
        rotate_left
        · (intro W hSw; first | (go_simp; done) | (go_simp; with_reducible rfl))
        (try simp only [Act.put])
        have ne89 : g8 ≠ g9 := by omega
        have pO := O8
        have p0 := pO.cell 0 (by simp)
        have pf0 := pO.frozen 0
        have p1 := pO.cell 1 (by simp)
        have pf1 := pO.frozen 1
        have p2 := pO.cell 2 (by simp)
        have pf2 := pO.frozen 2
        have p3 := pO.cell 3 (by simp)
        have pf3 := pO.frozen 3
        have p4 := pO.cell 4 (by simp)
        have pf4 := pO.frozen 4
        have p5 := pO.cell 5 (by simp)
        have pf5 := pO.frozen 5
        have p6 := pO.cell 6 (by simp)
        have pf6 := pO.frozen 6
        simp only [Nat.zero_add, List.getD_cons_zero, List.getD_cons_succ] at p0 p1 p2 p3 p4 p5 p6
        clear pO
        refine AnyC.one (i := 11) (by kernel_rfl) (by rfl) (fun K' hK => ?_)
        go_simp
        clear p0 p1 p2 p3 p4 p5 p6 pf0 pf1 pf2 pf3 pf4 pf5 pf6
        have cg := ((((((((Chg.refl g8 W).set 0 (I y1)).set 1 (I y2)).set 2 (I y3)).set 3 (I y4)).set 4 (I y5)).set 5 (I y6)).set 6 (.slice a3 ys.length p3))
        have OX := OX.chg cg (by have := z1; omega)
        have OT := OT.chg cg (by have := z1; omega)
        have OC := OC.chg cg (by omega)
        have O9 := O9.chg cg (by omega)
        have O8 := (((((((O8.set 0 (I y1)).set 1 (I y2)).set 2 (I y3)).set 3 (I y4)).set 4 (I y5)).set 5 (I y6)).set 6 (.slice a3 ys.length p3))
        have S1 := S1.chg F18 cg
        have SG := SG.chg (by intros; first | exact F8 | exact F8 (by assumption)) cg
        have K := cg.below K (by have := z1; omega) K.size
        refine hK.out _ _ (fun _ _ => ⟨OC, OT⟩) ?_
        clear hK K' cg
        have qO := O9
        have q0 := qO.cell 0 (by simp)
        have qf0 := qO.frozen 0
        have q1 := qO.cell 1 (by simp)
        have qf1 := qO.frozen 1
        have q2 := qO.cell 2 (by simp)
        have qf2 := qO.frozen 2
        have q3 := qO.cell 3 (by simp)
        have qf3 := qO.frozen 3
        have q4 := qO.cell 4 (by simp)
        have qf4 := qO.frozen 4
        have q5 := qO.cell 5 (by simp)
        have qf5 := qO.frozen 5
        have q6 := qO.cell 6 (by simp)
        have qf6 := qO.frozen 6
        simp only [Nat.zero_add, List.getD_cons_zero, List.getD_cons_succ] at q0 q1 q2 q3 q4 q5 q6
        clear qO
        refine AnyC.one (i := 12) (by kernel_rfl) (by rfl) (fun K' hK => ?_)
        go_simp
        clear q0 q1 q2 q3 q4 q5 q6 qf0 qf1 qf2 qf3 qf4 qf5 qf6
        have cg := ((((((((Chg.refl g9 (((((((W.setCell ⟨g8, 0, none⟩ (I y1)).setCell ⟨g8, 1, none⟩ (I y2)).setCell ⟨g8, 2, none⟩ (I y3)).setCell ⟨g8, 3, none⟩ (I y4)).setCell ⟨g8, 4, none⟩ (I y5)).setCell ⟨g8, 5, none⟩ (I y6)).setCell ⟨g8, 6, none⟩ (.slice a3 ys.length p3))).set 0 (I b1)).set 1 (I b2)).set 2 (I b3)).set 3 (I b4)).set 4 (I b5)).set 5 (I b6)).set 6 (I b7))
        have OX := OX.chg cg (by have := z1; omega)
        have OT := OT.chg cg (by have := z1; omega)
        have OC := OC.chg cg (by omega)
        have O8 := O8.chg cg (by omega)
        have O9 := (((((((O9.set 0 (I b1)).set 1 (I b2)).set 2 (I b3)).set 3 (I b4)).set 4 (I b5)).set 5 (I b6)).set 6 (I b7))
        have S1 := S1.chg F19 cg
        have SG := SG.chg (by intros; first | exact F9 | exact F9 (by assumption)) cg
        have K := cg.below K (by have := z1; omega) K.size
        refine hK.out _ _ (fun _ _ => ⟨OC, OT⟩) ?_
        clear hK K' cg
        refine AnyC.one (i := 13) (by kernel_rfl) (by rfl) (fun K' hK => ?_)
        go_simp
        refine hK.out _ _ (fun h => absurd rfl h) ?_
        clear hK K'
        refine AnyC.done (by kernel_rfl) ?_ _
        go_wp2_with fail
        go_meet
        exact ⟨g8, g9, a3, p3, rfl, rfl, rfl, O8, O9, OC, OX, OT, K, S1, SG, n8, n9, ne89⟩
    · skip
      go_simp
      have k := boxed_below W (.cells #[I 0, I 0, I 0, I 0, I 0, I 0, I 0] 50)
      have O9 := Own.new (w := W) rfl [I 0, I 0, I 0, I 0, I 0, I 0, I 0] 50
      have F19 := S1.farNew (Nat.le_refl W.heap.size)
      (try have F9 := SG.farNew (Nat.le_refl W.heap.size))
      have n9 : w1.heap.size < W.heap.size := OC.lt
      (try have n89 := O8.lt)
      replace OX := OX.below k
      replace OT := OT.below k
      replace OC := OC.below k
      replace S1 := S1.below k
      (try replace ST := ST.below k)
      (try replace SG := SG.below k)
      (try replace O8 := O8.below k)
      (try replace O9 := O9.below k)
      replace K := K.trans (k.mono K.size)
      clear k
      refine hK.out _ _ (fun _ _ => ⟨OC, OT⟩) ?_
      clear hK K'
      (try simp only [Act.put])
      generalize W.heap.size = g9 at *
      generalize World.alloc W (.cells #[I 0, I 0, I 0, I 0, I 0, I 0, I 0] 50) = W at *
      refine AnyC.two (i := 2) (j := 9) (by kernel_rfl) (by rfl) (by rfl) (fun K' hK => ?_) (fun K' hK => ?_)
      · skip
        go_simp
        (with_reducible refine (C.out _ (ht.below K)).mono ?_)
        rintro e W ⟨s, rfl, ST, k⟩
        replace OX := OX.below k
        replace OT := OT.below k
        replace OC := OC.below k
        replace S1 := S1.below k
        (try replace ST := ST.below k)
        (try replace SG := SG.below k)
        (try replace O8 := O8.below k)
        (try replace O9 := O9.below k)
        replace K := K.trans (k.mono K.size)
        clear k
        have ST' := ST
        obtain ⟨a2, p2, rfl, -⟩ := ST'
        (try go_simp)
        refine hK.out _ _ (fun _ _ => ⟨OC, OT⟩) ?_
        clear hK K'
        (try simp only [Act.put])
        refine AnyC.two (i := 4) (j := 9) (by kernel_rfl) (by rfl) (by rfl) (fun K' hK => ?_) (fun K' hK => ?_)
        · skip
          go_simp
          (with_reducible refine (T.out _ _ _ S1 ST).mono ?_)
          rintro e W ⟨v3, rfl, SG, k, FB⟩
          (try have F8 := FB.far O8.lt)
          (try have F9 := FB.far O9.lt)
          clear FB
          replace OX := OX.below k
          replace OT := OT.below k
          replace OC := OC.below k
          replace S1 := S1.below k
          (try replace ST := ST.below k)
          (try replace SG := SG.below k)
          (try replace O8 := O8.below k)
          (try replace O9 := O9.below k)
          replace K := K.trans (k.mono K.size)
          clear k
          have SG' := SG
          obtain ⟨a3, p3, rfl, -⟩ := SG'
          (try go_simp)
          refine hK.out _ _ (fun _ _ => ⟨OC, OT⟩) ?_
          clear hK K'
          (try simp only [Act.put])
          have HH := And.intro OC OT
          refine AnyC.take (i := 5) (v := ?_) rfl (by kernel_rfl) (by kernel_rfl) (by kernel_rfl) (by kernel_rfl) (fun _ _ _ h => h) (Or.inl ⟨by rfl, ?_⟩) HH ?_
          rotate_left
          · (intro W hSw; first | (go_simp; done) | (go_simp; with_reducible rfl))
          (try simp only [Act.put])
          have HH := And.intro OC OT
          refine AnyC.take (i := 6) (v := ?_) rfl (by kernel_rfl) (by kernel_rfl) (by kernel_rfl) (by kernel_rfl) (fun _ _ _ h => h) (Or.inl ⟨by rfl, ?_⟩) HH ?_
          rotate_left
          · (intro W hSw; first | (go_simp; done) | (go_simp; with_reducible rfl))
          (try simp only [Act.put])
          have HH := And.intro OC OT
          refine AnyC.take (i := 7) (v := ?_) rfl (by kernel_rfl) (by kernel_rfl) (by kernel_rfl) (by kernel_rfl) (fun _ _ _ h => h) (Or.inl ⟨by rfl, ?_⟩) HH ?_
          rotate_left
          · (intro W hSw; first | (go_simp; done) | (go_simp; with_reducible rfl))
          (try simp only [Act.put])
          have HH := And.intro OC OT
          refine AnyC.take (i := 8) (v := ?_) rfl (by kernel_rfl) (by kernel_rfl) (by kernel_rfl) (by kernel_rfl) (fun _ _ _ h => h) (Or.inl ⟨by rfl, ?_⟩) HH ?_
          rotate_left
          · (intro W hSw; first | (go_simp; done) | (go_simp; with_reducible rfl))
          (try simp only [Act.put])
          refine AnyC.one (i := 9) (by kernel_rfl) (by rfl) (fun K' hK => ?_)
          go_simp
          have k := boxed_below W (.cells #[I 0, I 0, I 0, I 0, I 0, I 0, .slice none 0 0] 39)
          have O8 := Own.new (w := W) rfl [I 0, I 0, I 0, I 0, I 0, I 0, .slice none 0 0] 39
          have F18 := S1.farNew (Nat.le_refl W.heap.size)
          (try have F8 := SG.farNew (Nat.le_refl W.heap.size))
          have n8 : w1.heap.size < W.heap.size := OC.lt
          (try have n98 := O9.lt)
          replace OX := OX.below k
          replace OT := OT.below k
          replace OC := OC.below k
          replace S1 := S1.below k
          (try replace ST := ST.below k)
          (try replace SG := SG.below k)
          (try replace O8 := O8.below k)
          (try replace O9 := O9.below k)
          replace K := K.trans (k.mono K.size)
          clear k
          refine hK.out _ _ (fun _ _ => ⟨OC, OT⟩) ?_
          clear hK K'
          (try simp only [Act.put])
          generalize W.heap.size = g8 at *
          generalize World.alloc W (.cells #[I 0, I 0, I 0, I 0, I 0, I 0, .slice none 0 0] 39) = W at *
          have ne89 : g8 ≠ g9 := by omega
          have pO := O8
          have p0 := pO.cell 0 (by simp)
          have pf0 := pO.frozen 0
          have p1 := pO.cell 1 (by simp)
          have pf1 := pO.frozen 1
          have p2 := pO.cell 2 (by simp)
          have pf2 := pO.frozen 2
          have p3 := pO.cell 3 (by simp)
          have pf3 := pO.frozen 3
          have p4 := pO.cell 4 (by simp)
          have pf4 := pO.frozen 4
          have p5 := pO.cell 5 (by simp)
          have pf5 := pO.frozen 5
          have p6 := pO.cell 6 (by simp)
          have pf6 := pO.frozen 6
          simp only [Nat.zero_add, List.getD_cons_zero, List.getD_cons_succ] at p0 p1 p2 p3 p4 p5 p6
          clear pO
          refine AnyC.one (i := 11) (by kernel_rfl) (by rfl) (fun K' hK => ?_)
          go_simp
          clear p0 p1 p2 p3 p4 p5 p6 pf0 pf1 pf2 pf3 pf4 pf5 pf6
          have cg := ((((((((Chg.refl g8 W).set 0 (I y1)).set 1 (I y2)).set 2 (I y3)).set 3 (I y4)).set 4 (I y5)).set 5 (I y6)).set 6 (.slice a3 ys.length p3))
          have OX := OX.chg cg (by have := z1; omega)
          have OT := OT.chg cg (by have := z1; omega)
          have OC := OC.chg cg (by omega)
          have O9 := O9.chg cg (by omega)
          have O8 := (((((((O8.set 0 (I y1)).set 1 (I y2)).set 2 (I y3)).set 3 (I y4)).set 4 (I y5)).set 5 (I y6)).set 6 (.slice a3 ys.length p3))
          have S1 := S1.chg F18 cg
          have SG := SG.chg (by intros; first | exact F8 | exact F8 (by assumption)) cg
          have K := cg.below K (by have := z1; omega) K.size
          refine hK.out _ _ (fun _ _ => ⟨OC, OT⟩) ?_
          clear hK K' cg
          have qO := O9
          have q0 := qO.cell 0 (by simp)
          have qf0 := qO.frozen 0
          have q1 := qO.cell 1 (by simp)
          have qf1 := qO.frozen 1
          have q2 := qO.cell 2 (by simp)
          have qf2 := qO.frozen 2
          have q3 := qO.cell 3 (by simp)
          have qf3 := qO.frozen 3
          have q4 := qO.cell 4 (by simp)
          have qf4 := qO.frozen 4
          have q5 := qO.cell 5 (by simp)
          have qf5 := qO.frozen 5
          have q6 := qO.cell 6 (by simp)
          have qf6 := qO.frozen 6
          simp only [Nat.zero_add, List.getD_cons_zero, List.getD_cons_succ] at q0 q1 q2 q3 q4 q5 q6
          clear qO
          refine AnyC.one (i := 12) (by kernel_rfl) (by rfl) (fun K' hK => ?_)
          go_simp
          clear q0 q1 q2 q3 q4 q5 q6 qf0 qf1 qf2 qf3 qf4 qf5 qf6
          have cg := ((((((((Chg.refl g9 (((((((W.setCell ⟨g8, 0, none⟩ (I y1)).setCell ⟨g8, 1, none⟩ (I y2)).setCell ⟨g8, 2, none⟩ (I y3)).setCell ⟨g8, 3, none⟩ (I y4)).setCell ⟨g8, 4, none⟩ (I y5)).setCell ⟨g8, 5, none⟩ (I y6)).setCell ⟨g8, 6, none⟩ (.slice a3 ys.length p3))).set 0 (I b1)).set 1 (I b2)).set 2 (I b3)).set 3 (I b4)).set 4 (I b5)).set 5 (I b6)).set 6 (I b7))
          have OX := OX.chg cg (by have := z1; omega)
          have OT := OT.chg cg (by have := z1; omega)
          have OC := OC.chg cg (by omega)
          have O8 := O8.chg cg (by omega)
          have O9 := (((((((O9.set 0 (I b1)).set 1 (I b2)).set 2 (I b3)).set 3 (I b4)).set 4 (I b5)).set 5 (I b6)).set 6 (I b7))
          have S1 := S1.chg F19 cg
          have SG := SG.chg (by intros; first | exact F9 | exact F9 (by assumption)) cg
          have K := cg.below K (by have := z1; omega) K.size
          refine hK.out _ _ (fun _ _ => ⟨OC, OT⟩) ?_
          clear hK K' cg
          refine AnyC.one (i := 13) (by kernel_rfl) (by rfl) (fun K' hK => ?_)
          go_simp
          refine hK.out _ _ (fun h => absurd rfl h) ?_
          clear hK K'
          refine AnyC.done (by kernel_rfl) ?_ _
          go_wp2_with fail
          go_meet
          exact ⟨g8, g9, a3, p3, rfl, rfl, rfl, O8, O9, OC, OX, OT, K, S1, SG, n8, n9, ne89⟩
        · skip
          go_simp
          have k := boxed_below W (.cells #[I 0, I 0, I 0, I 0, I 0, I 0, .slice none 0 0] 39)
          have O8 := Own.new (w := W) rfl [I 0, I 0, I 0, I 0, I 0, I 0, .slice none 0 0] 39
          have F18 := S1.farNew (Nat.le_refl W.heap.size)
          (try have F8 := SG.farNew (Nat.le_refl W.heap.size))
          have n8 : w1.heap.size < W.heap.size := OC.lt
          (try have n98 := O9.lt)
          replace OX := OX.below k
          replace OT := OT.below k
          replace OC := OC.below k
          replace S1 := S1.below k
          (try replace ST := ST.below k)
          (try replace SG := SG.below k)
          (try replace O8 := O8.below k)
          (try replace O9 := O9.below k)
          replace K := K.trans (k.mono K.size)
          clear k
          refine hK.out _ _ (fun _ _ => ⟨OC, OT⟩) ?_
          clear hK K'
          (try simp only [Act.put])
          generalize W.heap.size = g8 at *
          generalize World.alloc W (.cells #[I 0, I 0, I 0, I 0, I 0, I 0, .slice none 0 0] 39) = W at *
          refine AnyC.one (i := 4) (by kernel_rfl) (by rfl) (fun K' hK => ?_)
          go_simp
          (with_reducible refine (T.out _ _ _ S1 ST).mono ?_)
          rintro e W ⟨v3, rfl, SG, k, FB⟩
          (try have F8 := FB.far O8.lt)
          (try have F9 := FB.far O9.lt)
          clear FB
          replace OX := OX.below k
          replace OT := OT.below k
          replace OC := OC.below k
          replace S1 := S1.below k
          (try replace ST := ST.below k)
          (try replace SG := SG.below k)
          (try replace O8 := O8.below k)
          (try replace O9 := O9.below k)
          replace K := K.trans (k.mono K.size)
          clear k
          have SG' := SG
          obtain ⟨a3, p3, rfl, -⟩ := SG'
          (try go_simp)
          refine hK.out _ _ (fun _ _ => ⟨OC, OT⟩) ?_
          clear hK K'
          (try simp only [Act.put])
          have HH := And.intro OC OT
          refine AnyC.take (i := 5) (v := ?_) rfl (by kernel_rfl) (by kernel_rfl) (by kernel_rfl) (by kernel_rfl) (fun _ _ _ h => h) (Or.inl ⟨by rfl, ?_⟩) HH ?_
          rotate_left
          · (intro W hSw; first | (go_simp; done) | (go_simp; with_reducible rfl))
          (try simp only [Act.put])
          have HH := And.intro OC OT
          refine AnyC.take (i := 6) (v := ?_) rfl (by kernel_rfl) (by kernel_rfl) (by kernel_rfl) (by kernel_rfl) (fun _ _ _ h => h) (Or.inl ⟨by rfl, ?_⟩) HH ?_
          rotate_left
          · (intro W hSw; first | (go_simp; done) | (go_simp; with_reducible rfl))
          (try simp only [Act.put])
          have HH := And.intro OC OT
          refine AnyC.take (i := 7) (v := ?_) rfl (by kernel_rfl) (by kernel_rfl) (by kernel_rfl) (by kernel_rfl) (fun _ _ _ h => h) (Or.inl ⟨by rfl, ?_⟩) HH ?_
          rotate_left
          · (intro W hSw; first | (go_simp; done) | (go_simp; with_reducible rfl))
          (try simp only [Act.put])
          have HH := And.intro OC OT
          refine AnyC.take (i := 8) (v := ?_) rfl (by kernel_rfl) (by kernel_rfl) (by kernel_rfl) (by kernel_rfl) (fun _ _ _ h => h) (Or.inl ⟨by rfl, ?_⟩) HH ?_
          rotate_left
          · (intro W hSw; first | (go_simp; done) | (go_simp; with_reducible rfl))
          (try simp only [Act.put])
          have ne89 : g8 ≠ g9 := by omega
          have pO := O8
          have p0 := pO.cell 0 (by simp)
          have pf0 := pO.frozen 0
          have p1 := pO.cell 1 (by simp)
          have pf1 := pO.frozen 1
          have p2 := pO.cell 2 (by simp)
          have pf2 := pO.frozen 2
          have p3 := pO.cell 3 (by simp)
          have pf3 := pO.frozen 3
          have p4 := pO.cell 4 (by simp)
          have pf4 := pO.frozen 4
          have p5 := pO.cell 5 (by simp)
          have pf5 := pO.frozen 5
          have p6 := pO.cell 6 (by simp)
          have pf6 := pO.frozen 6
          simp only [Nat.zero_add, List.getD_cons_zero, List.getD_cons_succ] at p0 p1 p2 p3 p4 p5 p6
          clear pO
          refine AnyC.one (i := 11) (by kernel_rfl) (by rfl) (fun K' hK => ?_)
          go_simp
          clear p0 p1 p2 p3 p4 p5 p6 pf0 pf1 pf2 pf3 pf4 pf5 pf6
          have cg := ((((((((Chg.refl g8 W).set 0 (I y1)).set 1 (I y2)).set 2 (I y3)).set 3 (I y4)).set 4 (I y5)).set 5 (I y6)).set 6 (.slice a3 ys.length p3))
          have OX := OX.chg cg (by have := z1; omega)
          have OT := OT.chg cg (by have := z1; omega)
          have OC := OC.chg cg (by omega)
          have O9 := O9.chg cg (by omega)
          have O8 := (((((((O8.set 0 (I y1)).set 1 (I y2)).set 2 (I y3)).set 3 (I y4)).set 4 (I y5)).set 5 (I y6)).set 6 (.slice a3 ys.length p3))
          have S1 := S1.chg F18 cg
          have SG := SG.chg (by intros; first | exact F8 | exact F8 (by assumption)) cg
          have K := cg.below K (by have := z1; omega) K.size
          refine hK.out _ _ (fun _ _ => ⟨OC, OT⟩) ?_
          clear hK K' cg
          have qO := O9
          have q0 := qO.cell 0 (by simp)
          have qf0 := qO.frozen 0
          have q1 := qO.cell 1 (by simp)
          have qf1 := qO.frozen 1
          have q2 := qO.cell 2 (by simp)
          have qf2 := qO.frozen 2
          have q3 := qO.cell 3 (by simp)
          have qf3 := qO.frozen 3
          have q4 := qO.cell 4 (by simp)
          have qf4 := qO.frozen 4
          have q5 := qO.cell 5 (by simp)
          have qf5 := qO.frozen 5
          have q6 := qO.cell 6 (by simp)
          have qf6 := qO.frozen 6
          simp only [Nat.zero_add, List.getD_cons_zero, List.getD_cons_succ] at q0 q1 q2 q3 q4 q5 q6
          clear qO
          refine AnyC.one (i := 12) (by kernel_rfl) (by rfl) (fun K' hK => ?_)
          go_simp
          clear q0 q1 q2 q3 q4 q5 q6 qf0 qf1 qf2 qf3 qf4 qf5 qf6
          have cg := ((((((((Chg.refl g9 (((((((W.setCell ⟨g8, 0, none⟩ (I y1)).setCell ⟨g8, 1, none⟩ (I y2)).setCell ⟨g8, 2, none⟩ (I y3)).setCell ⟨g8, 3, none⟩ (I y4)).setCell ⟨g8, 4, none⟩ (I y5)).setCell ⟨g8, 5, none⟩ (I y6)).setCell ⟨g8, 6, none⟩ (.slice a3 ys.length p3))).set 0 (I b1)).set 1 (I b2)).set 2 (I b3)).set 3 (I b4)).set 4 (I b5)).set 5 (I b6)).set 6 (I b7))
          have OX := OX.chg cg (by have := z1; omega)
          have OT := OT.chg cg (by have := z1; omega)
          have OC := OC.chg cg (by omega)
          have O8 := O8.chg cg (by omega)
          have O9 := (((((((O9.set 0 (I b1)).set 1 (I b2)).set 2 (I b3)).set 3 (I b4)).set 4 (I b5)).set 5 (I b6)).set 6 (I b7))
          have S1 := S1.chg F19 cg
          have SG := SG.chg (by intros; first | exact F9 | exact F9 (by assumption)) cg
          have K := cg.below K (by have := z1; omega) K.size
          refine hK.out _ _ (fun _ _ => ⟨OC, OT⟩) ?_
          clear hK K' cg
          refine AnyC.one (i := 13) (by kernel_rfl) (by rfl) (fun K' hK => ?_)
          go_simp
          refine hK.out _ _ (fun h => absurd rfl h) ?_
          clear hK K'
          refine AnyC.done (by kernel_rfl) ?_ _
          go_wp2_with fail
          go_meet
          exact ⟨g8, g9, a3, p3, rfl, rfl, rfl, O8, O9, OC, OX, OT, K, S1, SG, n8, n9, ne89⟩
      · skip
        go_simp
        have k := boxed_below W (.cells #[I 0, I 0, I 0, I 0, I 0, I 0, .slice none 0 0] 39)
        have O8 := Own.new (w := W) rfl [I 0, I 0, I 0, I 0, I 0, I 0, .slice none 0 0] 39
        have F18 := S1.farNew (Nat.le_refl W.heap.size)
        (try have F8 := SG.farNew (Nat.le_refl W.heap.size))
        have n8 : w1.heap.size < W.heap.size := OC.lt
        (try have n98 := O9.lt)
        replace OX := OX.below k
        replace OT := OT.below k
        replace OC := OC.below k
        replace S1 := S1.below k
        (try replace ST := ST.below k)
        (try replace SG := SG.below k)
        (try replace O8 := O8.below k)
        (try replace O9 := O9.below k)
        replace K := K.trans (k.mono K.size)
        clear k
        refine hK.out _ _ (fun _ _ => ⟨OC, OT⟩) ?_
        clear hK K'
        (try simp only [Act.put])
        generalize W.heap.size = g8 at *
        generalize World.alloc W (.cells #[I 0, I 0, I 0, I 0, I 0, I 0, .slice none 0 0] 39) = W at *
        refine AnyC.one (i := 2) (by kernel_rfl) (by rfl) (fun K' hK => ?_)
        go_simp
        (with_reducible refine (C.out _ (ht.below K)).mono ?_)
        rintro e W ⟨s, rfl, ST, k⟩
        replace OX := OX.below k
        replace OT := OT.below k
        replace OC := OC.below k
        replace S1 := S1.below k
        (try replace ST := ST.below k)
        (try replace SG := SG.below k)
        (try replace O8 := O8.below k)
        (try replace O9 := O9.below k)
        replace K := K.trans (k.mono K.size)
        clear k
        have ST' := ST
        obtain ⟨a2, p2, rfl, -⟩ := ST'
        (try go_simp)
        refine hK.out _ _ (fun _ _ => ⟨OC, OT⟩) ?_
        clear hK K'
        (try simp only [Act.put])
        refine AnyC.one (i := 4) (by kernel_rfl) (by rfl) (fun K' hK => ?_)
        go_simp
        (with_reducible refine (T.out _ _ _ S1 ST).mono ?_)
        rintro e W ⟨v3, rfl, SG, k, FB⟩
        (try have F8 := FB.far O8.lt)
        (try have F9 := FB.far O9.lt)
        clear FB
        replace OX := OX.below k
        replace OT := OT.below k
        replace OC := OC.below k
        replace S1 := S1.below k
        (try replace ST := ST.below k)
        (try replace SG := SG.below k)
        (try replace O8 := O8.below k)
        (try replace O9 := O9.below k)
        replace K := K.trans (k.mono K.size)
        clear k
        have SG' := SG
        obtain ⟨a3, p3, rfl, -⟩ := SG'
        (try go_simp)
        refine hK.out _ _ (fun _ _ => ⟨OC, OT⟩) ?_
        clear hK K'
        (try simp only [Act.put])
        have HH := And.intro OC OT
        refine AnyC.take (i := 5) (v := ?_) rfl (by kernel_rfl) (by kernel_rfl) (by kernel_rfl) (by kernel_rfl) (fun _ _ _ h => h) (Or.inl ⟨by rfl, ?_⟩) HH ?_
        rotate_left
        · (intro W hSw; first | (go_simp; done) | (go_simp; with_reducible rfl))
        (try simp only [Act.put])
        have HH := And.intro OC OT
        refine AnyC.take (i := 6) (v := ?_) rfl (by kernel_rfl) (by kernel_rfl) (by kernel_rfl) (by kernel_rfl) (fun _ _ _ h => h) (Or.inl ⟨by rfl, ?_⟩) HH ?_
        rotate_left
        · (intro W hSw; first | (go_simp; done) | (go_simp; with_reducible rfl))
        (try simp only [Act.put])
        have HH := And.intro OC OT
        refine AnyC.take (i := 7) (v := ?_) rfl (by kernel_rfl) (by kernel_rfl) (by kernel_rfl) (by kernel_rfl) (fun _ _ _ h => h) (Or.inl ⟨by rfl, ?_⟩) HH ?_
        rotate_left
        · (intro W hSw; first | (go_simp; done) | (go_simp; with_reducible rfl))
        (try simp only [Act.put])
        have HH := And.intro OC OT
        refine AnyC.take (i := 8) (v := ?_) rfl (by kernel_rfl) (by kernel_rfl) (by kernel_rfl) (by kernel_rfl) (fun _ _ _ h => h) (Or.inl ⟨by rfl, ?_⟩) HH ?_
        rotate_left
        · (intro W hSw; first | (go_simp; done) | (go_simp; with_reducible rfl))
        (try simp only [Act.put])
        have ne89 : g8 ≠ g9 := by omega
        have pO := O8
        have p0 := pO.cell 0 (by simp)
        have pf0 := pO.frozen 0
        have p1 := pO.cell 1 (by simp)
        have pf1 := pO.frozen 1
        have p2 := pO.cell 2 (by simp)
        have pf2 := pO.frozen 2
        have p3 := pO.cell 3 (by simp)
        have pf3 := pO.frozen 3
        have p4 := pO.cell 4 (by simp)
        have pf4 := pO.frozen 4
        have p5 := pO.cell 5 (by simp)
        have pf5 := pO.frozen 5
        have p6 := pO.cell 6 (by simp)
        have pf6 := pO.frozen 6
        simp only [Nat.zero_add, List.getD_cons_zero, List.getD_cons_succ] at p0 p1 p2 p3 p4 p5 p6
        clear pO
        refine AnyC.one (i := 11) (by kernel_rfl) (by rfl) (fun K' hK => ?_)
        go_simp
        clear p0 p1 p2 p3 p4 p5 p6 pf0 pf1 pf2 pf3 pf4 pf5 pf6
        have cg := ((((((((Chg.refl g8 W).set 0 (I y1)).set 1 (I y2)).set 2 (I y3)).set 3 (I y4)).set 4 (I y5)).set 5 (I y6)).set 6 (.slice a3 ys.length p3))
        have OX := OX.chg cg (by have := z1; omega)
        have OT := OT.chg cg (by have := z1; omega)
        have OC := OC.chg cg (by omega)
        have O9 := O9.chg cg (by omega)
        have O8 := (((((((O8.set 0 (I y1)).set 1 (I y2)).set 2 (I y3)).set 3 (I y4)).set 4 (I y5)).set 5 (I y6)).set 6 (.slice a3 ys.length p3))
        have S1 := S1.chg F18 cg
        have SG := SG.chg (by intros; first | exact F8 | exact F8 (by assumption)) cg
        have K := cg.below K (by have := z1; omega) K.size
        refine hK.out _ _ (fun _ _ => ⟨OC, OT⟩) ?_
        clear hK K' cg
        have qO := O9
        have q0 := qO.cell 0 (by simp)
        have qf0 := qO.frozen 0
        have q1 := qO.cell 1 (by simp)
        have qf1 := qO.frozen 1
        have q2 := qO.cell 2 (by simp)
        have qf2 := qO.frozen 2
        have q3 := qO.cell 3 (by simp)
        have qf3 := qO.frozen 3
        have q4 := qO.cell 4 (by simp)
        have qf4 := qO.frozen 4
        have q5 := qO.cell 5 (by simp)
        have qf5 := qO.frozen 5
        have q6 := qO.cell 6 (by simp)
        have qf6 := qO.frozen 6
        simp only [Nat.zero_add, List.getD_cons_zero, List.getD_cons_succ] at q0 q1 q2 q3 q4 q5 q6
        clear qO
        refine AnyC.one (i := 12) (by kernel_rfl) (by rfl) (fun K' hK => ?_)
        go_simp
        clear q0 q1 q2 q3 q4 q5 q6 qf0 qf1 qf2 qf3 qf4 qf5 qf6
        have cg := ((((((((Chg.refl g9 (((((((W.setCell ⟨g8, 0, none⟩ (I y1)).setCell ⟨g8, 1, none⟩ (I y2)).setCell ⟨g8, 2, none⟩ (I y3)).setCell ⟨g8, 3, none⟩ (I y4)).setCell ⟨g8, 4, none⟩ (I y5)).setCell ⟨g8, 5, none⟩ (I y6)).setCell ⟨g8, 6, none⟩ (.slice a3 ys.length p3))).set 0 (I b1)).set 1 (I b2)).set 2 (I b3)).set 3 (I b4)).set 4 (I b5)).set 5 (I b6)).set 6 (I b7))
        have OX := OX.chg cg (by have := z1; omega)
        have OT := OT.chg cg (by have := z1; omega)
        have OC := OC.chg cg (by omega)
        have O8 := O8.chg cg (by omega)
        have O9 := (((((((O9.set 0 (I b1)).set 1 (I b2)).set 2 (I b3)).set 3 (I b4)).set 4 (I b5)).set 5 (I b6)).set 6 (I b7))
        have S1 := S1.chg F19 cg
        have SG := SG.chg (by intros; first | exact F9 | exact F9 (by assumption)) cg
        have K := cg.below K (by have := z1; omega) K.size
        refine hK.out _ _ (fun _ _ => ⟨OC, OT⟩) ?_
        clear hK K' cg
        refine AnyC.one (i := 13) (by kernel_rfl) (by rfl) (fun K' hK => ?_)
        go_simp
        refine hK.out _ _ (fun h => absurd rfl h) ?_
        clear hK K'
        refine AnyC.done (by kernel_rfl) ?_ _
        go_wp2_with fail
        go_meet
        exact ⟨g8, g9, a3, p3, rfl, rfl, rfl, O8, O9, OC, OX, OT, K, S1, SG, n8, n9, ne89⟩
  case rest =>
    obtain ⟨g8, g9, a3, p3, rfl, rfl, rfl, O8, O9, OC, OX, OT, K, S1, SG, n8, n9, ne89⟩ := hcut
    have xO := OX
    have x0 := xO.cell 0 (by simp)
    have xf0 := xO.frozen 0
    have x1 := xO.cell 1 (by simp)
    have xf1 := xO.frozen 1
    have x2 := xO.cell 2 (by simp)
    have xf2 := xO.frozen 2
    have x3 := xO.cell 3 (by simp)
    have xf3 := xO.frozen 3
    have x4 := xO.cell 4 (by simp)
    have xf4 := xO.frozen 4
    have x5 := xO.cell 5 (by simp)
    have xf5 := xO.frozen 5
    have x6 := xO.cell 6 (by simp)
    have xf6 := xO.frozen 6
    simp only [Nat.zero_add, List.getD_cons_zero, List.getD_cons_succ] at x0 x1 x2 x3 x4 x5 x6
    clear xO
    have tO := OT
    have t0 := tO.cell 0 (by simp)
    have tf0 := tO.frozen 0
    have t1 := tO.cell 1 (by simp)
    have tf1 := tO.frozen 1
    have t2 := tO.cell 2 (by simp)
    have tf2 := tO.frozen 2
    have t3 := tO.cell 3 (by simp)
    have tf3 := tO.frozen 3
    have t4 := tO.cell 4 (by simp)
    have tf4 := tO.frozen 4
    simp only [Nat.zero_add, List.getD_cons_zero, List.getD_cons_succ] at t0 t1 t2 t3 t4
    clear tO
    clear ox1 ot1 oc1 kA k s1
    go_wp2_with fail
    refine (R.out _ (h.below K) (ht.below K)).mono ?_
    rintro e w3 ⟨v5, rfl, S5, k3⟩
    have S5' := S5
    obtain ⟨a5, p5, rfl, -⟩ := S5'
    have kA := ((boxed_below w3 (.cells #[I y1, I y2, I y3, I y4, I y5, I y6, .slice a5 ys.length p5] 39)).alloc (by simp) (.cells #[I b1, I b2, I b3, I b4, I b5, I b6, I b7] 50))
    replace O8 := O8.below k3
    replace O9 := O9.below k3
    replace OC := OC.below k3
    replace OX := OX.below k3
    have T2' := (SG.below k3).below kA
    have T1' := (S1.below k3).below kA
    have k := K.trans (k3.mono K.size)
    clear x0 x1 x2 x3 x4 x5 x6 xf0 xf1 xf2 xf3 xf4 xf5 xf6 t0 t1 t2 t3 t4 tf0 tf1 tf2 tf3 tf4 OT SG S1 K k3
    have aaO := O8
    have aa0 := aaO.cell 0 (by simp)
    have aaf0 := aaO.frozen 0
    have aa1 := aaO.cell 1 (by simp)
    have aaf1 := aaO.frozen 1
    have aa2 := aaO.cell 2 (by simp)
    have aaf2 := aaO.frozen 2
    have aa3 := aaO.cell 3 (by simp)
    have aaf3 := aaO.frozen 3
    have aa4 := aaO.cell 4 (by simp)
    have aaf4 := aaO.frozen 4
    have aa5 := aaO.cell 5 (by simp)
    have aaf5 := aaO.frozen 5
    have aa6 := aaO.cell 6 (by simp)
    have aaf6 := aaO.frozen 6
    simp only [Nat.zero_add, List.getD_cons_zero, List.getD_cons_succ] at aa0 aa1 aa2 aa3 aa4 aa5 aa6
    clear aaO
    have mO := O9
    have m0 := mO.cell 0 (by simp)
    have mf0 := mO.frozen 0
    have m1 := mO.cell 1 (by simp)
    have mf1 := mO.frozen 1
    have m2 := mO.cell 2 (by simp)
    have mf2 := mO.frozen 2
    have m3 := mO.cell 3 (by simp)
    have mf3 := mO.frozen 3
    have m4 := mO.cell 4 (by simp)
    have mf4 := mO.frozen 4
    have m5 := mO.cell 5 (by simp)
    have mf5 := mO.frozen 5
    have m6 := mO.cell 6 (by simp)
    have mf6 := mO.frozen 6
    simp only [Nat.zero_add, List.getD_cons_zero, List.getD_cons_succ] at m0 m1 m2 m3 m4 m5 m6
    clear mO
    have n4 : g8 < w3.heap.size := O8.lt
    have n5 : g9 < w3.heap.size := O9.lt
    have q4 : ¬ g8 = w3.heap.size := by omega
    have q5 : ¬ g9 = w3.heap.size := by omega
    have q6 : ¬ g8 = w3.heap.size + 1 := by omega
    have q7 : ¬ g9 = w3.heap.size + 1 := by omega
    go_wp2_with fail
    refine (S.out _ _ _ T2' (S5.below kA)).mono ?_
    rintro e w4 ⟨rfl, k4⟩
    have kk := (k.trans (kA.mono k.size)).trans (k4.mono (Nat.le_trans k.size kA.size))
    have cO := (OC.below kA).below k4
    have c0 := cO.cell 0 (by simp)
    have cf0 := cO.frozen 0
    have c1 := cO.cell 1 (by simp)
    have cf1 := cO.frozen 1
    have c2 := cO.cell 2 (by simp)
    have cf2 := cO.frozen 2
    have c3 := cO.cell 3 (by simp)
    have cf3 := cO.frozen 3
    have c4 := cO.cell 4 (by simp)
    have cf4 := cO.frozen 4
    have c5 := cO.cell 5 (by simp)
    have cf5 := cO.frozen 5
    have c6 := cO.cell 6 (by simp)
    have cf6 := cO.frozen 6
    simp only [Nat.zero_add, List.getD_cons_zero, List.getD_cons_succ] at c0 c1 c2 c3 c4 c5 c6
    clear cO
    have xO := (OX.below kA).below k4
    have x0 := xO.cell 0 (by simp)
    have xf0 := xO.frozen 0
    have x1 := xO.cell 1 (by simp)
    have xf1 := xO.frozen 1
    have x2 := xO.cell 2 (by simp)
    have xf2 := xO.frozen 2
    have x3 := xO.cell 3 (by simp)
    have xf3 := xO.frozen 3
    have x4 := xO.cell 4 (by simp)
    have xf4 := xO.frozen 4
    have x5 := xO.cell 5 (by simp)
    have xf5 := xO.frozen 5
    have x6 := xO.cell 6 (by simp)
    have xf6 := xO.frozen 6
    simp only [Nat.zero_add, List.getD_cons_zero, List.getD_cons_succ] at x0 x1 x2 x3 x4 x5 x6
    clear xO
    have T1' := T1'.below k4
    have T0' := h.below kk
    clear aa0 aa1 aa2 aa3 aa4 aa5 aa6 aaf0 aaf1 aaf2 aaf3 aaf4 aaf5 aaf6 m0 m1 m2 m3 m4 m5 m6 mf0 mf1 mf2 mf3 mf4 mf5 mf6 k4 k kA O8 O9 OC OX
    go_wp2_with fail
    refine (S0.out _ _ _ T1' T0').mono ?_
    rintro e w5 ⟨rfl, k5⟩
    have k := kk.trans (k5.mono kk.size)
    clear c0 c1 c2 c3 c4 c5 c6 x0 x1 x2 x3 x4 x5 x6
    go_wp2
    go_ret
    exact Grew.intro (by simp) k

set_option maxRecDepth 100000 in
theorem lifted (os : Os) (started : os.Started) (H : Type) (enc : TypeId × Value → H) :
    ReturnsInHanded {} Try.checked os 12 .any (Rows.accountGrantsSpec.pre6 enc Try.prog Try.f12 Rows.accountGrantsRow.domain false) (Rows.accountGrantsSpec.post enc Try.prog Try.f12 false true false false) := by
  refine returnsInHanded_of_change_sized (C := Try.checked) own started (by kernel_rfl) Try.func12
    (ChangeSpec.witness6 (enc := enc) (C := Try.checked) false ⟨#[], #[.agg #[.int .i64 0, .int .i64 0, .int .i64 0, .int .i64 0, .int .i64 0, .int .i64 0, .slice none 0 0], .agg #[.slice none 0 0, .int .i64 0, .int .i64 0, .int .i64 0, .int .i64 0], .int .i64 0], []⟩ 8 (by kernel_rfl) (by kernel_rfl) (by kernel_rfl) (by kernel_rfl)) ?_
  intro W base args ds gs before hval hW hcnd hsz _
  have hfin := fun W' => post_true (fn := Try.f12) (s := Rows.accountGrantsSpec) (bt := 4) (W' := W') rfl laidOut (by kernel_rfl) Try.underlying4 rfl (fun ds h => by match ds, h with | [_, _, _], _ => rfl) hW
  have hsz : (DataW.weightsEach Try.prog (Try.f12.params.toList ++ []) (ds ++ gs)).all (· ≤ reachBytes) = true := hsz
  obtain ⟨p, q, hA, hV, rfl, hfz, hnd⟩ := hW
  obtain ⟨rfl, rfl⟩ := trodVars_none hV
  rw [Try.params12] at hA hval hsz
  obtain ⟨v0, vs0, d0, ds0, p0, q0, hargs, rfl, rfl, h0, r0⟩ := trodAll_cons hA
  obtain ⟨v1, vs1, d1, ds1, p1, q1, rfl, rfl, rfl, h1, r1⟩ := trodAll_cons r0
  obtain ⟨v2, vs2, d2, ds2, p2, q2, rfl, rfl, rfl, h2, r2⟩ := trodAll_cons r1
  obtain ⟨rfl, rfl, rfl⟩ := trodAll_nil r2
  obtain rfl : args = #[v0, v1, v2] := by cases args; simp_all
  simp only [List.append_nil] at hsz
  have pl0 := arg_plains (ks := (shape Try.prog 9 39).getD []) (by kernel_rfl) h0 (arg_weights (j := 0) hsz rfl rfl)
  obtain ⟨cs0, rfl, pl0⟩ := arg_struct Try.underlying39 (hval 0 39 v0 rfl rfl) pl0
  obtain ⟨x0, u0, xs0, rfl, hx0, hS0, hw0, hb0⟩ := decodeAccount _ pl0
  have pl1 := arg_plains (ks := (shape Try.prog 9 55).getD []) (by kernel_rfl) h1 (arg_weights (j := 1) hsz rfl rfl)
  obtain ⟨cs1, rfl, pl1⟩ := arg_struct Try.underlying55 (hval 1 55 v1 rfl rfl) pl1
  obtain ⟨x1, u1, xs1, rfl, hx1, hS1, hw1, hb1⟩ := decodeTerms _ pl1
  obtain ⟨a2, rfl, rfl, rfl, wf2⟩ := open_int Try.underlying3 (hval 2 3 v2 rfl rfl) h2
  exact (walk x0 u0 xs0 x1 u1 xs1 a2 W hx0 hS0 hw0 hb0 hx1 hS1 hw1 hb1).mono fun e W' h => by
    obtain ⟨rfl, hb⟩ := h.grew
    exact ⟨_, rfl, hfin W' hb⟩

theorem over : Rows.accountGrantsRow.holds Try.pinned (OpenSpec.ofChange Rows.accountGrantsSpec) :=
  OpenClaim.holds_of_wide 12 Try.f12 rfl rfl rfl rfl rfl rfl rfl ⟨rfl, rfl, rfl, rfl, rfl⟩ rfl rfl rfl rfl rfl (by kernel_rfl) Try.func12 (by kernel_rfl)
    (of_decide_eq_true (by kernel_rfl)) (by unfold Func.isWrapper; first | (rw [if_pos (by decide +kernel)]; kernel_rfl) | (rw [if_neg (by decide +kernel)]; exact ⟨rfl, rfl⟩))
    (fun os started H enc _ => lifted os started H enc)

theorem proved : Rows.AccountGrantsSaid := over
#print axioms proved
end Go.Proofs.Ytcpljkjibhindaa.accountGrants
