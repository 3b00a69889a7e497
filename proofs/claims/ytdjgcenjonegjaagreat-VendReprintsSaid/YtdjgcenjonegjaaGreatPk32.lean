/- account.Grant: Grant_22 · account.Grant: Grant_21 · account.Grant: Grant_20 · account.Grant: Grant_ok · account.Grant -/
import Derived.Test.YtdjgcenjonegjaaGreatPk12
set_option maxRecDepth 20000
set_option maxHeartbeats 8000000
set_option linter.unusedSimpArgs false
set_option linter.unusedVariables false
namespace Go.Proofs.YtdjgcenjonegjaaGreat
section
open Go.RowKit

theorem Grant_22 (x1 x2 x3 x4 x5 x6 bo : Int) (v tv : Value) (xs ys : List ADebt) (ts : List AStep) (f b d m : Int) (w : World) (h : Sl w v 2 xs.length (xs.flatMap ADebt.cells)) (ht : Sl w tv 2 ts.length (ts.flatMap AStep.cells))
    (G : Hid (∀ W, Sl W v 2 xs.length (xs.flatMap ADebt.cells) → Sl W tv 2 ts.length (ts.flatMap AStep.cells) → Calls Tryz.prog 68 #[.agg #[I x1, I x2, I x3, I x4, I x5, I x6, v], .agg #[tv, I f, I b, I d, I 0]] W (GrewClerk ⟨x1, x2, x3, x4, x5, x6⟩ xs tv f b d 0 W)))
    (R : Hid (∀ W g u, Own W g (clerkC ⟨x1, x2, x3, x4, x5, x6⟩ u tv f b d 0) → Sl W u 2 xs.length (xs.flatMap ADebt.cells) → Far g u → Calls Tryz.prog 69 #[.pointer (some ⟨g, 0, none⟩), I m] W (fun e w' => ∃ v', e = .returned (I 0) ∧ Own w' g (clerkC ⟨x1, x2, x3, m, bo, x6⟩ v' tv f b d 0) ∧ Sl w' v' 2 ys.length (ys.flatMap ADebt.cells) ∧ Far g v' ∧ (∀ B, B ≤ W.heap.size → FarB B u → FarB B v') ∧ Chg g W w'))) :
    Calls Tryz.prog 37 #[.agg #[I x1, I x2, I x3, I x4, I x5, I x6, v], .agg #[tv, I f, I b, I d, I 0], I m] w (GrewAccBF ⟨0, 0, 0, 0, 0, 0⟩ [] ⟨0, 0, 0, 0, 0, 0, 0⟩ 22 w) := by
  unfold GrewAccBF; unfold GrewClerk at G; simp only at *; obtain ⟨kB, -, ot, oz, oy⟩ := boxes4 w [I x1, I x2, I x3, I x4, I x5, I x6, v] 64 [tv, I f, I b, I d, I 0] 24 [I 0, I 0, I 0, I 0, I 0, I 0, .slice none 0 0] 64 [I 0, I 0, I 0, I 0, I 0, I 0, I 0] 39; have hS := h.below kB; have tS := ht.below kB; obtain ⟨a, cap, rfl, -⟩ := h; obtain ⟨ta, tcap, rfl, -⟩ := ht; go_enter Tryz.func37, Tryz.ntmps37
  go_wp2_with fail
  refine (G.out _ hS tS).mono ?_; rintro e w1 ⟨g, u, rfl, hg, hO, hS1, hF, hFB, k1⟩; have oz1 := oz.below k1; have oy1 := oy.below k1; have ot1 := ot.below k1; have k := kB.trans (k1.mono kB.size); have hg2 : w.heap.size + 4 ≤ g := by have := hg; simp at this; omega
  have hk1s := k1.size; clear k1 kB oz oy ot hS tS G hg
  go_wp2_with fail
  refine (R.out _ _ _ hO hS1 hF).mono ?_; rintro e w2 ⟨v', rfl, hO2, hS2, hF2, hB2, cg⟩; have hfz : Far (w.heap.size + 2) v' := (hB2 _ hk1s hFB).far (by first | (simp; done) | (simp; omega)); have hfy : Far (w.heap.size + 3) v' := (hB2 _ hk1s hFB).far (by first | (simp; done) | (simp; omega)); have hO3 : Own w2 g [I x1, I x2, I x3, I m, I bo, I x6, v', .slice ta ts.length tcap, I f, I b, I d, I 0] := hO2; have kk := cg.below k (by omega) k.size; have HFB := Lib.hid ((hB2 _ hk1s hFB).mono1 (show w.heap.size ≤ _ by first | (simp; done) | (simp; omega))); have hS3 := hS2; obtain ⟨a', cap', rfl, -⟩ := hS2; have cO := hO3; have cfA := cO.f; have c0 := cO.c0; have c1 := cO.c1; have c2 := cO.c2; have c3 := cO.c3; have c4 := cO.c4; have c5 := cO.c5; have c6 := cO.c6; clear cO; have zO := oz1.chg cg (by omega); have zA := zO.s7; clear zO; have yO := oy1.chg cg (by omega); have yA := yO.s7; clear yO; have tO := ot1.chg cg (by omega); have tfA := tO.f; have t0 := tO.c0; have t1 := tO.c1; have t2 := tO.c2; have t3 := tO.c3; have t4 := tO.c4; clear tO; clear t0 t1 t2 t3 tfA; have hne2 : ¬ g = w.heap.size + 2 := by omega
  have hne3 : ¬ g = w.heap.size + 3 := by omega
  have hne1 : ¬ g = w.heap.size + 1 := by omega
  have HS := Lib.hid hS3; have HFg := Lib.hid hF2; have HFz := Lib.hid hfz; have HFy := Lib.hid hfy; clear hO2 hO3 hS3 hF2 hB2 cg k oz1 oy1 ot1 hO hS1 hF hFB R hfz hfy; have r1 := set_same; have r2 := set_off; have r3 := set_blk; clear c0 c1 c3 c4 c6; go_wp2; exact bodyPost_ret (v := T3 (.agg #[I 0, I 0, I 0, I 0, I 0, I 0, .slice none 0 0]) (.agg #[I 0, I 0, I 0, I 0, I 0, I 0, I 0]) (I 22)) (by simp [results, Tryz.results37, go_sem, *]; try omega) rfl (⟨_, rfl, Sl.nil _ _, below_autor, FarB.nil _ _ _⟩)

end
section
open Go.RowKit

theorem Grant_21 (x1 x2 x3 x4 x5 x6 bo : Int) (v tv : Value) (xs ys : List ADebt) (ts : List AStep) (f b d al : Int) (w : World) (h : Sl w v 2 xs.length (xs.flatMap ADebt.cells)) (ht : Sl w tv 2 ts.length (ts.flatMap AStep.cells))
    (G : Hid (∀ W, Sl W v 2 xs.length (xs.flatMap ADebt.cells) → Sl W tv 2 ts.length (ts.flatMap AStep.cells) → Calls Tryz.prog 68 #[.agg #[I x1, I x2, I x3, I x4, I x5, I x6, v], .agg #[tv, I f, I b, I d, I al]] W (GrewClerk ⟨x1, x2, x3, x4, x5, x6⟩ xs tv f b d al W)))
    (R : Hid (∀ W g u, Own W g (clerkC ⟨x1, x2, x3, x4, x5, x6⟩ u tv f b d al) → Sl W u 2 xs.length (xs.flatMap ADebt.cells) → Far g u → Calls Tryz.prog 69 #[.pointer (some ⟨g, 0, none⟩), I x6] W (fun e w' => ∃ v', e = .returned (I 0) ∧ Own w' g (clerkC ⟨x1, x2, x3, x6, bo, x6⟩ v' tv f b d al) ∧ Sl w' v' 2 ys.length (ys.flatMap ADebt.cells) ∧ Far g v' ∧ (∀ B, B ≤ W.heap.size → FarB B u → FarB B v') ∧ Chg g W w'))) (q1 : ¬ al = 0) :
    Calls Tryz.prog 37 #[.agg #[I x1, I x2, I x3, I x4, I x5, I x6, v], .agg #[tv, I f, I b, I d, I al], I x6] w (GrewAccBF ⟨0, 0, 0, 0, 0, 0⟩ [] ⟨0, 0, 0, 0, 0, 0, 0⟩ 21 w) := by
  unfold GrewAccBF; unfold GrewClerk at G; simp only at *; obtain ⟨kB, -, ot, oz, oy⟩ := boxes4 w [I x1, I x2, I x3, I x4, I x5, I x6, v] 64 [tv, I f, I b, I d, I al] 24 [I 0, I 0, I 0, I 0, I 0, I 0, .slice none 0 0] 64 [I 0, I 0, I 0, I 0, I 0, I 0, I 0] 39; have hS := h.below kB; have tS := ht.below kB; obtain ⟨a, cap, rfl, -⟩ := h; obtain ⟨ta, tcap, rfl, -⟩ := ht; go_enter Tryz.func37, Tryz.ntmps37
  go_wp2_with fail
  refine (G.out _ hS tS).mono ?_; rintro e w1 ⟨g, u, rfl, hg, hO, hS1, hF, hFB, k1⟩; have oz1 := oz.below k1; have oy1 := oy.below k1; have ot1 := ot.below k1; have k := kB.trans (k1.mono kB.size); have hg2 : w.heap.size + 4 ≤ g := by have := hg; simp at this; omega
  have hk1s := k1.size; clear k1 kB oz oy ot hS tS G hg
  go_wp2_with fail
  refine (R.out _ _ _ hO hS1 hF).mono ?_; rintro e w2 ⟨v', rfl, hO2, hS2, hF2, hB2, cg⟩; have hfz : Far (w.heap.size + 2) v' := (hB2 _ hk1s hFB).far (by first | (simp; done) | (simp; omega)); have hfy : Far (w.heap.size + 3) v' := (hB2 _ hk1s hFB).far (by first | (simp; done) | (simp; omega)); have hO3 : Own w2 g [I x1, I x2, I x3, I x6, I bo, I x6, v', .slice ta ts.length tcap, I f, I b, I d, I al] := hO2; have kk := cg.below k (by omega) k.size; have HFB := Lib.hid ((hB2 _ hk1s hFB).mono1 (show w.heap.size ≤ _ by first | (simp; done) | (simp; omega))); have hS3 := hS2; obtain ⟨a', cap', rfl, -⟩ := hS2; have cO := hO3; have cfA := cO.f; have c0 := cO.c0; have c1 := cO.c1; have c2 := cO.c2; have c3 := cO.c3; have c4 := cO.c4; have c5 := cO.c5; have c6 := cO.c6; clear cO; have zO := oz1.chg cg (by omega); have zA := zO.s7; clear zO; have yO := oy1.chg cg (by omega); have yA := yO.s7; clear yO; have tO := ot1.chg cg (by omega); have tfA := tO.f; have t0 := tO.c0; have t1 := tO.c1; have t2 := tO.c2; have t3 := tO.c3; have t4 := tO.c4; clear tO; clear t0 t1 t2 t3 tfA; have hne2 : ¬ g = w.heap.size + 2 := by omega
  have hne3 : ¬ g = w.heap.size + 3 := by omega
  have hne1 : ¬ g = w.heap.size + 1 := by omega
  have HS := Lib.hid hS3; have HFg := Lib.hid hF2; have HFz := Lib.hid hfz; have HFy := Lib.hid hfy; clear hO2 hO3 hS3 hF2 hB2 cg k oz1 oy1 ot1 hO hS1 hF hFB R hfz hfy; have r1 := set_same; have r2 := set_off; have r3 := set_blk; clear c0 c1 c3 c4 c6; go_wp2; exact bodyPost_ret (v := T3 (.agg #[I 0, I 0, I 0, I 0, I 0, I 0, .slice none 0 0]) (.agg #[I 0, I 0, I 0, I 0, I 0, I 0, I 0]) (I 21)) (by simp [results, Tryz.results37, go_sem, *]; try omega) rfl (⟨_, rfl, Sl.nil _ _, below_autor, FarB.nil _ _ _⟩)

end
section
open Go.RowKit

theorem Grant_20 (x1 x2 x3 x4 x5 x6 bo : Int) (v tv : Value) (xs ys : List ADebt) (ts : List AStep) (f b d al m : Int) (w : World) (h : Sl w v 2 xs.length (xs.flatMap ADebt.cells)) (ht : Sl w tv 2 ts.length (ts.flatMap AStep.cells))
    (G : Hid (∀ W, Sl W v 2 xs.length (xs.flatMap ADebt.cells) → Sl W tv 2 ts.length (ts.flatMap AStep.cells) → Calls Tryz.prog 68 #[.agg #[I x1, I x2, I x3, I x4, I x5, I x6, v], .agg #[tv, I f, I b, I d, I al]] W (GrewClerk ⟨x1, x2, x3, x4, x5, x6⟩ xs tv f b d al W)))
    (R : Hid (∀ W g u, Own W g (clerkC ⟨x1, x2, x3, x4, x5, x6⟩ u tv f b d al) → Sl W u 2 xs.length (xs.flatMap ADebt.cells) → Far g u → Calls Tryz.prog 69 #[.pointer (some ⟨g, 0, none⟩), I m] W (fun e w' => ∃ v', e = .returned (I 0) ∧ Own w' g (clerkC ⟨x1, x2, x3, m, bo, x6⟩ v' tv f b d al) ∧ Sl w' v' 2 ys.length (ys.flatMap ADebt.cells) ∧ Far g v' ∧ (∀ B, B ≤ W.heap.size → FarB B u → FarB B v') ∧ Chg g W w'))) (q1 : ¬ al = 0) (q2 : ¬ x6 = m) (q4 : 1048575 < x3) :
    Calls Tryz.prog 37 #[.agg #[I x1, I x2, I x3, I x4, I x5, I x6, v], .agg #[tv, I f, I b, I d, I al], I m] w (GrewAccBF ⟨0, 0, 0, 0, 0, 0⟩ [] ⟨0, 0, 0, 0, 0, 0, 0⟩ 20 w) := by
  unfold GrewAccBF; unfold GrewClerk at G; simp only at *; obtain ⟨kB, -, ot, oz, oy⟩ := boxes4 w [I x1, I x2, I x3, I x4, I x5, I x6, v] 64 [tv, I f, I b, I d, I al] 24 [I 0, I 0, I 0, I 0, I 0, I 0, .slice none 0 0] 64 [I 0, I 0, I 0, I 0, I 0, I 0, I 0] 39; have hS := h.below kB; have tS := ht.below kB; obtain ⟨a, cap, rfl, -⟩ := h; obtain ⟨ta, tcap, rfl, -⟩ := ht; go_enter Tryz.func37, Tryz.ntmps37
  go_wp2_with fail
  refine (G.out _ hS tS).mono ?_; rintro e w1 ⟨g, u, rfl, hg, hO, hS1, hF, hFB, k1⟩; have oz1 := oz.below k1; have oy1 := oy.below k1; have ot1 := ot.below k1; have k := kB.trans (k1.mono kB.size); have hg2 : w.heap.size + 4 ≤ g := by have := hg; simp at this; omega
  have hk1s := k1.size; clear k1 kB oz oy ot hS tS G hg
  go_wp2_with fail
  refine (R.out _ _ _ hO hS1 hF).mono ?_; rintro e w2 ⟨v', rfl, hO2, hS2, hF2, hB2, cg⟩; have hfz : Far (w.heap.size + 2) v' := (hB2 _ hk1s hFB).far (by first | (simp; done) | (simp; omega)); have hfy : Far (w.heap.size + 3) v' := (hB2 _ hk1s hFB).far (by first | (simp; done) | (simp; omega)); have hO3 : Own w2 g [I x1, I x2, I x3, I m, I bo, I x6, v', .slice ta ts.length tcap, I f, I b, I d, I al] := hO2; have kk := cg.below k (by omega) k.size; have HFB := Lib.hid ((hB2 _ hk1s hFB).mono1 (show w.heap.size ≤ _ by first | (simp; done) | (simp; omega))); have hS3 := hS2; obtain ⟨a', cap', rfl, -⟩ := hS2; have cO := hO3; have cfA := cO.f; have c0 := cO.c0; have c1 := cO.c1; have c2 := cO.c2; have c3 := cO.c3; have c4 := cO.c4; have c5 := cO.c5; have c6 := cO.c6; clear cO; have zO := oz1.chg cg (by omega); have zA := zO.s7; clear zO; have yO := oy1.chg cg (by omega); have yA := yO.s7; clear yO; have tO := ot1.chg cg (by omega); have tfA := tO.f; have t0 := tO.c0; have t1 := tO.c1; have t2 := tO.c2; have t3 := tO.c3; have t4 := tO.c4; clear tO; clear t0 t1 t2 t3 tfA; have hne2 : ¬ g = w.heap.size + 2 := by omega
  have hne3 : ¬ g = w.heap.size + 3 := by omega
  have hne1 : ¬ g = w.heap.size + 1 := by omega
  have HS := Lib.hid hS3; have HFg := Lib.hid hF2; have HFz := Lib.hid hfz; have HFy := Lib.hid hfy; clear hO2 hO3 hS3 hF2 hB2 cg k oz1 oy1 ot1 hO hS1 hF hFB R hfz hfy; have r1 := set_same; have r2 := set_off; have r3 := set_blk; clear c0 c1 c3 c4 c6; go_wp2; exact bodyPost_ret (v := T3 (.agg #[I 0, I 0, I 0, I 0, I 0, I 0, .slice none 0 0]) (.agg #[I 0, I 0, I 0, I 0, I 0, I 0, I 0]) (I 20)) (by simp [results, Tryz.results37, go_sem, *]; try omega) rfl (⟨_, rfl, Sl.nil _ _, below_autor, FarB.nil _ _ _⟩)

end
section
open Go.RowKit

theorem Grant_ok (x1 x2 x3 x4 x5 x6 bo : Int) (v tv : Value) (xs ys : List ADebt) (ts : List AStep) (f b d al m : Int) (w : World) (h : Sl w v 2 xs.length (xs.flatMap ADebt.cells)) (ht : Sl w tv 2 ts.length (ts.flatMap AStep.cells))
    (G : Hid (∀ W, Sl W v 2 xs.length (xs.flatMap ADebt.cells) → Sl W tv 2 ts.length (ts.flatMap AStep.cells) → Calls Tryz.prog 68 #[.agg #[I x1, I x2, I x3, I x4, I x5, I x6, v], .agg #[tv, I f, I b, I d, I al]] W (GrewClerk ⟨x1, x2, x3, x4, x5, x6⟩ xs tv f b d al W)))
    (R : Hid (∀ W g u, Own W g (clerkC ⟨x1, x2, x3, x4, x5, x6⟩ u tv f b d al) → Sl W u 2 xs.length (xs.flatMap ADebt.cells) → Far g u → Calls Tryz.prog 69 #[.pointer (some ⟨g, 0, none⟩), I m] W (fun e w' => ∃ v', e = .returned (I 0) ∧ Own w' g (clerkC ⟨x1, x2, x3, m, bo, x6⟩ v' tv f b d al) ∧ Sl w' v' 2 ys.length (ys.flatMap ADebt.cells) ∧ Far g v' ∧ (∀ B, B ≤ W.heap.size → FarB B u → FarB B v') ∧ Chg g W w'))) (q1 : ¬ al = 0) (q2 : ¬ x6 = m) (q4 : ¬ 1048575 < x3) (q0 : 1 ≤ x3) :
    Calls Tryz.prog 37 #[.agg #[I x1, I x2, I x3, I x4, I x5, I x6, v], .agg #[tv, I f, I b, I d, I al], I m] w (GrewAccBF ⟨x1, x2, x3 + 1, m, bo, m⟩ ys ⟨x3, 0, 0, 0, 0, 0, al⟩ 0 w) := by
  unfold GrewAccBF; unfold GrewClerk at G; simp only at *; have q5 : x3 + 1 - 1 = x3 := by omega
  obtain ⟨kB, -, ot, oz, oy⟩ := boxes4 w [I x1, I x2, I x3, I x4, I x5, I x6, v] 64 [tv, I f, I b, I d, I al] 24 [I 0, I 0, I 0, I 0, I 0, I 0, .slice none 0 0] 64 [I 0, I 0, I 0, I 0, I 0, I 0, I 0] 39; have hS := h.below kB; have tS := ht.below kB; obtain ⟨a, cap, rfl, -⟩ := h; obtain ⟨ta, tcap, rfl, -⟩ := ht; go_enter Tryz.func37, Tryz.ntmps37
  go_wp2_with fail
  refine (G.out _ hS tS).mono ?_; rintro e w1 ⟨g, u, rfl, hg, hO, hS1, hF, hFB, k1⟩; have oz1 := oz.below k1; have oy1 := oy.below k1; have ot1 := ot.below k1; have k := kB.trans (k1.mono kB.size); have hg2 : w.heap.size + 4 ≤ g := by have := hg; simp at this; omega
  have hk1s := k1.size; clear k1 kB oz oy ot hS tS G hg
  go_wp2_with fail
  refine (R.out _ _ _ hO hS1 hF).mono ?_; rintro e w2 ⟨v', rfl, hO2, hS2, hF2, hB2, cg⟩; have hfz : Far (w.heap.size + 2) v' := (hB2 _ hk1s hFB).far (by first | (simp; done) | (simp; omega)); have hfy : Far (w.heap.size + 3) v' := (hB2 _ hk1s hFB).far (by first | (simp; done) | (simp; omega)); have hO3 : Own w2 g [I x1, I x2, I x3, I m, I bo, I x6, v', .slice ta ts.length tcap, I f, I b, I d, I al] := hO2; have kk := cg.below k (by omega) k.size; have HFB := Lib.hid ((hB2 _ hk1s hFB).mono1 (show w.heap.size ≤ _ by first | (simp; done) | (simp; omega))); have hS3 := hS2; obtain ⟨a', cap', rfl, -⟩ := hS2; have cO := hO3; have cA := cO.s7; clear cO; have zO := oz1.chg cg (by omega); have zA := zO.s7; clear zO; have yO := oy1.chg cg (by omega); have yA := yO.s7; clear yO; have tO := ot1.chg cg (by omega); have tfA := tO.f; have t0 := tO.c0; have t1 := tO.c1; have t2 := tO.c2; have t3 := tO.c3; have t4 := tO.c4; clear tO; clear t0 t1 t2 t3 tfA; have hne2 : ¬ g = w.heap.size + 2 := by omega
  have hne3 : ¬ g = w.heap.size + 3 := by omega
  have hne1 : ¬ g = w.heap.size + 1 := by omega
  have HS := Lib.hid hS3; have HFg := Lib.hid hF2; have HFz := Lib.hid hfz; have HFy := Lib.hid hfy; clear hO2 hO3 hS3 hF2 hB2 cg k oz1 oy1 ot1 hO hS1 hF hFB R hfz hfy; have r1 := set_same; have r2 := set_off; have r3 := set_blk; go_wp2; go_region
  all_goals
    go_wp2; have hfg := HFg.out; have hfz := HFz.out; have hfy := HFy.out; exact bodyPost_ret (v := T3 (.agg #[I x1, I x2, I (x3 + 1), I m, I bo, I m, .slice a' ys.length cap']) (.agg #[I x3, I 0, I 0, I 0, I 0, I 0, I al]) (I 0)) (by simp [results, Tryz.results37, go_sem, *]; try omega) rfl (⟨_, rfl, (by repeat (first | with_reducible exact HS.out | with_reducible refine Sl.set ?_ (by assumption) _ | with_reducible refine Sl.drew ?_)), below_autor, HFB.out⟩)

end
section
open Go.RowKit
theorem Grant_any (x : AAcc) (v tv : Value) (xs : List ADebt) (ts : List AStep) (f b d al m : Int) (w : World) (h : Sl w v 2 xs.length (xs.flatMap ADebt.cells)) (ht : Sl w tv 2 ts.length (ts.flatMap AStep.cells)) :
    Calls Tryz.prog 37 #[.agg #[I x.meter, I x.rev, I x.next, I x.month, I x.bought, I x.free, v], .agg #[tv, I f, I b, I d, I al], I m] w (GrewAccBF (grantX x m (grantE x xs ts f b d al m)) (grantL x xs m (grantE x xs ts f b d al m)) (grantB x al (grantE x xs ts f b d al m)) (grantE x xs ts f b d al m) w) := by
  have hr : grantE x xs ts f b d al m = if openErr x xs ts f b d al = 0 then (if rollE x m = 0 then (if al = 0 then 22 else if x.free = m then 21 else if x.next = 1048576 then 20 else 0) else rollE x m) else openErr x xs ts f b d al := rfl
  by_cases h1 : openErr x xs ts f b d al = 0
  · rw [if_pos h1] at hr
    have c0 : accMay x xs = true := by
      unfold openErr at h1; cases c : accMay x xs
      · rw [c] at h1; simp at h1
      · rfl
    obtain ⟨-, -, -, -, b5, b6, -⟩ := accMay_bd c0; have G := Lib.hid (fun W hS tS => open_good x v tv xs ts f b d al W hS tS h1)
    by_cases h2 : rollE x m = 0
    · rw [if_pos h2] at hr
      have R := Lib.hid (fun W g u hO hS hF => roll_good g x u tv xs f b d al m W hO hS hF c0 h2); unfold GrewRoll at R
      by_cases q1 : al = 0
      · rw [if_pos q1] at hr
        obtain ⟨e1, e2, e3⟩ := grant_err x xs m al (E := grantE x xs ts f b d al m) (by rw [hr]; decide); rw [e1, e2, e3, hr]; subst q1; exact Grant_22 x.meter x.rev x.next x.month x.bought x.free (rollX x m).bought v tv xs (rollL x xs m) ts f b d m w h ht G R
      rw [if_neg q1] at hr
      by_cases q2 : x.free = m
      · rw [if_pos q2] at hr
        obtain ⟨e1, e2, e3⟩ := grant_err x xs m al (E := grantE x xs ts f b d al m) (by rw [hr]; decide); rw [e1, e2, e3, hr]; subst q2; exact Grant_21 x.meter x.rev x.next x.month x.bought x.free (rollX x x.free).bought v tv xs (rollL x xs x.free) ts f b d al w h ht G R q1
      rw [if_neg q2] at hr
      by_cases q3 : x.next = 1048576
      · rw [if_pos q3] at hr
        obtain ⟨e1, e2, e3⟩ := grant_err x xs m al (E := grantE x xs ts f b d al m) (by rw [hr]; decide); rw [e1, e2, e3, hr]; exact Grant_20 x.meter x.rev x.next x.month x.bought x.free (rollX x m).bought v tv xs (rollL x xs m) ts f b d al m w h ht G R q1 q2 (by omega)
      rw [if_neg q3] at hr; rw [hr]; have hgL : grantL x xs m 0 = rollL x xs m := by simp [grantL]
      have hgX : grantX x m 0 = ⟨x.meter, x.rev, x.next + 1, m, (rollX x m).bought, m⟩ := by simp [grantX]
      have hgB : grantB x al 0 = ⟨x.next, 0, 0, 0, 0, 0, al⟩ := by simp [grantB]
      rw [hgL, hgX, hgB]; exact Grant_ok x.meter x.rev x.next x.month x.bought x.free (rollX x m).bought v tv xs (rollL x xs m) ts f b d al m w h ht G R q1 q2 (by omega) (by omega)
    · rw [if_neg h2] at hr
      obtain ⟨e1, e2, e3⟩ := grant_err x xs m al (E := grantE x xs ts f b d al m) (by rw [hr]; exact h2); rw [e1, e2, e3, hr]; exact Grant_roll x.meter x.rev x.next x.month x.bought x.free v tv xs ts f b d al m (rollE x m) w h ht G (Lib.hid (fun W g u hO => roll_bad g x u tv f b d al m W hO h2)) h2
  · rw [if_neg h1] at hr
    obtain ⟨e1, e2, e3⟩ := grant_err x xs m al (E := grantE x xs ts f b d al m) (by rw [hr]; exact h1); rw [e1, e2, e3, hr]; exact Grant_open x.meter x.rev x.next x.month x.bought x.free v tv xs ts f b d al m (openErr x xs ts f b d al) w h ht (Lib.hid (fun W hS tS => open_bad x v tv xs ts f b d al W hS tS h1)) h1
end
end Go.Proofs.YtdjgcenjonegjaaGreat
