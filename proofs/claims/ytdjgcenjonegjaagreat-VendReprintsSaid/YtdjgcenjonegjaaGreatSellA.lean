/- the clerk's sell -/
import Derived.Test.YtdjgcenjonegjaaGreatPk12
import Derived.Test.YtdjgcenjonegjaaGreatPk13
import Derived.Test.YtdjgcenjonegjaaGreatMost
import Derived.Test.YtdjgcenjonegjaaGreatPk11
set_option maxRecDepth 20000
set_option maxHeartbeats 8000000
set_option linter.unusedSimpArgs false
set_option linter.unusedVariables false
namespace Go.Proofs.YtdjgcenjonegjaaGreat
open Go.RowKit

def sellR (xs : List ADebt) (t f b d : Int) : Int := t - recP xs t d - (f + partA t b)
def sellU (xs : List ADebt) (ts : List AStep) (bo t f b d : Int) : Int := if 0 ≤ sellR xs t f b d then mostU ts bo (sellR xs t f b d) else 0
def sellP (xs : List ADebt) (ts : List AStep) (bo t f b d : Int) : Int := if 0 ≤ sellR xs t f b d then mostC ts bo (sellR xs t f b d) else 0
def sellE (xs : List ADebt) (ts : List AStep) (bo nx t f b d : Int) : Int := if inB t 1 100000000 then (if sellU xs ts bo t f b d = 0 then 19 else if 1048575 < nx then 20 else 0) else 19
theorem recP_bd (xs : List ADebt) (t d : Int) : 0 ≤ recP xs t d ∧ recP xs t d ≤ 1000000000000 := by
  unfold recP
  split
  · rename_i h
    simp only [recOk, Bool.and_eq_true, beq_iff_eq] at h; have h0 := debtSum_bd (debtE_zero h.1).1 (debtE_zero h.1).2
    have h1 : 0 ≤ shareA t d ∧ shareA t d ≤ 1000000000000 := by
      unfold shareA
      split
      · exact partA_bd t d
      · omega
    omega
  · omega
def GrewSell (g : Nat) (y : AAcc) (ys : List ADebt) (bl : ABill) (tv : Value) (f b d al : Int) (w : World) (e : Ending) (w' : World) : Prop :=
  ∃ v, e = .returned (T2 (.agg #[I bl.id, I bl.tender, I bl.debt, I bl.fee, I bl.price, I bl.change, I bl.units]) (I 0)) ∧ Own w' g (clerkC y v tv f b d al) ∧ Sl w' v 2 ys.length (ys.flatMap ADebt.cells) ∧ Far g v ∧ FarB w.heap.size v ∧ Chg g w w'
def GrewSellE (g : Nat) (k : Int) (w : World) (e : Ending) (w' : World) : Prop :=
  e = .returned (T2 (.agg #[I 0, I 0, I 0, I 0, I 0, I 0, I 0]) (I k)) ∧ Chg g w w'
theorem sell_tender (g : Nat) (t : Int) (w : World) (hi : inB t 1 100000000 = false) :
    Calls Tryz.prog 70 #[.pointer (some ⟨g, 0, none⟩), I t] w (GrewSellE g 19 w) := by
  have k := boxed_below w (.cells #[I 0, I 0, I 0, I 0, I 0, I 0, I 0] 39); have oz := Own.new (w := w) rfl [I 0, I 0, I 0, I 0, I 0, I 0, I 0] 39; have zO := oz; have zA := zO.s7; clear zO; clear oz; have r1 := set_same; have r2 := set_off; have r3 := set_blk; go_enter Tryz.func70, Tryz.ntmps70
  go_wp2_with (go_at_call 110; refine (awithin_any _ _ _ _).mono ?_; rintro e w' ⟨rfl, rfl⟩)
  exact bodyPost_ret (v := T2 (.agg #[I 0, I 0, I 0, I 0, I 0, I 0, I 0]) (I 19)) (by simp [results, Tryz.results70, go_sem, *]; try omega) rfl (⟨rfl, Chg.of_below below_autor⟩)
theorem wrap_mid (n : Int) (h0 : -9000000000000000000 ≤ n) (h1 : n ≤ 9000000000000000000) : IntKind.i64.wrap n = n := by
  rw [IntKind.wrap_i64]; omega
theorem Chg.drw {z : Nat} {w w' : World} (h : Chg z w w') : Chg z w w'.drew := ⟨h.os, h.tape, h.output, h.size, h.block⟩
theorem sell_neg (g : Nat) (y1 y2 y3 y4 y5 y6 : Int) (v tv : Value) (xs ys : List ADebt) (ts : List AStep) (f b d al t p k0 q qe : Int) (w : World) (hO : Own w g [I y1, I y2, I y3, I y4, I y5, I y6, v, tv, I f, I b, I d, I al])
    (hS : Sl w v 2 xs.length (xs.flatMap ADebt.cells)) (tS : Sl w tv 2 ts.length (ts.flatMap AStep.cells)) (hFt : Far g tv) (hFtb : Far (w.heap.size + 1) tv) (hi : inB t 1 100000000 = true)
    (R : Hid (∀ W, Sl W v 2 xs.length (xs.flatMap ADebt.cells) → Calls Tryz.prog 118 #[v, I t, I d] W (GrewSl3 2 ys.length (ys.flatMap ADebt.cells) p k0 W)))
    (C : Hid (∀ W, Calls Tryz.prog 119 #[I t, I b] W (Pure (T2 (I q) (I qe)) W)))
    (p0 : 0 ≤ p) (p1 : p ≤ 1000000000000) (q0 : 0 ≤ q) (q1 : q ≤ 1000000000000) (f0 : 0 ≤ f) (f1 : f ≤ 100000) (hr : t - p - (f + q) < 0) :
    Calls Tryz.prog 70 #[.pointer (some ⟨g, 0, none⟩), I t] w (GrewSellE g 19 w) := by
  obtain ⟨t0, t1⟩ := inB_true.1 hi; have x1 : IntKind.i64.wrap (f + q) = f + q := wrap_small _ (by omega) (by omega); have x2 : IntKind.i64.wrap (t - p) = t - p := wrap_mid _ (by omega) (by omega); have x3 : IntKind.i64.wrap (t - p - (f + q)) = t - p - (f + q) := wrap_mid _ (by omega) (by omega); have hgl := hO.lt; have r1 := set_same; have r2 := set_off; have r3 := set_blk; obtain ⟨k0, oz, ob⟩ := boxes2 w [I 0, I 0, I 0, I 0, I 0, I 0, I 0] 39 [I y3, I t, I 0, I 0, I 0, I 0, I 0] 39; have o1 := hO.below k0; have hS1 := hS.below k0; have tS1 := tS.below k0; have e2 := hO.cell 2 (by simp); have d2 := (hO.alloc (.cells #[I 0, I 0, I 0, I 0, I 0, I 0, I 0] 39)).cell 2 (by simp); simp only [Nat.zero_add, List.getD_cons_zero, List.getD_cons_succ] at e2 d2; have c6 : ((w.alloc (.cells #[I 0, I 0, I 0, I 0, I 0, I 0, I 0] 39)).alloc (.cells #[I y3, I t, I 0, I 0, I 0, I 0, I 0] 39)).cell? ⟨g, 6, none⟩ = some v := o1.cell 6 (by simp); have c10 : ((w.alloc (.cells #[I 0, I 0, I 0, I 0, I 0, I 0, I 0] 39)).alloc (.cells #[I y3, I t, I 0, I 0, I 0, I 0, I 0] 39)).cell? ⟨g, 10, none⟩ = some (I d) := o1.cell 10 (by simp); have hsz : ((w.alloc (.cells #[I 0, I 0, I 0, I 0, I 0, I 0, I 0] 39)).alloc (.cells #[I y3, I t, I 0, I 0, I 0, I 0, I 0] 39)).heap.size = w.heap.size + 2 := by simp
  obtain ⟨va, vcap, rfl, -⟩ := id hS; obtain ⟨ta, tcap, rfl, -⟩ := id tS; go_enter Tryz.func70, Tryz.ntmps70
  go_wp2_with (go_at_call 110; refine (awithin_any _ _ _ _).mono ?_; rintro e w' ⟨rfl, rfl⟩)
  generalize ((w.alloc (.cells #[I 0, I 0, I 0, I 0, I 0, I 0, I 0] 39)).alloc (.cells #[I y3, I t, I 0, I 0, I 0, I 0, I 0] 39)) = W1 at *; refine AnyC.begin 12 (fun w' => w'.cell? ⟨g, 6, none⟩ = some (.slice va xs.length vcap) ∧ w'.cell? ⟨g, 10, none⟩ = some (I d)) (by kernel_rfl) ?_; have HH : (fun w' => w'.cell? ⟨g, 6, none⟩ = some (.slice va xs.length vcap) ∧ w'.cell? ⟨g, 10, none⟩ = some (I d)) W1.drew := ⟨c6, c10⟩; refine AnyC.pure (i := 0) (v := ?_) rfl (by decide) (by kernel_rfl) (by kernel_rfl) (by kernel_rfl) (fun _ _ _ h => h) (Or.inl ⟨by rfl, ?_⟩) (fun _ => HH) ?_; rotate_left
  · (intro w; first | (go_simp; done) | (go_simp; with_reducible rfl))
  (try simp only [Act.put, List.setIfInBounds_toArray]); refine AnyC.tk 1 ?_ HH ?_ ?_; rotate_left
  · (intro w hSw; (try dsimp only at hSw); first | (go_simp; done) | (go_simp; with_reducible rfl))
  (try simp only [Act.put]); refine AnyC.tk 2 ?_ HH ?_ ?_; rotate_left
  · (intro w hSw; (try dsimp only at hSw); first | (go_simp; done) | (go_simp; with_reducible rfl))
  (try simp only [Act.put]); refine AnyC.tk 3 ?_ HH ?_ ?_; rotate_left
  · (intro w hSw; (try dsimp only at hSw); first | (go_simp; done) | (go_simp; with_reducible rfl))
  (try simp only [Act.put]); refine AnyC.tk 4 ?_ HH ?_ ?_; rotate_left
  · (intro w hSw; (try dsimp only at hSw); first | (go_simp; done) | (go_simp; with_reducible rfl))
  (try simp only [Act.put]); refine AnyC.tk 5 ?_ HH ?_ ?_; rotate_left
  · (intro w hSw; (try dsimp only at hSw); first | (go_simp; done) | (go_simp; with_reducible rfl))
  (try simp only [Act.put]); refine AnyC.tk 6 ?_ HH ?_ ?_; rotate_left
  · (intro w hSw; (try dsimp only at hSw); first | (go_simp; done) | (go_simp; with_reducible rfl))
  (try simp only [Act.put]); refine AnyC.tk 7 ?_ HH ?_ ?_; rotate_left
  · (intro w hSw; (try dsimp only at hSw); first | (go_simp; done) | (go_simp; with_reducible rfl))
  (try simp only [Act.put]); refine AnyC.tk 8 ?_ HH ?_ ?_; rotate_left
  · (intro w hSw; (try dsimp only at hSw); first | (go_simp; done) | (go_simp; with_reducible rfl))
  (try simp only [Act.put]); refine AnyC.tk 9 ?_ HH ?_ ?_; rotate_left
  · (intro w hSw; (try dsimp only at hSw); first | (go_simp; done) | (go_simp; with_reducible rfl))
  (try simp only [Act.put]); refine AnyC.tk 10 ?_ HH ?_ ?_; rotate_left
  · (intro w hSw; (try dsimp only at hSw); first | (go_simp; done) | (go_simp; with_reducible rfl))
  (try simp only [Act.put]); refine AnyC.tk 11 ?_ HH ?_ ?_; rotate_left
  · (intro w hSw; (try dsimp only at hSw); first | (go_simp; done) | (go_simp; with_reducible rfl))
  (try simp only [Act.put]); refine AnyC.one (i := 12) (by kernel_rfl) (by rfl) (fun K hK => ?_); go_simp; (with_reducible refine (R.out _ ?_).mono ?_)
  · exact hS1
  rintro e w1 ⟨v', rfl, h1, k1, hF1⟩; have k1' : Below W1.heap.size W1 w1 := ⟨k1.os, k1.tape, k1.output, k1.size, k1.block⟩; have hF1' : FarB W1.heap.size v' := hF1; have og := o1.below k1'; have hf6 := og.frozen 6; have g6 : w1.cell? ⟨g, 6, none⟩ = some (.slice va xs.length vcap) := og.cell 6 (by simp); have ob1 := ob.below k1'; have b2 : w1.cell? ⟨w.heap.size + 1, 2, none⟩ = some (I 0) := ob1.cell 2 (by simp); have bf2 := ob1.frozen 2; obtain ⟨va', vcap', rfl, -⟩ := id h1
  go_wp2_with fail
  refine hK.out _ _ (fun h => absurd rfl h) ?_; clear hK K; (try simp only [Act.put]); refine AnyC.pu 13 ?_ ?_ ?_; rotate_left
  · (intro w; first | (go_simp; done) | (go_simp; with_reducible rfl))
  (try simp only [Act.put]); refine AnyC.pu 14 ?_ ?_ ?_; rotate_left
  · (intro w; first | (go_simp; done) | (go_simp; with_reducible rfl))
  (try simp only [Act.put]); refine AnyC.pu 15 ?_ ?_ ?_; rotate_left
  · (intro w; first | (go_simp; done) | (go_simp; with_reducible rfl))
  (try simp only [Act.put]); refine AnyC.pu 16 ?_ ?_ ?_; rotate_left
  · (intro w; first | (go_simp; done) | (go_simp; with_reducible rfl))
  (try simp only [Act.put]); refine AnyC.pu 17 ?_ ?_ ?_; rotate_left
  · (intro w; first | (go_simp; done) | (go_simp; with_reducible rfl))
  (try simp only [Act.put]); refine AnyC.pu 18 ?_ ?_ ?_; rotate_left
  · (intro w; first | (go_simp; done) | (go_simp; with_reducible rfl))
  (try simp only [Act.put]); refine AnyC.pu 19 ?_ ?_ ?_; rotate_left
  · (intro w; first | (go_simp; done) | (go_simp; with_reducible rfl))
  (try simp only [Act.put]); refine AnyC.one (i := 20) (by kernel_rfl) (by rfl) (fun K hK => ?_); go_simp; refine hK.out _ _ (fun _ h => absurd h (by decide)) ?_; clear hK K; (try simp only [Act.put]); refine AnyC.pu 21 ?_ ?_ ?_; rotate_left
  · (intro w; first | (go_simp; done) | (go_simp; with_reducible rfl))
  (try simp only [Act.put]); refine AnyC.one (i := 22) (by kernel_rfl) (by rfl) (fun K hK => ?_); go_simp; refine hK.out _ _ (fun _ h => absurd h (by decide)) ?_; clear hK K; (try simp only [Act.put]); refine AnyC.done (by kernel_rfl) ?_ _; have hne : g ≠ w.heap.size + 1 := by omega
  have hfz : Far g (.slice va' ys.length vcap') := hF1'.far (by omega); have hfb : Far (w.heap.size + 1) (.slice va' ys.length vcap') := hF1'.far (by omega); have oG := (og.set 6 (.slice va' ys.length vcap')).other (a := ⟨w.heap.size + 1, 2, none⟩) (Ne.symm hne) (I p); have oB := (ob1.other (a := ⟨g, 6, none⟩) hne (.slice va' ys.length vcap')).set 2 (I p); have oZ := ((oz.below k1').other (a := ⟨g, 6, none⟩) (by show g ≠ w.heap.size; omega) (.slice va' ys.length vcap')).other (a := ⟨w.heap.size + 1, 2, none⟩) (by show w.heap.size + 1 ≠ w.heap.size; omega) (I p); have cG := ((((Chg.of_below k0 : Chg g w W1)).trans (Chg.of_below k1')).set 6 (.slice va' ys.length vcap')).setNew (w.heap.size + 1) 2 (by omega) (I p); have hY := (h1.set (j := 6) hfz (.slice va' ys.length vcap')).set (j := 2) hfb (I p); have tS2 := ((tS1.below k1').set (j := 6) hFt (.slice va' ys.length vcap')).chg (z := w.heap.size + 1) (fun _ => hFtb) ((Chg.refl _ _).set 2 (I p)); have hz2 : w.heap.size + 2 ≤ ((w1.setCell ⟨g, 6, none⟩ (.slice va' ys.length vcap')).setCell ⟨w.heap.size + 1, 2, none⟩ (I p)).heap.size := by have := k1'.size; simp [World.setCell]; omega
  (try simp only [List.set_cons_zero, List.set_cons_succ] at oG oB); clear HH og g6 hf6 ob1 b2 bf2 c6 c10 d2 e2 k1 k1' hF1 o1 oz ob hS1 tS1 h1 k0 hO hS tS; generalize ((w1.setCell ⟨g, 6, none⟩ (.slice va' ys.length vcap')).setCell ⟨w.heap.size + 1, 2, none⟩ (I p)) = W2 at *; have gcO := oG; have gcA := gcO.s12; clear gcO; have bcO := oB; have bcA := bcO.s7; clear bcO; have zcO := oZ; have zcA := zcO.s7; clear zcO; clear oG oB oZ hY tS2 R; have hlt : t - p - (f + q) < 0 := hr
  go_wp2_with (go_at_call 119; refine (C.out _).mono ?_; rintro e w' ⟨rfl, rfl⟩)
  exact bodyPost_ret (v := T2 (.agg #[I 0, I 0, I 0, I 0, I 0, I 0, I 0]) (I 19)) (by simp [results, Tryz.results70, go_sem, *]; try omega) rfl (⟨rfl, (by repeat first | with_reducible assumption | with_reducible refine Chg.set ?_ _ _ | with_reducible refine Chg.setNew ?_ _ _ (by omega) _ | with_reducible refine Chg.drewN ?_ _ | with_reducible refine Chg.drw ?_)⟩)
end Go.Proofs.YtdjgcenjonegjaaGreat
