/- account.Rekey · what (*book.keeper).sell answers -/
import Derived.Test.YtdjgcenjonegjaaGreatPk09
import Derived.Deep.RegionHeld3
import Derived.Test.YtdjgcenjonegjaaGreatPk31
import Derived.Test.YtdjgcenjonegjaaGreatPk05
import Derived.Test.YtdjgcenjonegjaaGreatPk21
import Derived.Test.YtdjgcenjonegjaaGreatSoldT
import Derived.Test.YtdjgcenjonegjaaGreatPk32
import Derived.Test.YtdjgcenjonegjaaGreatPk11
import Derived.Deep.RegionLaw
import Derived.Deep.AppendLies
import Derived.Deep.DeepCutAuto
set_option maxRecDepth 20000
set_option maxHeartbeats 8000000
set_option linter.unusedSimpArgs false
set_option linter.unusedVariables false
namespace Go.Proofs.YtdjgcenjonegjaaGreat
section
open Go.RowKit

theorem Rekey_f (x : AAcc) (v : Value) (xs : List ADebt) (w : World) (h : Sl w v 2 xs.length (xs.flatMap ADebt.cells)) :
    Calls Tryz.prog 27 #[.agg #[I x.meter, I x.rev, I x.next, I x.month, I x.bought, I x.free, v]] w (GrewAccBF (rekeyX x xs) (rekeyL x xs) (rekeyB x xs) (rekeyE x xs) w) := by
  obtain ⟨i0, hi, hz0, hz1, hz2⟩ := info_parts info_debts; have M := Lib.hid (fun W (hW : Sl W v 2 xs.length (xs.flatMap ADebt.cells)) => may_any x v xs W hW); obtain ⟨x1, x2, x3, x4, x5, x6⟩ := x; simp only at *; have hb1 := boxed_below w (.cells #[I x1, I x2, I x3, I x4, I x5, I x6, v] 64); have hb2 := hb1.alloc hb1.size (.cells #[I 0, I 0, I 0, I 0, I 0, I 0, .slice none 0 0] 64); have hb := hb2.alloc hb2.size (.cells #[I 0, I 0, I 0, I 0, I 0, I 0, I 0] 39); have h1 := h.below hb; have h' := h; obtain ⟨a, cap, rfl, -⟩ := h'; clear hb1 hb2; cases c0 : accMay ⟨x1, x2, x3, x4, x5, x6⟩ xs
  · obtain ⟨q1, q2, q3, q4⟩ := rekey_err (x := ⟨x1, x2, x3, x4, x5, x6⟩) (xs := xs) 5 (by unfold rekeyE; rw [c0]; simp []) (by decide)
    rw [q1, q2, q3, q4]; clear q1 q2 q3 q4; rw [c0] at M; clear c0 h; go_enter Tryz.func27, Tryz.ntmps27
    go_wp2_with fail
    refine (M.out _ h1).mono ?_; rintro e w1 ⟨rfl, k1⟩; have oc := (((Own.new (w := w) rfl [I x1, I x2, I x3, I x4, I x5, I x6, .slice a xs.length cap] 64).alloc (.cells #[I 0, I 0, I 0, I 0, I 0, I 0, .slice none 0 0] 64)).alloc (.cells #[I 0, I 0, I 0, I 0, I 0, I 0, I 0] 39)).below k1; have oz := ((Own.new (w := (w.alloc (.cells #[I x1, I x2, I x3, I x4, I x5, I x6, .slice a xs.length cap] 64))) (g := w.heap.size + 1) (by simp) [I 0, I 0, I 0, I 0, I 0, I 0, .slice none 0 0] 64).alloc (.cells #[I 0, I 0, I 0, I 0, I 0, I 0, I 0] 39)).below k1; have oy := (Own.new (w := (w.alloc (.cells #[I x1, I x2, I x3, I x4, I x5, I x6, .slice a xs.length cap] 64)).alloc (.cells #[I 0, I 0, I 0, I 0, I 0, I 0, .slice none 0 0] 64)) (g := w.heap.size + 2) (by simp) [I 0, I 0, I 0, I 0, I 0, I 0, I 0] 39).below k1; have cO := oc; have cA := cO.s7; clear cO; have yO := oy; have yA := yO.s7; clear yO; have zO := oz; have zA := zO.s7; clear zO; have k := hb.trans (k1.mono hb.size); have hzw : w.heap.size + 3 ≤ w1.heap.size := by have := k1.size; simp at this; omega
    clear k1 hb h1; have r1 := set_same; have r2 := set_off; have r3 := set_blk; go_wp2; exact bodyPost_ret (v := T3 (.agg #[I 0, I 0, I 0, I 0, I 0, I 0, .slice none 0 0]) (.agg #[I 0, I 0, I 0, I 0, I 0, I 0, I 0]) (I 5)) (by simp [results, Tryz.results27, go_sem, *]; try omega) rfl (⟨_, rfl, Sl.nil _ _, below_autor, FarB.nil _ _ _⟩)
  · have h8 := accMay_len c0
    obtain ⟨-, -, b3, b4, b5, b6, -⟩ := accMay_bd c0; simp only at b3 b4 b5 b6
    by_cases c1 : x2 = 15
    · obtain ⟨q1, q2, q3, q4⟩ := rekey_err (x := ⟨x1, x2, x3, x4, x5, x6⟩) (xs := xs) 24 (by unfold rekeyE; rw [c0]; simp [c1]) (by decide)
      rw [q1, q2, q3, q4]; clear q1 q2 q3 q4; have c1b : (x2 == 15) = true := by simp [c1]
      rw [c0] at M; clear c0 h h8 c1; go_enter Tryz.func27, Tryz.ntmps27
      go_wp2_with fail
      refine (M.out _ h1).mono ?_; rintro e w1 ⟨rfl, k1⟩; have oc := (((Own.new (w := w) rfl [I x1, I x2, I x3, I x4, I x5, I x6, .slice a xs.length cap] 64).alloc (.cells #[I 0, I 0, I 0, I 0, I 0, I 0, .slice none 0 0] 64)).alloc (.cells #[I 0, I 0, I 0, I 0, I 0, I 0, I 0] 39)).below k1; have oz := ((Own.new (w := (w.alloc (.cells #[I x1, I x2, I x3, I x4, I x5, I x6, .slice a xs.length cap] 64))) (g := w.heap.size + 1) (by simp) [I 0, I 0, I 0, I 0, I 0, I 0, .slice none 0 0] 64).alloc (.cells #[I 0, I 0, I 0, I 0, I 0, I 0, I 0] 39)).below k1; have oy := (Own.new (w := (w.alloc (.cells #[I x1, I x2, I x3, I x4, I x5, I x6, .slice a xs.length cap] 64)).alloc (.cells #[I 0, I 0, I 0, I 0, I 0, I 0, .slice none 0 0] 64)) (g := w.heap.size + 2) (by simp) [I 0, I 0, I 0, I 0, I 0, I 0, I 0] 39).below k1; have cO := oc; have cA := cO.s7; clear cO; have yO := oy; have yA := yO.s7; clear yO; have zO := oz; have zA := zO.s7; clear zO; have k := hb.trans (k1.mono hb.size); have hzw : w.heap.size + 3 ≤ w1.heap.size := by have := k1.size; simp at this; omega
      clear k1 hb h1; have r1 := set_same; have r2 := set_off; have r3 := set_blk; go_wp2; exact bodyPost_ret (v := T3 (.agg #[I 0, I 0, I 0, I 0, I 0, I 0, .slice none 0 0]) (.agg #[I 0, I 0, I 0, I 0, I 0, I 0, I 0]) (I 24)) (by simp [results, Tryz.results27, go_sem, *]; try omega) rfl (⟨_, rfl, Sl.nil _ _, below_autor, FarB.nil _ _ _⟩)
    have c1b : (x2 == 15) = false := by simp [c1]
    by_cases c2 : x3 = 1048576
    · obtain ⟨q1, q2, q3, q4⟩ := rekey_err (x := ⟨x1, x2, x3, x4, x5, x6⟩) (xs := xs) 20 (by unfold rekeyE; rw [c0]; simp [c1, c2]) (by decide)
      rw [q1, q2, q3, q4]; clear q1 q2 q3 q4; have c2b : 1048575 < x3 := by omega
      rw [c0] at M; clear c0 h h8 c1 c2; go_enter Tryz.func27, Tryz.ntmps27
      go_wp2_with fail
      refine (M.out _ h1).mono ?_; rintro e w1 ⟨rfl, k1⟩; have oc := (((Own.new (w := w) rfl [I x1, I x2, I x3, I x4, I x5, I x6, .slice a xs.length cap] 64).alloc (.cells #[I 0, I 0, I 0, I 0, I 0, I 0, .slice none 0 0] 64)).alloc (.cells #[I 0, I 0, I 0, I 0, I 0, I 0, I 0] 39)).below k1; have oz := ((Own.new (w := (w.alloc (.cells #[I x1, I x2, I x3, I x4, I x5, I x6, .slice a xs.length cap] 64))) (g := w.heap.size + 1) (by simp) [I 0, I 0, I 0, I 0, I 0, I 0, .slice none 0 0] 64).alloc (.cells #[I 0, I 0, I 0, I 0, I 0, I 0, I 0] 39)).below k1; have oy := (Own.new (w := (w.alloc (.cells #[I x1, I x2, I x3, I x4, I x5, I x6, .slice a xs.length cap] 64)).alloc (.cells #[I 0, I 0, I 0, I 0, I 0, I 0, .slice none 0 0] 64)) (g := w.heap.size + 2) (by simp) [I 0, I 0, I 0, I 0, I 0, I 0, I 0] 39).below k1; have cO := oc; have cA := cO.s7; clear cO; have yO := oy; have yA := yO.s7; clear yO; have zO := oz; have zA := zO.s7; clear zO; have k := hb.trans (k1.mono hb.size); have hzw : w.heap.size + 3 ≤ w1.heap.size := by have := k1.size; simp at this; omega
      clear k1 hb h1; have r1 := set_same; have r2 := set_off; have r3 := set_blk; go_wp2; exact bodyPost_ret (v := T3 (.agg #[I 0, I 0, I 0, I 0, I 0, I 0, .slice none 0 0]) (.agg #[I 0, I 0, I 0, I 0, I 0, I 0, I 0]) (I 20)) (by simp [results, Tryz.results27, go_sem, *]; try omega) rfl (⟨_, rfl, Sl.nil _ _, below_autor, FarB.nil _ _ _⟩)
    have c2b : ¬ 1048575 < x3 := by omega
    obtain ⟨q1, q2, q3, q4⟩ := rekey_ok (x := ⟨x1, x2, x3, x4, x5, x6⟩) (xs := xs) (by unfold rekeyE; rw [c0]; simp [c1, c2]); rw [q1, q2, q3, q4]; clear q1 q2 q3 q4; rw [c0] at M; clear c0 c1 c2
    by_cases he : xs = []
    · subst he
      go_enter Tryz.func27, Tryz.ntmps27
      go_wp2_with fail
      refine (M.out _ h1).mono ?_; rintro e w1 ⟨rfl, k1⟩; have oc := (((Own.new (w := w) rfl [I x1, I x2, I x3, I x4, I x5, I x6, .slice a ([] : List ADebt).length cap] 64).alloc (.cells #[I 0, I 0, I 0, I 0, I 0, I 0, .slice none 0 0] 64)).alloc (.cells #[I 0, I 0, I 0, I 0, I 0, I 0, I 0] 39)).below k1; have oz := ((Own.new (w := (w.alloc (.cells #[I x1, I x2, I x3, I x4, I x5, I x6, .slice a ([] : List ADebt).length cap] 64))) (g := w.heap.size + 1) (by simp) [I 0, I 0, I 0, I 0, I 0, I 0, .slice none 0 0] 64).alloc (.cells #[I 0, I 0, I 0, I 0, I 0, I 0, I 0] 39)).below k1; have oy := (Own.new (w := (w.alloc (.cells #[I x1, I x2, I x3, I x4, I x5, I x6, .slice a ([] : List ADebt).length cap] 64)).alloc (.cells #[I 0, I 0, I 0, I 0, I 0, I 0, .slice none 0 0] 64)) (g := w.heap.size + 2) (by simp) [I 0, I 0, I 0, I 0, I 0, I 0, I 0] 39).below k1; have cO := oc; have cA := cO.s7; clear cO; have yO := oy; have yA := yO.s7; clear yO; have zO := oz; have zA := zO.s7; clear zO; have k := hb.trans (k1.mono hb.size); have hzw : w.heap.size + 3 ≤ w1.heap.size := by have := k1.size; simp at this; omega
      clear k1 hb h1; have r1 := set_same; have r2 := set_off; have r3 := set_blk; cases a
      all_goals
        go_wp2; go_region
        all_goals
          go_wp2; exact bodyPost_ret (v := T3 (.agg #[I x1, I (x2 + 1), I (x3 + 1), I x4, I x5, I x6, .slice none 0 0]) (.agg #[I x3, I 0, I 0, I 0, I 0, I 0, I 0]) (I 0)) (by simp [results, Tryz.results27, go_sem, *]; try omega) rfl (⟨_, rfl, Sl.nil _ _, below_autor, FarB.nil _ _ _⟩)
    · have hpos : 0 < xs.length := List.length_pos_iff.2 he
      have hS0 := h; obtain ⟨a', cap', hv, hn, hl, h0, hr⟩ := h; injection hv with e1 e2 e3
      subst e1 e3; clear e2; obtain ⟨b, off, rfl, hbl, hcl⟩ := hr.resolve_left (by omega); have hone := debts_one xs; have Hl := Lib.hid hl; have Hone := Lib.hid hone; have hlen : xs.length ≤ 281474976710656 := by omega
      clear h0 hl hcl hone hr; go_enter Tryz.func27, Tryz.ntmps27
      go_wp2_with fail
      refine (M.out _ h1).mono ?_; rintro e w1 ⟨rfl, k1⟩; have oc := (((Own.new (w := w) rfl [I x1, I x2, I x3, I x4, I x5, I x6, .slice (some ⟨b, off, none⟩) xs.length cap] 64).alloc (.cells #[I 0, I 0, I 0, I 0, I 0, I 0, .slice none 0 0] 64)).alloc (.cells #[I 0, I 0, I 0, I 0, I 0, I 0, I 0] 39)).below k1; have oz := ((Own.new (w := (w.alloc (.cells #[I x1, I x2, I x3, I x4, I x5, I x6, .slice (some ⟨b, off, none⟩) xs.length cap] 64))) (g := w.heap.size + 1) (by simp) [I 0, I 0, I 0, I 0, I 0, I 0, .slice none 0 0] 64).alloc (.cells #[I 0, I 0, I 0, I 0, I 0, I 0, I 0] 39)).below k1; have oy := (Own.new (w := (w.alloc (.cells #[I x1, I x2, I x3, I x4, I x5, I x6, .slice (some ⟨b, off, none⟩) xs.length cap] 64)).alloc (.cells #[I 0, I 0, I 0, I 0, I 0, I 0, .slice none 0 0] 64)) (g := w.heap.size + 2) (by simp) [I 0, I 0, I 0, I 0, I 0, I 0, I 0] 39).below k1; have cO := oc; have cA := cO.s7; clear cO; have yO := oy; have yA := yO.s7; clear yO; have zO := oz; have zA := zO.s7; clear zO; have k := hb.trans (k1.mono hb.size); have hzw : w.heap.size + 3 ≤ w1.heap.size := by have := k1.size; simp at this; omega
      clear k1 hb h1; have r1 := set_same; have r2 := set_off; have r3 := set_blk; have HN := Lib.hid (Sl.news (hS0.below k)); clear hS0
      go_wp2_with
        (at_builtin
         refine wpList_append_lies _ rfl _ _ 62 rfl w1.heap.size 46 i0 (.agg #[.int .i64 0, .int .i64 0]) 2 16 Tryz.underlying62 hi hz0 hz1 hz2 rfl (by decide) (.slice none 0 0) 0 [] rfl (World.ownsRow_nil _ _ _ _) ⟨b, off, none⟩ xs.length cap (xs.flatMap ADebt.cells) rfl Hl.out HN.out Hone.out hpos (by unfold maxLen; omega) (by omega) (Nat.le_refl _) _ rfl ?_; intro g2 cap2 w2 hown2 hgrow2 hat2 hlt2; rw [Nat.zero_add, List.nil_append] at hown2; have k2 : Below w1.heap.size w1 w2 := Below.grown (B := w1.heap.size) (Below.refl _ _) hgrow2 (Nat.le_refl _) (fun j hj => by cases hj); have kB := k.trans (k2.mono k.size); have cO := oc.below k2; have cA := cO.s7; clear cO; have zO := oz.below k2; have zA := zO.s7; clear zO; have yO := oy.below k2; have yA := yO.s7; clear yO; have hfA : Far w.heap.size (.slice (some ⟨g2, 0, none⟩) xs.length cap2) := Far.lit (by rcases hat2 with h | h; (cases h); omega); have hfB : Far (w.heap.size + 1) (.slice (some ⟨g2, 0, none⟩) xs.length cap2) := Far.lit (by rcases hat2 with h | h; (cases h); omega); have hfC : Far (w.heap.size + 1 + 1) (.slice (some ⟨g2, 0, none⟩) xs.length cap2) := Far.lit (by rcases hat2 with h | h; (cases h); omega); have HS := Lib.hid (Sl.of_owns hown2 hlen); have HFB := Lib.hid (show FarB w.heap.size (.slice (some ⟨g2, 0, none⟩) xs.length cap2) from FarB.lit (by rcases hat2 with h | h; (cases h); omega)); clear hat2 hgrow2 hown2 k2 k)
      go_region
      all_goals
        go_wp2; exact bodyPost_ret (v := T3 (.agg #[I x1, I (x2 + 1), I (x3 + 1), I x4, I x5, I x6, .slice (some ⟨g2, 0, none⟩) xs.length cap2]) (.agg #[I x3, I 0, I 0, I 0, I 0, I 0, I 0]) (I 0)) (by simp [results, Tryz.results27, go_sem, *]; try omega) rfl (⟨_, rfl, (by repeat (first | with_reducible exact HS.out | with_reducible refine Sl.set ?_ (by assumption) _ | with_reducible refine Sl.drew ?_)), below_autor, HFB.out⟩)
end
section
open Go Go.RowKit
/-- it returns, and the book v holds the customers cs; or it throws F, and what was there is as it was -/
def SellP (B : Nat) (F : Int) (v : Value) (cs : List PCust) (w : World) (e : Ending) (w' : World) : Prop :=
  (F = 0 → e = .returned (.tuple #[]) ∧ (∃ ys, BookAt w' B v cs ys) ∧ Below B w w') ∧ (F ≠ 0 → e = .panicked [{ v := refV F, recovered := false }] ∧ Below w.heap.size w w')
theorem SellP.no {B : Nat} {F k : Int} {v : Value} {cs : List PCust} {w w' : World} (h : F = k) (hk : k ≠ 0) (hb : Below w.heap.size w w') : SellP B F v cs w (.panicked [{ v := refV k, recovered := false }]) w' := by
  subst h; exact ⟨fun h => absurd h hk, fun _ => ⟨rfl, hb⟩⟩
theorem SellP.yes {B : Nat} {F : Int} {v : Value} {cs : List PCust} {w w' : World} (h : F = 0) (hb : (∃ ys, BookAt w' B v cs ys) ∧ Below B w w') : SellP B F v cs w (.returned (.tuple #[])) w' := ⟨fun _ => ⟨rfl, hb⟩, fun hk => absurd h hk⟩
end
end Go.Proofs.YtdjgcenjonegjaaGreat
