/- account.Owe, account.Rekey and their references -/
import Derived.Test.YtdjgcenjonegjaaGreatPk07
import Derived.Deep.RegionLaw
import Derived.Deep.AppendLies
set_option maxRecDepth 20000
set_option maxHeartbeats 8000000
set_option linter.unusedSimpArgs false
set_option linter.unusedVariables false
namespace Go.Proofs.YtdjgcenjonegjaaGreat
open Go.RowKit

def oweE (x : AAcc) (xs : List ADebt) (d : ADebt) : Int := if accMay x xs then (if inB d.owed 1 1000000000 then (if inB d.bp 0 10000 then (if xs.length = 8 then 16 else 0) else 2) else 2) else 5
def oweX (x : AAcc) (xs : List ADebt) (d : ADebt) : AAcc := if oweE x xs d = 0 then x else ⟨0, 0, 0, 0, 0, 0⟩
def oweL (x : AAcc) (xs : List ADebt) (d : ADebt) : List ADebt := if oweE x xs d = 0 then xs ++ [d] else []
theorem owe_err {x : AAcc} {xs : List ADebt} {d : ADebt} (k : Int) (h : oweE x xs d = k) (hk : k ≠ 0) : oweX x xs d = ⟨0, 0, 0, 0, 0, 0⟩ ∧ oweL x xs d = [] ∧ oweE x xs d = k := by simp [oweX, oweL, h, hk]
theorem owe_ok {x : AAcc} {xs : List ADebt} {d : ADebt} (h : oweE x xs d = 0) : oweX x xs d = x ∧ oweL x xs d = xs ++ [d] ∧ oweE x xs d = 0 := by simp [oweX, oweL, h]
theorem accMay_len {x : AAcc} {xs : List ADebt} (h : accMay x xs = true) : xs.length ≤ 8 := by
  simp only [accMay, Bool.and_eq_true, decide_eq_true_eq] at h; exact (debtE_zero h.1.1.1.1.1.1).1
theorem news_own {w : World} {g : Nat} {cs : List Value} (h : Own w g cs) : ∀ (j : Nat) (u : Value), cs[j]? = some u → w.cell? ((⟨g, 0, none⟩ : Addr).add j) = some u := by
  intro j u hu; have hj := (List.getElem?_eq_some_iff.1 hu).1; have := h.cell j hj; rw [List.getD_eq_getElem?_getD, hu, Nat.zero_add] at this; unfold Addr.add
  split
  · subst_vars; simpa using this
  · simpa using this
theorem debts_one : ∀ ys : List ADebt, oneCells (ys.flatMap ADebt.cells) := fun ys => oneCells_flat (fun x u hu => by simp only [ADebt.cells, List.mem_cons, List.not_mem_nil, or_false] at hu; rcases hu with rfl | rfl <;> rfl) ys

theorem Owe_f (x : AAcc) (v : Value) (xs : List ADebt) (d : ADebt) (w : World) (h : Sl w v 2 xs.length (xs.flatMap ADebt.cells)) :
    Calls Tryz.prog 125 #[.agg #[I x.meter, I x.rev, I x.next, I x.month, I x.bought, I x.free, v], .agg #[I d.owed, I d.bp]] w (GrewAccF (oweX x xs d) (oweL x xs d) (oweE x xs d) w) := by
  obtain ⟨i0, hi, hz0, hz1, hz2⟩ := info_parts info_debts; have M := Lib.hid (fun W (hW : Sl W v 2 xs.length (xs.flatMap ADebt.cells)) => may_any x v xs W hW); obtain ⟨x1, x2, x3, x4, x5, x6⟩ := x; obtain ⟨d1, d2⟩ := d; simp only at *; have hb1 := boxed_below w (.cells #[I x1, I x2, I x3, I x4, I x5, I x6, v] 64); have hb2 := hb1.alloc hb1.size (.cells #[I d1, I d2] 46); have hb := hb2.alloc hb2.size (.cells #[I 0, I 0, I 0, I 0, I 0, I 0, .slice none 0 0] 64); have h1 := h.below hb; have h' := h; obtain ⟨a, cap, rfl, -⟩ := h'; clear hb1 hb2; cases c0 : accMay ⟨x1, x2, x3, x4, x5, x6⟩ xs
  · obtain ⟨q1, q2, q3⟩ := owe_err (x := ⟨x1, x2, x3, x4, x5, x6⟩) (xs := xs) (d := ⟨d1, d2⟩) 5 (by simp [oweE, c0]) (by decide)
    rw [q1, q2, q3]; clear q1 q2 q3; rw [c0] at M; clear c0 h; go_enter Tryz.func125, Tryz.ntmps125
    go_wp2_with fail
    refine (M.out _ h1).mono ?_; rintro e w1 ⟨rfl, k1⟩; have oc := ((((Own.new (w := w) rfl [I x1, I x2, I x3, I x4, I x5, I x6, .slice a xs.length cap] 64).alloc (.cells #[I d1, I d2] 46)).alloc (.cells #[I 0, I 0, I 0, I 0, I 0, I 0, .slice none 0 0] 64)).below k1); have oz := ((Own.new (w := (w.alloc (.cells #[I x1, I x2, I x3, I x4, I x5, I x6, .slice a xs.length cap] 64)).alloc (.cells #[I d1, I d2] 46)) (g := w.heap.size + 2) (by simp) [I 0, I 0, I 0, I 0, I 0, I 0, .slice none 0 0] 64).below k1); have cO := oc; have cf0 := cO.f 0; have cf1 := cO.f 1; have cf2 := cO.f 2; have cf3 := cO.f 3; have cf4 := cO.f 4; have cf5 := cO.f 5; have cf6 := cO.f 6; have c0 := cO.c0; have c1 := cO.c1; have c2 := cO.c2; have c3 := cO.c3; have c4 := cO.c4; have c5 := cO.c5; have c6 := cO.c6; clear cO; have pO := ((Own.new (g := w.heap.size + 1) (by simp) [I d1, I d2] 46).alloc _).below k1; have pfA := pO.f; have p0 := pO.c0; have p1 := pO.c1; clear pO; have zO := oz; have zA := zO.s7; clear zO; have k := hb.trans (k1.mono hb.size); have hzw : w.heap.size + 3 ≤ w1.heap.size := by have := k1.size; simp at this; omega
    clear k1 hb h1; have r1 := set_same; have r2 := set_off; have r3 := set_blk
    go_wp2_with (go_at_call 110; refine (awithin_any _ _ _ _).mono ?_; rintro e w' ⟨rfl, rfl⟩)
    exact bodyPost_ret (v := T2 (.agg #[I 0, I 0, I 0, I 0, I 0, I 0, .slice none 0 0]) (I 5)) (by simp [results, Tryz.results125, go_sem, *]; try omega) rfl (⟨_, rfl, Sl.nil _ _, below_autor, FarB.nil _ _ _⟩)
  · have h8 := accMay_len c0
    cases c1 : inB d1 1 1000000000
    · obtain ⟨q1, q2, q3⟩ := owe_err (x := ⟨x1, x2, x3, x4, x5, x6⟩) (xs := xs) (d := ⟨d1, d2⟩) 2 (by simp [oweE, c0, c1]) (by decide)
      rw [q1, q2, q3]; clear q1 q2 q3; rw [c0] at M; clear c0 h h8; go_enter Tryz.func125, Tryz.ntmps125
      go_wp2_with fail
      refine (M.out _ h1).mono ?_; rintro e w1 ⟨rfl, k1⟩; have oc := ((((Own.new (w := w) rfl [I x1, I x2, I x3, I x4, I x5, I x6, .slice a xs.length cap] 64).alloc (.cells #[I d1, I d2] 46)).alloc (.cells #[I 0, I 0, I 0, I 0, I 0, I 0, .slice none 0 0] 64)).below k1); have oz := ((Own.new (w := (w.alloc (.cells #[I x1, I x2, I x3, I x4, I x5, I x6, .slice a xs.length cap] 64)).alloc (.cells #[I d1, I d2] 46)) (g := w.heap.size + 2) (by simp) [I 0, I 0, I 0, I 0, I 0, I 0, .slice none 0 0] 64).below k1); have cO := oc; have cf0 := cO.f 0; have cf1 := cO.f 1; have cf2 := cO.f 2; have cf3 := cO.f 3; have cf4 := cO.f 4; have cf5 := cO.f 5; have cf6 := cO.f 6; have c0 := cO.c0; have c1 := cO.c1; have c2 := cO.c2; have c3 := cO.c3; have c4 := cO.c4; have c5 := cO.c5; have c6 := cO.c6; clear cO; have pO := ((Own.new (g := w.heap.size + 1) (by simp) [I d1, I d2] 46).alloc _).below k1; have pfA := pO.f; have p0 := pO.c0; have p1 := pO.c1; clear pO; have zO := oz; have zA := zO.s7; clear zO; have k := hb.trans (k1.mono hb.size); have hzw : w.heap.size + 3 ≤ w1.heap.size := by have := k1.size; simp at this; omega
      clear k1 hb h1; have r1 := set_same; have r2 := set_off; have r3 := set_blk
      go_wp2_with (go_at_call 110; refine (awithin_any _ _ _ _).mono ?_; rintro e w' ⟨rfl, rfl⟩)
      exact bodyPost_ret (v := T2 (.agg #[I 0, I 0, I 0, I 0, I 0, I 0, .slice none 0 0]) (I 2)) (by simp [results, Tryz.results125, go_sem, *]; try omega) rfl (⟨_, rfl, Sl.nil _ _, below_autor, FarB.nil _ _ _⟩)
    cases c2 : inB d2 0 10000
    · obtain ⟨q1, q2, q3⟩ := owe_err (x := ⟨x1, x2, x3, x4, x5, x6⟩) (xs := xs) (d := ⟨d1, d2⟩) 2 (by simp [oweE, c0, c1, c2]) (by decide)
      rw [q1, q2, q3]; clear q1 q2 q3; rw [c0] at M; clear c0 h h8; go_enter Tryz.func125, Tryz.ntmps125
      go_wp2_with fail
      refine (M.out _ h1).mono ?_; rintro e w1 ⟨rfl, k1⟩; have oc := ((((Own.new (w := w) rfl [I x1, I x2, I x3, I x4, I x5, I x6, .slice a xs.length cap] 64).alloc (.cells #[I d1, I d2] 46)).alloc (.cells #[I 0, I 0, I 0, I 0, I 0, I 0, .slice none 0 0] 64)).below k1); have oz := ((Own.new (w := (w.alloc (.cells #[I x1, I x2, I x3, I x4, I x5, I x6, .slice a xs.length cap] 64)).alloc (.cells #[I d1, I d2] 46)) (g := w.heap.size + 2) (by simp) [I 0, I 0, I 0, I 0, I 0, I 0, .slice none 0 0] 64).below k1); have cO := oc; have cf0 := cO.f 0; have cf1 := cO.f 1; have cf2 := cO.f 2; have cf3 := cO.f 3; have cf4 := cO.f 4; have cf5 := cO.f 5; have cf6 := cO.f 6; have c0 := cO.c0; have c1 := cO.c1; have c2 := cO.c2; have c3 := cO.c3; have c4 := cO.c4; have c5 := cO.c5; have c6 := cO.c6; clear cO; have pO := ((Own.new (g := w.heap.size + 1) (by simp) [I d1, I d2] 46).alloc _).below k1; have pfA := pO.f; have p0 := pO.c0; have p1 := pO.c1; clear pO; have zO := oz; have zA := zO.s7; clear zO; have k := hb.trans (k1.mono hb.size); have hzw : w.heap.size + 3 ≤ w1.heap.size := by have := k1.size; simp at this; omega
      clear k1 hb h1; have r1 := set_same; have r2 := set_off; have r3 := set_blk
      go_wp2_with (go_at_call 110; refine (awithin_any _ _ _ _).mono ?_; rintro e w' ⟨rfl, rfl⟩)
      exact bodyPost_ret (v := T2 (.agg #[I 0, I 0, I 0, I 0, I 0, I 0, .slice none 0 0]) (I 2)) (by simp [results, Tryz.results125, go_sem, *]; try omega) rfl (⟨_, rfl, Sl.nil _ _, below_autor, FarB.nil _ _ _⟩)
    by_cases c3 : xs.length = 8
    · obtain ⟨q1, q2, q3⟩ := owe_err (x := ⟨x1, x2, x3, x4, x5, x6⟩) (xs := xs) (d := ⟨d1, d2⟩) 16 (by simp [oweE, c0, c1, c2, c3]) (by decide)
      rw [q1, q2, q3]; clear q1 q2 q3; have c3b : ((xs.length : Int) == 8) = true := by rw [c3]; rfl
      rw [c0] at M; clear c0 h h8 c3; go_enter Tryz.func125, Tryz.ntmps125
      go_wp2_with fail
      refine (M.out _ h1).mono ?_; rintro e w1 ⟨rfl, k1⟩; have oc := ((((Own.new (w := w) rfl [I x1, I x2, I x3, I x4, I x5, I x6, .slice a xs.length cap] 64).alloc (.cells #[I d1, I d2] 46)).alloc (.cells #[I 0, I 0, I 0, I 0, I 0, I 0, .slice none 0 0] 64)).below k1); have oz := ((Own.new (w := (w.alloc (.cells #[I x1, I x2, I x3, I x4, I x5, I x6, .slice a xs.length cap] 64)).alloc (.cells #[I d1, I d2] 46)) (g := w.heap.size + 2) (by simp) [I 0, I 0, I 0, I 0, I 0, I 0, .slice none 0 0] 64).below k1); have cO := oc; have cf0 := cO.f 0; have cf1 := cO.f 1; have cf2 := cO.f 2; have cf3 := cO.f 3; have cf4 := cO.f 4; have cf5 := cO.f 5; have cf6 := cO.f 6; have c0 := cO.c0; have c1 := cO.c1; have c2 := cO.c2; have c3 := cO.c3; have c4 := cO.c4; have c5 := cO.c5; have c6 := cO.c6; clear cO; have pO := ((Own.new (g := w.heap.size + 1) (by simp) [I d1, I d2] 46).alloc _).below k1; have pfA := pO.f; have p0 := pO.c0; have p1 := pO.c1; clear pO; have zO := oz; have zA := zO.s7; clear zO; have k := hb.trans (k1.mono hb.size); have hzw : w.heap.size + 3 ≤ w1.heap.size := by have := k1.size; simp at this; omega
      clear k1 hb h1; have r1 := set_same; have r2 := set_off; have r3 := set_blk
      go_wp2_with (go_at_call 110; refine (awithin_any _ _ _ _).mono ?_; rintro e w' ⟨rfl, rfl⟩)
      exact bodyPost_ret (v := T2 (.agg #[I 0, I 0, I 0, I 0, I 0, I 0, .slice none 0 0]) (I 16)) (by simp [results, Tryz.results125, go_sem, *]; try omega) rfl (⟨_, rfl, Sl.nil _ _, below_autor, FarB.nil _ _ _⟩)
    · obtain ⟨q1, q2, q3⟩ := owe_ok (x := ⟨x1, x2, x3, x4, x5, x6⟩) (xs := xs) (d := ⟨d1, d2⟩) (by simp [oweE, c0, c1, c2, c3])
      rw [q1, q2, q3]; clear q1 q2 q3; have c3b : ((xs.length : Int) == 8) = false := by rw [← Bool.not_eq_true, beq_iff_eq]; omega
      rw [c0] at M; clear c0 c3
      by_cases he : xs = []
      · subst he
        cases a
        all_goals
          go_enter Tryz.func125, Tryz.ntmps125
          go_wp2_with fail
          refine (M.out _ h1).mono ?_; rintro e w1 ⟨rfl, k1⟩; have oc := ((((Own.new (w := w) rfl [I x1, I x2, I x3, I x4, I x5, I x6, .slice _ ([] : List ADebt).length cap] 64).alloc (.cells #[I d1, I d2] 46)).alloc (.cells #[I 0, I 0, I 0, I 0, I 0, I 0, .slice none 0 0] 64)).below k1); have oz := ((Own.new (w := (w.alloc (.cells #[I x1, I x2, I x3, I x4, I x5, I x6, .slice _ ([] : List ADebt).length cap] 64)).alloc (.cells #[I d1, I d2] 46)) (g := w.heap.size + 2) (by simp) [I 0, I 0, I 0, I 0, I 0, I 0, .slice none 0 0] 64).below k1); have cO := oc; have cf0 := cO.f 0; have cf1 := cO.f 1; have cf2 := cO.f 2; have cf3 := cO.f 3; have cf4 := cO.f 4; have cf5 := cO.f 5; have cf6 := cO.f 6; have c0 := cO.c0; have c1 := cO.c1; have c2 := cO.c2; have c3 := cO.c3; have c4 := cO.c4; have c5 := cO.c5; have c6 := cO.c6; clear cO; have pO := ((Own.new (g := w.heap.size + 1) (by simp) [I d1, I d2] 46).alloc _).below k1; have pfA := pO.f; have p0 := pO.c0; have p1 := pO.c1; clear pO; have zO := oz; have zA := zO.s7; clear zO; have k := hb.trans (k1.mono hb.size); have hzw : w.heap.size + 3 ≤ w1.heap.size := by have := k1.size; simp at this; omega
          clear k1 hb h1; have r1 := set_same; have r2 := set_off; have r3 := set_blk
          go_wp2_with (first | (go_at_call 110; refine (awithin_any _ _ _ _).mono ?_; rintro e w' ⟨rfl, rfl⟩))
          have n1 : ¬ w.heap.size = w1.heap.size := by omega
          have n2 : ¬ w.heap.size + 1 = w1.heap.size := by omega
          have a6 := ((boxed_below w1 (.cells #[I d1, I d2] 46)).cell (p := ⟨w.heap.size, 6, none⟩) (by show w.heap.size < w1.heap.size; omega)).trans c6
          go_region_law
            (first
              | (refine step_append_lies _ (by rfl) _ _ _ (by rfl) w1.heap.size 46 i0 (.agg #[.int .i64 0, .int .i64 0]) 2 16 Tryz.underlying62 hi hz0 hz1 hz2 rfl (by decide) (.slice none 0 0) 0 [] (by rfl) (World.ownsRow_nil _ _ _ _) ⟨w1.heap.size, 0, none⟩ 1 1 [I d1, I d2] (by rfl) (by rfl) (news_lit _ _ _) (oneCells_lit rfl) (by omega) (by unfold maxLen; omega) (by omega) (by first | omega | (simp; done) | (simp; omega)) _ rfl ?_; intro g2 cap2 w3 hown2 hgrow2 hat2 hlt2
                 have hg2a : w1.heap.size ≤ g2 := by rcases hat2 with h | h <;> first | (cases h; done) | (cases h; omega) | omega | (rw [h]; simp; done) | (rw [h]; simp; omega)
                 have hg2 := Lib.hid (show w.heap.size ≤ g2 by omega); have hbB : Below w1.heap.size w1 w3 := Below.grown (B := w1.heap.size) below_autor hgrow2 (by first | omega | (simp; done) | (simp; omega)) (fun j hj => by cases hj); have hzB := hbB.size; have s6 := (hbB.cell (p := ⟨w.heap.size, 6, none⟩) (by first | omega | (simp; done) | (simp; omega))).trans c6; have sf6 := (hbB.frozen (p := ⟨w.heap.size, 6, none⟩) (by first | omega | (simp; done) | (simp; omega))).trans cf6)
              | fail)
          all_goals
            have eO := oc.below hbB; have efA := eO.f; have e0 := eO.c0; have e1 := eO.c1; have e2 := eO.c2; have e3 := eO.c3; have e4 := eO.c4; have e5 := eO.c5; have e6 := eO.c6; clear eO; have fO := oz.below hbB; have fA := fO.s7; clear fO; have HS : Hid (w3.ownsRow w1.heap.size 46 2 (.slice (some ⟨g2, 0, none⟩) (0 + 1) cap2) (0 + 1) (([(⟨d1, d2⟩ : ADebt)]).flatMap ADebt.cells)) := hown2; have kB := k.trans (hbB.mono k.size); clear s6 hown2 hbB c0 c1 c2 c3 c4 c5 c6 zA oc oz k p0 p1 pfA; go_wp2; exact bodyPost_ret (v := T2 (.agg #[I x1, I x2, I x3, I x4, I x5, I x6, .slice (some ⟨g2, 0, none⟩) (0 + 1) cap2]) (I 0)) (by simp [results, Tryz.results125, go_sem, *]; try omega) rfl (⟨_, rfl, Sl.of_owns' (base := w1.heap.size) (e := 46) (n' := 0 + 1) (by repeat (first | with_reducible exact HS.out | refine owns_set ?_ (by omega) _)) (by simp) (by simp), below_autor, FarB.lit hg2.out⟩)
      · have hpos : 0 < xs.length := List.length_pos_iff.2 he
        have hS0 := h; obtain ⟨a', cap', hv, hn, hl, h0, hr⟩ := h; injection hv with e1 e2 e3
        subst e1 e3; clear e2; obtain ⟨b, off, rfl, hbl, hcl⟩ := hr.resolve_left (by omega); have hone := debts_one xs; have Hl := Lib.hid hl; have Hone := Lib.hid hone; have hlen : xs.length ≤ 281474976710656 := by omega
        clear h0 hl hcl hone; go_enter Tryz.func125, Tryz.ntmps125
        go_wp2_with fail
        refine (M.out _ h1).mono ?_; rintro e w1 ⟨rfl, k1⟩; have oc := ((((Own.new (w := w) rfl [I x1, I x2, I x3, I x4, I x5, I x6, .slice (some ⟨b, off, none⟩) xs.length cap] 64).alloc (.cells #[I d1, I d2] 46)).alloc (.cells #[I 0, I 0, I 0, I 0, I 0, I 0, .slice none 0 0] 64)).below k1); have oz := ((Own.new (w := (w.alloc (.cells #[I x1, I x2, I x3, I x4, I x5, I x6, .slice (some ⟨b, off, none⟩) xs.length cap] 64)).alloc (.cells #[I d1, I d2] 46)) (g := w.heap.size + 2) (by simp) [I 0, I 0, I 0, I 0, I 0, I 0, .slice none 0 0] 64).below k1); have cO := oc; have cf0 := cO.f 0; have cf1 := cO.f 1; have cf2 := cO.f 2; have cf3 := cO.f 3; have cf4 := cO.f 4; have cf5 := cO.f 5; have cf6 := cO.f 6; have c0 := cO.c0; have c1 := cO.c1; have c2 := cO.c2; have c3 := cO.c3; have c4 := cO.c4; have c5 := cO.c5; have c6 := cO.c6; clear cO; have pO := ((Own.new (g := w.heap.size + 1) (by simp) [I d1, I d2] 46).alloc _).below k1; have pfA := pO.f; have p0 := pO.c0; have p1 := pO.c1; clear pO; have zO := oz; have zA := zO.s7; clear zO; have k := hb.trans (k1.mono hb.size); have hzw : w.heap.size + 3 ≤ w1.heap.size := by have := k1.size; simp at this; omega
        clear k1 hb h1; have r1 := set_same; have r2 := set_off; have r3 := set_blk
        go_wp2_with (first | (go_at_call 110; refine (awithin_any _ _ _ _).mono ?_; rintro e w' ⟨rfl, rfl⟩))
        have HS0 := Lib.hid hS0; clear hS0; have n1 : ¬ w.heap.size = w1.heap.size := by omega
        have n2 : ¬ w.heap.size + 1 = w1.heap.size := by omega
        have a6 := ((boxed_below w1 (.cells #[I d1, I d2] 46)).cell (p := ⟨w.heap.size, 6, none⟩) (by show w.heap.size < w1.heap.size; omega)).trans c6
        go_region_law
          (first
            | (refine step_append_lies _ (by rfl) _ _ _ (by rfl) w1.heap.size 46 i0 (.agg #[.int .i64 0, .int .i64 0]) 2 16 Tryz.underlying62 hi hz0 hz1 hz2 rfl (by decide) (.slice none 0 0) 0 [] (by rfl) (World.ownsRow_nil _ _ _ _) ⟨b, off, none⟩ xs.length cap (xs.flatMap ADebt.cells) (by rfl) Hl.out (Sl.news (HS0.out.below below_autor)) Hone.out hpos (by unfold maxLen; omega) (by omega) (by first | omega | (simp; done) | (simp; omega)) _ rfl ?_; intro g1 cap1 w2 hown1 hgrow1 hat1 hlt1
               rw [Nat.zero_add, List.nil_append] at hown1; have hbW := Below.grown (Below.refl _ _) hgrow1 (Nat.le_refl _) (fun j hj => by cases hj); have hbA : Below w1.heap.size w1 w2 := Below.grown (B := w1.heap.size) below_autor hgrow1 (by simp) (fun j hj => by cases hj); have hg1 : w1.heap.size ≤ g1 := by rcases hat1 with h | h; (cases h); (rw [h]; simp)
               have hzA := hbA.size; have s6 := (hbA.cell (p := ⟨w.heap.size, 6, none⟩) (by first | omega | (simp; done) | (simp; omega))).trans c6; have s7 := (hbA.cell (p := ⟨w.heap.size + 1, 0, none⟩) (by first | omega | (simp; done) | (simp; omega))).trans p0; have s8 := (hbA.cell (p := ⟨w.heap.size + 1, 1, none⟩) (by first | omega | (simp; done) | (simp; omega))).trans p1; have m1 : ¬ w.heap.size = w2.heap.size := by omega
               have m2 : ¬ w.heap.size + 1 = w2.heap.size := by omega
               clear hat1 hgrow1)
            | (first
                | (refine step_append_lies _ (by rfl) _ _ _ (by rfl) w1.heap.size 46 i0 (.agg #[.int .i64 0, .int .i64 0]) 2 16 Tryz.underlying62 hi hz0 hz1 hz2 rfl (by decide) (.slice (some ⟨g1, 0, none⟩) xs.length cap1) xs.length (xs.flatMap ADebt.cells) (by rfl) (hown1.alloc _) ⟨w2.heap.size, 0, none⟩ 1 1 [I d1, I d2] (by rfl) (by rfl) (news_lit _ _ _) (oneCells_lit rfl) (by omega) (by unfold maxLen; omega) (by omega) (by first | omega | (simp; done) | (simp; omega)) _ rfl ?_; intro g2 cap2 w3 hown2 hgrow2 hat2 hlt2)
                | (refine step_append_lies _ (by rfl) _ _ _ (by rfl) w1.heap.size 46 i0 (.agg #[.int .i64 0, .int .i64 0]) 2 16 Tryz.underlying62 hi hz0 hz1 hz2 rfl (by decide) (.slice (some ⟨g1, 0, none⟩) xs.length cap1) xs.length (xs.flatMap ADebt.cells) (by rfl) hown1 ⟨w1.heap.size, 0, none⟩ 1 1 [I d1, I d2] (by rfl) (by rfl) (news_own (Own.below (w := World.drew (w1.alloc (.cells #[I d1, I d2] 46))) (Own.new (w := w1) rfl [I d1, I d2] 46) hbW)) (oneCells_lit rfl) (by omega) (by unfold maxLen; omega) (by omega) (by first | omega | (simp; done) | (simp; omega)) _ rfl ?_; intro g2 cap2 w3 hown2 hgrow2 hat2 hlt2)
               have hg2a : w1.heap.size ≤ g2 := by rcases hat2 with h | h <;> first | (cases h; done) | (cases h; omega) | omega | (rw [h]; simp; done) | (rw [h]; simp; omega)
               have hg2 := Lib.hid (show w.heap.size ≤ g2 by omega); have hbB : Below w1.heap.size w1 w3 := Below.grown (B := w1.heap.size) below_autor hgrow2 (by first | omega | (simp; done) | (simp; omega)) (fun j hj => by cases hj; omega); have hzB := hbB.size; have s6 := (hbB.cell (p := ⟨w.heap.size, 6, none⟩) (by first | omega | (simp; done) | (simp; omega))).trans c6; have s7 := (hbB.cell (p := ⟨w.heap.size + 1, 0, none⟩) (by first | omega | (simp; done) | (simp; omega))).trans p0; have s8 := (hbB.cell (p := ⟨w.heap.size + 1, 1, none⟩) (by first | omega | (simp; done) | (simp; omega))).trans p1; have sf6 := (hbB.frozen (p := ⟨w.heap.size, 6, none⟩) (by first | omega | (simp; done) | (simp; omega))).trans cf6; clear hat2 hgrow2))
        all_goals
          have eO := oc.below hbB; have efA := eO.f; have e0 := eO.c0; have e1 := eO.c1; have e2 := eO.c2; have e3 := eO.c3; have e4 := eO.c4; have e5 := eO.c5; have e6 := eO.c6; clear eO; have fO := oz.below hbB; have fA := fO.s7; clear fO
          have HS : Hid (w3.ownsRow w1.heap.size 46 2 (.slice (some ⟨g2, 0, none⟩) (xs.length + 1) cap2) (xs.length + 1) ((xs ++ [(⟨d1, d2⟩ : ADebt)]).flatMap ADebt.cells)) := by
            rw [List.flatMap_append]; exact hown2
          have kB := k.trans (hbB.mono k.size); have hl1 : xs.length + 1 ≤ 281474976710656 := by omega
          clear hown1 hown2 hbW hbA hbB c0 c1 c2 c3 c4 c5 c6 zA oc oz k p0 p1 pfA s6 s7 s8; go_wp2; exact bodyPost_ret (v := T2 (.agg #[I x1, I x2, I x3, I x4, I x5, I x6, .slice (some ⟨g2, 0, none⟩) (xs.length + 1) cap2]) (I 0)) (by simp [results, Tryz.results125, go_sem, *]; try omega) rfl (⟨_, rfl, Sl.of_owns' (base := w1.heap.size) (e := 46) (n' := xs.length + 1) (by repeat (first | with_reducible exact HS.out | refine owns_set ?_ (by omega) _)) (by simp) (by simpa using hl1), below_autor, FarB.lit hg2.out⟩)
end Go.Proofs.YtdjgcenjonegjaaGreat
