/- terms: what is wrong with them; a copy; two held against each other -/
import Derived.Test.YtenoigmkhlnfoaaAcct
import Derived.Test.YtenoigmkhlnfoaaOwn
import Derived.Test.YtenoigmkhlnfoaaTariffCheck
import Derived.Test.YtenoigmkhlnfoaaSameStep
import Derived.Test.YtenoigmkhlnfoaaCopySteps
namespace Go.Proofs.Ytenoigmkhlnfoaa
set_option linter.unusedSimpArgs false
set_option linter.unusedVariables false
open Go.RowKit
set_option maxRecDepth 20000

def termsOk (f b d al : Int) : Bool := inB f 0 100000 && inB b 0 10000 && inB d 0 10000 && inB al 0 2097151
def termsE (xs : List AStep) (f b d al : Int) : Int := if tariffE xs = 0 then (if termsOk f b d al then 0 else 2) else tariffE xs
set_option maxHeartbeats 4000000 in
theorem CheckTerms_any (v : Value) (xs : List AStep) (f b d al : Int) (w : World) (h : Sl w v 2 xs.length (xs.flatMap AStep.cells)) : Calls Try.prog 27 #[.agg #[v, I f, I b, I d, I al]] w (Grew (I (termsE xs f b d al)) w) := by
  have T := Lib.hid (fun W hW => CheckT_any v xs W hW)
  have hS := h
  obtain ⟨a, cap, rfl, -⟩ := h
  by_cases hT : tariffE xs = 0
  · rw [hT] at T
    cases p1 : inB f 0 100000
    · rw [show termsE xs f b d al = 2 by simp [termsE, termsOk, hT, p1]]
      go_enter Try.func27, Try.ntmps27
      go_wp2_with fail
      refine (T.out _ (hS.below (boxed_below w (.cells #[.slice a xs.length cap, I f, I b, I d, I al] 24)))).mono ?_
      rintro e w1 ⟨rfl, k1⟩
      have cO := (Own.new (w := w) rfl [.slice a xs.length cap, I f, I b, I d, I al] 24).below k1
      have c0 := cO.c 0; have cf0 := cO.f 0; have c1 := cO.c 1; have cf1 := cO.f 1; have c2 := cO.c 2; have cf2 := cO.f 2; have c3 := cO.c 3; have cf3 := cO.f 3; have c4 := cO.c 4; have cf4 := cO.f 4
      (try simp only [List.getD_cons_zero, List.getD_cons_succ] at c0 c1 c2 c3 c4)
      clear cO
      have k := below_box k1
      clear k1
      go_wp2_with (go_at_call 58; refine (awithin_any _ _ _ _).mono ?_; rintro e w' ⟨rfl, rfl⟩)
      go_ret
      exact Grew.intro rfl below_auto
    · cases p2 : inB b 0 10000
      · rw [show termsE xs f b d al = 2 by simp [termsE, termsOk, hT, p2]]
        go_enter Try.func27, Try.ntmps27
        go_wp2_with fail
        refine (T.out _ (hS.below (boxed_below w (.cells #[.slice a xs.length cap, I f, I b, I d, I al] 24)))).mono ?_
        rintro e w1 ⟨rfl, k1⟩
        have cO := (Own.new (w := w) rfl [.slice a xs.length cap, I f, I b, I d, I al] 24).below k1
        have c0 := cO.c 0; have cf0 := cO.f 0; have c1 := cO.c 1; have cf1 := cO.f 1; have c2 := cO.c 2; have cf2 := cO.f 2; have c3 := cO.c 3; have cf3 := cO.f 3; have c4 := cO.c 4; have cf4 := cO.f 4
        (try simp only [List.getD_cons_zero, List.getD_cons_succ] at c0 c1 c2 c3 c4)
        clear cO
        have k := below_box k1
        clear k1
        go_wp2_with (go_at_call 58; refine (awithin_any _ _ _ _).mono ?_; rintro e w' ⟨rfl, rfl⟩)
        go_ret
        exact Grew.intro rfl below_auto
      · cases p3 : inB d 0 10000
        · rw [show termsE xs f b d al = 2 by simp [termsE, termsOk, hT, p3]]
          go_enter Try.func27, Try.ntmps27
          go_wp2_with fail
          refine (T.out _ (hS.below (boxed_below w (.cells #[.slice a xs.length cap, I f, I b, I d, I al] 24)))).mono ?_
          rintro e w1 ⟨rfl, k1⟩
          have cO := (Own.new (w := w) rfl [.slice a xs.length cap, I f, I b, I d, I al] 24).below k1
          have c0 := cO.c 0; have cf0 := cO.f 0; have c1 := cO.c 1; have cf1 := cO.f 1; have c2 := cO.c 2; have cf2 := cO.f 2; have c3 := cO.c 3; have cf3 := cO.f 3; have c4 := cO.c 4; have cf4 := cO.f 4
          (try simp only [List.getD_cons_zero, List.getD_cons_succ] at c0 c1 c2 c3 c4)
          clear cO
          have k := below_box k1
          clear k1
          go_wp2_with (go_at_call 58; refine (awithin_any _ _ _ _).mono ?_; rintro e w' ⟨rfl, rfl⟩)
          go_ret
          exact Grew.intro rfl below_auto
        · cases p4 : inB al 0 2097151
          · rw [show termsE xs f b d al = 2 by simp [termsE, termsOk, hT, p4]]
            go_enter Try.func27, Try.ntmps27
            go_wp2_with fail
            refine (T.out _ (hS.below (boxed_below w (.cells #[.slice a xs.length cap, I f, I b, I d, I al] 24)))).mono ?_
            rintro e w1 ⟨rfl, k1⟩
            have cO := (Own.new (w := w) rfl [.slice a xs.length cap, I f, I b, I d, I al] 24).below k1
            have c0 := cO.c 0; have cf0 := cO.f 0; have c1 := cO.c 1; have cf1 := cO.f 1; have c2 := cO.c 2; have cf2 := cO.f 2; have c3 := cO.c 3; have cf3 := cO.f 3; have c4 := cO.c 4; have cf4 := cO.f 4
            (try simp only [List.getD_cons_zero, List.getD_cons_succ] at c0 c1 c2 c3 c4)
            clear cO
            have k := below_box k1
            clear k1
            go_wp2_with (go_at_call 58; refine (awithin_any _ _ _ _).mono ?_; rintro e w' ⟨rfl, rfl⟩)
            go_ret
            exact Grew.intro rfl below_auto
          · rw [show termsE xs f b d al = 0 by simp [termsE, termsOk, hT, p1, p2, p3, p4]]
            go_enter Try.func27, Try.ntmps27
            go_wp2_with fail
            refine (T.out _ (hS.below (boxed_below w (.cells #[.slice a xs.length cap, I f, I b, I d, I al] 24)))).mono ?_
            rintro e w1 ⟨rfl, k1⟩
            have cO := (Own.new (w := w) rfl [.slice a xs.length cap, I f, I b, I d, I al] 24).below k1
            have c0 := cO.c 0; have cf0 := cO.f 0; have c1 := cO.c 1; have cf1 := cO.f 1; have c2 := cO.c 2; have cf2 := cO.f 2; have c3 := cO.c 3; have cf3 := cO.f 3; have c4 := cO.c 4; have cf4 := cO.f 4
            (try simp only [List.getD_cons_zero, List.getD_cons_succ] at c0 c1 c2 c3 c4)
            clear cO
            have k := below_box k1
            clear k1
            go_wp2_with (go_at_call 58; refine (awithin_any _ _ _ _).mono ?_; rintro e w' ⟨rfl, rfl⟩)
            go_ret
            exact Grew.intro rfl below_auto
  · rw [show termsE xs f b d al = tariffE xs by simp [termsE, hT]]
    generalize tariffE xs = r at *
    go_enter Try.func27, Try.ntmps27
    go_wp2_with fail
    refine (T.out _ (hS.below (boxed_below w (.cells #[.slice a xs.length cap, I f, I b, I d, I al] 24)))).mono ?_
    rintro e w1 ⟨rfl, k1⟩
    have cO := (Own.new (w := w) rfl [.slice a xs.length cap, I f, I b, I d, I al] 24).below k1
    have c0 := cO.c 0; have cf0 := cO.f 0; have c1 := cO.c 1; have cf1 := cO.f 1; have c2 := cO.c 2; have cf2 := cO.f 2; have c3 := cO.c 3; have cf3 := cO.f 3; have c4 := cO.c 4; have cf4 := cO.f 4
    (try simp only [List.getD_cons_zero, List.getD_cons_succ] at c0 c1 c2 c3 c4)
    clear cO
    have k := below_box k1
    clear k1
    go_wp2_with (go_at_call 58; refine (awithin_any _ _ _ _).mono ?_; rintro e w' ⟨rfl, rfl⟩)
    go_ret
    exact Grew.intro rfl below_auto
set_option maxHeartbeats 4000000 in
theorem TermsFault_any (v : Value) (xs : List AStep) (f b d al : Int) (w : World) (h : Sl w v 2 xs.length (xs.flatMap AStep.cells)) : Calls Try.prog 32 #[.agg #[v, I f, I b, I d, I al]] w (Grew (I (termsE xs f b d al)) w) := by
  have T := Lib.hid (fun W hW => TariffFault_any v xs W hW)
  have hS := h
  obtain ⟨a, cap, rfl, -⟩ := h
  by_cases hT : tariffE xs = 0
  · rw [hT] at T
    cases p1 : inB f 0 100000
    · rw [show termsE xs f b d al = 2 by simp [termsE, termsOk, hT, p1]]
      go_enter Try.func32, Try.ntmps32
      go_wp2_with fail
      refine (T.out _ (hS.below (boxed_below w (.cells #[.slice a xs.length cap, I f, I b, I d, I al] 24)))).mono ?_
      rintro e w1 ⟨rfl, k1⟩
      have cO := (Own.new (w := w) rfl [.slice a xs.length cap, I f, I b, I d, I al] 24).below k1
      have c0 := cO.c 0; have cf0 := cO.f 0; have c1 := cO.c 1; have cf1 := cO.f 1; have c2 := cO.c 2; have cf2 := cO.f 2; have c3 := cO.c 3; have cf3 := cO.f 3; have c4 := cO.c 4; have cf4 := cO.f 4
      (try simp only [List.getD_cons_zero, List.getD_cons_succ] at c0 c1 c2 c3 c4)
      clear cO
      have k := below_box k1
      clear k1
      go_wp2_with (go_at_call 43; refine (In_any _ _ _ _).mono ?_; rintro e w' ⟨rfl, rfl⟩)
      go_ret
      exact Grew.intro rfl below_auto
    · cases p2 : inB b 0 10000
      · rw [show termsE xs f b d al = 2 by simp [termsE, termsOk, hT, p2]]
        go_enter Try.func32, Try.ntmps32
        go_wp2_with fail
        refine (T.out _ (hS.below (boxed_below w (.cells #[.slice a xs.length cap, I f, I b, I d, I al] 24)))).mono ?_
        rintro e w1 ⟨rfl, k1⟩
        have cO := (Own.new (w := w) rfl [.slice a xs.length cap, I f, I b, I d, I al] 24).below k1
        have c0 := cO.c 0; have cf0 := cO.f 0; have c1 := cO.c 1; have cf1 := cO.f 1; have c2 := cO.c 2; have cf2 := cO.f 2; have c3 := cO.c 3; have cf3 := cO.f 3; have c4 := cO.c 4; have cf4 := cO.f 4
        (try simp only [List.getD_cons_zero, List.getD_cons_succ] at c0 c1 c2 c3 c4)
        clear cO
        have k := below_box k1
        clear k1
        go_wp2_with (go_at_call 43; refine (In_any _ _ _ _).mono ?_; rintro e w' ⟨rfl, rfl⟩)
        go_ret
        exact Grew.intro rfl below_auto
      · cases p3 : inB d 0 10000
        · rw [show termsE xs f b d al = 2 by simp [termsE, termsOk, hT, p3]]
          go_enter Try.func32, Try.ntmps32
          go_wp2_with fail
          refine (T.out _ (hS.below (boxed_below w (.cells #[.slice a xs.length cap, I f, I b, I d, I al] 24)))).mono ?_
          rintro e w1 ⟨rfl, k1⟩
          have cO := (Own.new (w := w) rfl [.slice a xs.length cap, I f, I b, I d, I al] 24).below k1
          have c0 := cO.c 0; have cf0 := cO.f 0; have c1 := cO.c 1; have cf1 := cO.f 1; have c2 := cO.c 2; have cf2 := cO.f 2; have c3 := cO.c 3; have cf3 := cO.f 3; have c4 := cO.c 4; have cf4 := cO.f 4
          (try simp only [List.getD_cons_zero, List.getD_cons_succ] at c0 c1 c2 c3 c4)
          clear cO
          have k := below_box k1
          clear k1
          go_wp2_with (go_at_call 43; refine (In_any _ _ _ _).mono ?_; rintro e w' ⟨rfl, rfl⟩)
          go_ret
          exact Grew.intro rfl below_auto
        · cases p4 : inB al 0 2097151
          · rw [show termsE xs f b d al = 2 by simp [termsE, termsOk, hT, p4]]
            go_enter Try.func32, Try.ntmps32
            go_wp2_with fail
            refine (T.out _ (hS.below (boxed_below w (.cells #[.slice a xs.length cap, I f, I b, I d, I al] 24)))).mono ?_
            rintro e w1 ⟨rfl, k1⟩
            have cO := (Own.new (w := w) rfl [.slice a xs.length cap, I f, I b, I d, I al] 24).below k1
            have c0 := cO.c 0; have cf0 := cO.f 0; have c1 := cO.c 1; have cf1 := cO.f 1; have c2 := cO.c 2; have cf2 := cO.f 2; have c3 := cO.c 3; have cf3 := cO.f 3; have c4 := cO.c 4; have cf4 := cO.f 4
            (try simp only [List.getD_cons_zero, List.getD_cons_succ] at c0 c1 c2 c3 c4)
            clear cO
            have k := below_box k1
            clear k1
            go_wp2_with (go_at_call 43; refine (In_any _ _ _ _).mono ?_; rintro e w' ⟨rfl, rfl⟩)
            go_ret
            exact Grew.intro rfl below_auto
          · rw [show termsE xs f b d al = 0 by simp [termsE, termsOk, hT, p1, p2, p3, p4]]
            go_enter Try.func32, Try.ntmps32
            go_wp2_with fail
            refine (T.out _ (hS.below (boxed_below w (.cells #[.slice a xs.length cap, I f, I b, I d, I al] 24)))).mono ?_
            rintro e w1 ⟨rfl, k1⟩
            have cO := (Own.new (w := w) rfl [.slice a xs.length cap, I f, I b, I d, I al] 24).below k1
            have c0 := cO.c 0; have cf0 := cO.f 0; have c1 := cO.c 1; have cf1 := cO.f 1; have c2 := cO.c 2; have cf2 := cO.f 2; have c3 := cO.c 3; have cf3 := cO.f 3; have c4 := cO.c 4; have cf4 := cO.f 4
            (try simp only [List.getD_cons_zero, List.getD_cons_succ] at c0 c1 c2 c3 c4)
            clear cO
            have k := below_box k1
            clear k1
            go_wp2_with (go_at_call 43; refine (In_any _ _ _ _).mono ?_; rintro e w' ⟨rfl, rfl⟩)
            go_ret
            exact Grew.intro rfl below_auto
  · rw [show termsE xs f b d al = tariffE xs by simp [termsE, hT]]
    generalize tariffE xs = r at *
    go_enter Try.func32, Try.ntmps32
    go_wp2_with fail
    refine (T.out _ (hS.below (boxed_below w (.cells #[.slice a xs.length cap, I f, I b, I d, I al] 24)))).mono ?_
    rintro e w1 ⟨rfl, k1⟩
    have cO := (Own.new (w := w) rfl [.slice a xs.length cap, I f, I b, I d, I al] 24).below k1
    have c0 := cO.c 0; have cf0 := cO.f 0; have c1 := cO.c 1; have cf1 := cO.f 1; have c2 := cO.c 2; have cf2 := cO.f 2; have c3 := cO.c 3; have cf3 := cO.f 3; have c4 := cO.c 4; have cf4 := cO.f 4
    (try simp only [List.getD_cons_zero, List.getD_cons_succ] at c0 c1 c2 c3 c4)
    clear cO
    have k := below_box k1
    clear k1
    go_wp2_with (go_at_call 43; refine (In_any _ _ _ _).mono ?_; rintro e w' ⟨rfl, rfl⟩)
    go_ret
    exact Grew.intro rfl below_auto
theorem steps_own (v : Value) (xs : List AStep) (w : World) (h : Sl w v 2 xs.length (xs.flatMap AStep.cells)) (hby : xs.length * 16 ≤ 140737488355328) :
    Calls Try.prog 31 #[v] w (GrewOw 137 2 xs.length (xs.flatMap AStep.cells) w) := by
  obtain ⟨i0, hi, hz0, hz1, hz2⟩ := info_parts info_steps
  have h' := h
  obtain ⟨a, cap, rfl, hn, hl, h0, h⟩ := h
  cases a with
  | none =>
    obtain ⟨hn0, rfl⟩ := h0 rfl
    obtain rfl : xs = [] := List.length_eq_zero_iff.1 hn0
    clear h h' h0 hl
    go_enter Try.func31, Try.ntmps31
    go_wp2_with fail
    go_ret
    exact ⟨_, rfl, World.ownsRow_nil _ _ _ _, Below.refl _ _⟩
  | some ad =>
    have hnews := Lib.hid h'.news
    have hone : oneCells (xs.flatMap AStep.cells) := oneCells_flat (fun x u hu => by simp only [AStep.cells, List.mem_cons, List.not_mem_nil, or_false] at hu; rcases hu with rfl | rfl <;> rfl) _
    clear h h' h0
    have Hl := Lib.hid hl
    clear hl
    have c3 : 0 + xs.length ≤ maxLen := by unfold maxLen; omega
    have c4 := Lib.hid (show (0 + xs.length) * 16 ≤ 140737488355328 by omega)
    clear hby
    go_enter Try.func31, Try.ntmps31
    go_wp2_with (at_builtin; refine wpList_append_own _ rfl _ _ 22 rfl w.heap.size 137 i0 (.agg #[.int .i64 0, .int .i64 0]) 2 16 Try.underlying22 hi hz0 hz1 hz2 rfl (by decide) _ 0 [] rfl (World.ownsRow_nil _ _ _ _) ad _ _ (xs.flatMap AStep.cells) rfl Hl.out hnews.out hone c3 c4.out (Nat.le_refl _) ?_; intro v' w1 hown' hgrow _)
    have hbel := Below.grown (B := w.heap.size) (Below.refl _ w) hgrow (Nat.le_refl _) (fun k hk => absurd (show (none : Option Nat) = some k from hk) (by simp))
    rw [Nat.zero_add, List.nil_append] at hown'
    clear hgrow
    go_wp2
    go_ret
    exact ⟨_, rfl, hown', hbel⟩

def GrewTerms (xs : List AStep) (f b d al : Int) (w : World) (e : Ending) (w' : World) : Prop := ∃ v, e = .returned (.agg #[v, I f, I b, I d, I al]) ∧ Sl w' v 2 xs.length (xs.flatMap AStep.cells) ∧ Below w.heap.size w w'
set_option maxHeartbeats 2000000 in
theorem terms_any (v : Value) (xs : List AStep) (f b d al : Int) (w : World) (h : Sl w v 2 xs.length (xs.flatMap AStep.cells)) (hby : xs.length * 16 ≤ 140737488355328) : Calls Try.prog 10 #[.agg #[v, I f, I b, I d, I al]] w (GrewTerms xs f b d al w) := by
  have hS := h
  obtain ⟨a, cap, rfl, -⟩ := h
  have k0 := boxed_below w (.cells #[.slice a xs.length cap, I f, I b, I d, I al] 24)
  have kB := k0.alloc k0.size (.cells #[.slice none 0 0, I 0, I 0, I 0, I 0] 24)
  have o1 := (Own.new (w := w) rfl [.slice a xs.length cap, I f, I b, I d, I al] 24).alloc (.cells #[.slice none 0 0, I 0, I 0, I 0, I 0] 24)
  have o2 := Own.new (w := w.alloc (.cells #[.slice a xs.length cap, I f, I b, I d, I al] 24)) (g := w.heap.size + 1) (by simp) [.slice none 0 0, I 0, I 0, I 0, I 0] 24
  have S := Lib.hid (steps_own _ xs _ (hS.below kB) hby)
  go_enter Try.func10, Try.ntmps10
  go_wp2_with fail
  refine S.out.mono ?_
  rintro e w1 ⟨v', rfl, h1, k1⟩
  have cO := o1.below k1
  have c0 := cO.c 0; have cf0 := cO.f 0; have c1 := cO.c 1; have cf1 := cO.f 1; have c2 := cO.c 2; have cf2 := cO.f 2; have c3 := cO.c 3; have cf3 := cO.f 3; have c4 := cO.c 4; have cf4 := cO.f 4
  (try simp only [List.getD_cons_zero, List.getD_cons_succ] at c0 c1 c2 c3 c4)
  clear cO
  have zO := o2.below k1
  have z0 := zO.c 0; have zf0 := zO.f 0; have z1 := zO.c 1; have zf1 := zO.f 1; have z2 := zO.c 2; have zf2 := zO.f 2; have z3 := zO.c 3; have zf3 := zO.f 3; have z4 := zO.c 4; have zf4 := zO.f 4
  (try simp only [List.getD_cons_zero, List.getD_cons_succ] at z0 z1 z2 z3 z4)
  clear zO
  have kk := kB.trans (k1.mono kB.size)
  have hn : xs.length ≤ 281474976710656 := by omega
  have H1 := Lib.hid (fun u0 u1 u2 u3 u4 u5 => Sl.of_owns (ownsRow_setCell_below (ownsRow_setCell_below (ownsRow_setCell_below (ownsRow_setCell_below (ownsRow_setCell_below (ownsRow_setCell_below h1 (a := ⟨w.heap.size, 0, none⟩) (by simp; omega) u0) (a := ⟨w.heap.size + 1, 0, none⟩) (by simp) u1) (a := ⟨w.heap.size + 1, 1, none⟩) (by simp) u2) (a := ⟨w.heap.size + 1, 2, none⟩) (by simp) u3) (a := ⟨w.heap.size + 1, 3, none⟩) (by simp) u4) (a := ⟨w.heap.size + 1, 4, none⟩) (by simp) u5) hn)
  obtain ⟨a', cap', rfl, -⟩ := Sl.of_owns h1 hn
  clear h1 o1 o2 k0 kB k1
  have r1 := set_same
  have r2 := set_off
  have r3 := set_blk
  go_wp2
  exact bodyPost_ret (v := .agg #[.slice a' xs.length cap', I f, I b, I d, I al]) (by simp [results, Try.results10, go_sem, *]; try omega) rfl (⟨_, rfl, H1.out _ _ _ _ _ _, below_autor⟩)
set_option maxHeartbeats 2000000 in
theorem sameTerms_any (v1 v2 : Value) (xs : List AStep) (f b d al : Int) (w : World) (h1 : Sl w v1 2 xs.length (xs.flatMap AStep.cells)) (h2 : Sl w v2 2 xs.length (xs.flatMap AStep.cells)) :
    Calls Try.prog 17 #[.agg #[v1, I f, I b, I d, I al], .agg #[v2, I f, I b, I d, I al]] w (Grew (.bool true) w) := by
  have S := Lib.hid (fun W g1 g2 => sameSteps_any v1 v2 xs xs W g1 g2)
  have hS1 := h1
  have hS2 := h2
  obtain ⟨a, cap, rfl, -⟩ := h1
  obtain ⟨a2, cap2, rfl, -⟩ := h2
  have k0 := boxed_below w (.cells #[.slice a xs.length cap, I f, I b, I d, I al] 24)
  have kB := k0.alloc k0.size (.cells #[.slice a2 xs.length cap2, I f, I b, I d, I al] 24)
  go_enter Try.func17, Try.ntmps17
  go_wp2_with fail
  refine (S.out _ (hS1.below kB) (hS2.below kB)).mono ?_
  rintro e w1 ⟨rfl, k1⟩
  have kk := kB.trans (k1.mono kB.size)
  clear kB k1 k0
  go_wp2
  go_ret
  exact Grew.intro (by simp) kk
end Go.Proofs.Ytenoigmkhlnfoaa
