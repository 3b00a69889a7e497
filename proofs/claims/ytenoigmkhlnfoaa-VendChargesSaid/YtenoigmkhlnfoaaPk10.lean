/- terms: what is wrong with them; a copy; two held against each other · debt.Age: the plain law (the walks are not begun) · ref.aged and ref.Aged -/
import Derived.Test.YtenoigmkhlnfoaaPk07
import Derived.Test.YtenoigmkhlnfoaaPk02
import Derived.Test.YtenoigmkhlnfoaaPk09
import Derived.Test.YtenoigmkhlnfoaaPk06
namespace Go.Proofs.Ytenoigmkhlnfoaa
set_option linter.unusedSimpArgs false
set_option linter.unusedVariables false
open Go.RowKit
set_option maxRecDepth 20000

def termsOk (f b d al : Int) : Bool := inB f 0 100000 && inB b 0 10000 && inB d 0 10000 && inB al 0 2097151
def termsE (xs : List AStep) (f b d al : Int) : Int := if tariffE xs = 0 then (if termsOk f b d al then 0 else 2) else tariffE xs
set_option maxHeartbeats 4000000 in
theorem CheckTerms_any (v : Value) (xs : List AStep) (f b d al : Int) (w : World) (h : Sl w v 2 xs.length (xs.flatMap AStep.cells)) : Calls Try.prog 27 #[.agg #[v, I f, I b, I d, I al]] w (Grew (I (termsE xs f b d al)) w) := by
  have T := Lib.hid (fun W hW => CheckT_any v xs W hW)
  have hS := h
  obtain ⟨a, cap, rfl, -⟩ := h
  by_cases hT : tariffE xs = 0
  · rw [hT] at T
    cases p1 : inB f 0 100000
    · rw [show termsE xs f b d al = 2 by simp [termsE, termsOk, hT, p1]]
      go_enter Try.func27, Try.ntmps27
      go_wp2_with fail
      refine (T.out _ (hS.below (boxed_below w (.cells #[.slice a xs.length cap, I f, I b, I d, I al] 24)))).mono ?_
      rintro e w1 ⟨rfl, k1⟩
      have cO := (Own.new (w := w) rfl [.slice a xs.length cap, I f, I b, I d, I al] 24).below k1
      have cfA := cO.f; have c0 := cO.c0; have c1 := cO.c1; have c2 := cO.c2; have c3 := cO.c3; have c4 := cO.c4
      clear cO
      have k := below_box k1
      clear k1
      go_wp2_with (go_at_call 58; refine (awithin_any _ _ _ _).mono ?_; rintro e w' ⟨rfl, rfl⟩)
      go_ret
      exact Grew.intro rfl below_auto
    · cases p2 : inB b 0 10000
      · rw [show termsE xs f b d al = 2 by simp [termsE, termsOk, hT, p2]]
        go_enter Try.func27, Try.ntmps27
        go_wp2_with fail
        refine (T.out _ (hS.below (boxed_below w (.cells #[.slice a xs.length cap, I f, I b, I d, I al] 24)))).mono ?_
        rintro e w1 ⟨rfl, k1⟩
        have cO := (Own.new (w := w) rfl [.slice a xs.length cap, I f, I b, I d, I al] 24).below k1
        have cfA := cO.f; have c0 := cO.c0; have c1 := cO.c1; have c2 := cO.c2; have c3 := cO.c3; have c4 := cO.c4
        clear cO
        have k := below_box k1
        clear k1
        go_wp2_with (go_at_call 58; refine (awithin_any _ _ _ _).mono ?_; rintro e w' ⟨rfl, rfl⟩)
        go_ret
        exact Grew.intro rfl below_auto
      · cases p3 : inB d 0 10000
        · rw [show termsE xs f b d al = 2 by simp [termsE, termsOk, hT, p3]]
          go_enter Try.func27, Try.ntmps27
          go_wp2_with fail
          refine (T.out _ (hS.below (boxed_below w (.cells #[.slice a xs.length cap, I f, I b, I d, I al] 24)))).mono ?_
          rintro e w1 ⟨rfl, k1⟩
          have cO := (Own.new (w := w) rfl [.slice a xs.length cap, I f, I b, I d, I al] 24).below k1
          have cfA := cO.f; have c0 := cO.c0; have c1 := cO.c1; have c2 := cO.c2; have c3 := cO.c3; have c4 := cO.c4
          clear cO
          have k := below_box k1
          clear k1
          go_wp2_with (go_at_call 58; refine (awithin_any _ _ _ _).mono ?_; rintro e w' ⟨rfl, rfl⟩)
          go_ret
          exact Grew.intro rfl below_auto
        · cases p4 : inB al 0 2097151
          · rw [show termsE xs f b d al = 2 by simp [termsE, termsOk, hT, p4]]
            go_enter Try.func27, Try.ntmps27
            go_wp2_with fail
            refine (T.out _ (hS.below (boxed_below w (.cells #[.slice a xs.length cap, I f, I b, I d, I al] 24)))).mono ?_
            rintro e w1 ⟨rfl, k1⟩
            have cO := (Own.new (w := w) rfl [.slice a xs.length cap, I f, I b, I d, I al] 24).below k1
            have cfA := cO.f; have c0 := cO.c0; have c1 := cO.c1; have c2 := cO.c2; have c3 := cO.c3; have c4 := cO.c4
            clear cO
            have k := below_box k1
            clear k1
            go_wp2_with (go_at_call 58; refine (awithin_any _ _ _ _).mono ?_; rintro e w' ⟨rfl, rfl⟩)
            go_ret
            exact Grew.intro rfl below_auto
          · rw [show termsE xs f b d al = 0 by simp [termsE, termsOk, hT, p1, p2, p3, p4]]
            go_enter Try.func27, Try.ntmps27
            go_wp2_with fail
            refine (T.out _ (hS.below (boxed_below w (.cells #[.slice a xs.length cap, I f, I b, I d, I al] 24)))).mono ?_
            rintro e w1 ⟨rfl, k1⟩
            have cO := (Own.new (w := w) rfl [.slice a xs.length cap, I f, I b, I d, I al] 24).below k1
            have cfA := cO.f; have c0 := cO.c0; have c1 := cO.c1; have c2 := cO.c2; have c3 := cO.c3; have c4 := cO.c4
            clear cO
            have k := below_box k1
            clear k1
            go_wp2_with (go_at_call 58; refine (awithin_any _ _ _ _).mono ?_; rintro e w' ⟨rfl, rfl⟩)
            go_ret
            exact Grew.intro rfl below_auto
  · rw [show termsE xs f b d al = tariffE xs by simp [termsE, hT]]
    generalize tariffE xs = r at *
    go_enter Try.func27, Try.ntmps27
    go_wp2_with fail
    refine (T.out _ (hS.below (boxed_below w (.cells #[.slice a xs.length cap, I f, I b, I d, I al] 24)))).mono ?_
    rintro e w1 ⟨rfl, k1⟩
    have cO := (Own.new (w := w) rfl [.slice a xs.length cap, I f, I b, I d, I al] 24).below k1
    have cfA := cO.f; have c0 := cO.c0; have c1 := cO.c1; have c2 := cO.c2; have c3 := cO.c3; have c4 := cO.c4
    clear cO
    have k := below_box k1
    clear k1
    go_wp2_with (go_at_call 58; refine (awithin_any _ _ _ _).mono ?_; rintro e w' ⟨rfl, rfl⟩)
    go_ret
    exact Grew.intro rfl below_auto
set_option maxHeartbeats 4000000 in
theorem TermsFault_any (v : Value) (xs : List AStep) (f b d al : Int) (w : World) (h : Sl w v 2 xs.length (xs.flatMap AStep.cells)) : Calls Try.prog 32 #[.agg #[v, I f, I b, I d, I al]] w (Grew (I (termsE xs f b d al)) w) := by
  have T := Lib.hid (fun W hW => TariffFault_any v xs W hW)
  have hS := h
  obtain ⟨a, cap, rfl, -⟩ := h
  by_cases hT : tariffE xs = 0
  · rw [hT] at T
    cases p1 : inB f 0 100000
    · rw [show termsE xs f b d al = 2 by simp [termsE, termsOk, hT, p1]]
      go_enter Try.func32, Try.ntmps32
      go_wp2_with fail
      refine (T.out _ (hS.below (boxed_below w (.cells #[.slice a xs.length cap, I f, I b, I d, I al] 24)))).mono ?_
      rintro e w1 ⟨rfl, k1⟩
      have cO := (Own.new (w := w) rfl [.slice a xs.length cap, I f, I b, I d, I al] 24).below k1
      have cfA := cO.f; have c0 := cO.c0; have c1 := cO.c1; have c2 := cO.c2; have c3 := cO.c3; have c4 := cO.c4
      clear cO
      have k := below_box k1
      clear k1
      go_wp2_with (go_at_call 43; refine (In_any _ _ _ _).mono ?_; rintro e w' ⟨rfl, rfl⟩)
      go_ret
      exact Grew.intro rfl below_auto
    · cases p2 : inB b 0 10000
      · rw [show termsE xs f b d al = 2 by simp [termsE, termsOk, hT, p2]]
        go_enter Try.func32, Try.ntmps32
        go_wp2_with fail
        refine (T.out _ (hS.below (boxed_below w (.cells #[.slice a xs.length cap, I f, I b, I d, I al] 24)))).mono ?_
        rintro e w1 ⟨rfl, k1⟩
        have cO := (Own.new (w := w) rfl [.slice a xs.length cap, I f, I b, I d, I al] 24).below k1
        have cfA := cO.f; have c0 := cO.c0; have c1 := cO.c1; have c2 := cO.c2; have c3 := cO.c3; have c4 := cO.c4
        clear cO
        have k := below_box k1
        clear k1
        go_wp2_with (go_at_call 43; refine (In_any _ _ _ _).mono ?_; rintro e w' ⟨rfl, rfl⟩)
        go_ret
        exact Grew.intro rfl below_auto
      · cases p3 : inB d 0 10000
        · rw [show termsE xs f b d al = 2 by simp [termsE, termsOk, hT, p3]]
          go_enter Try.func32, Try.ntmps32
          go_wp2_with fail
          refine (T.out _ (hS.below (boxed_below w (.cells #[.slice a xs.length cap, I f, I b, I d, I al] 24)))).mono ?_
          rintro e w1 ⟨rfl, k1⟩
          have cO := (Own.new (w := w) rfl [.slice a xs.length cap, I f, I b, I d, I al] 24).below k1
          have cfA := cO.f; have c0 := cO.c0; have c1 := cO.c1; have c2 := cO.c2; have c3 := cO.c3; have c4 := cO.c4
          clear cO
          have k := below_box k1
          clear k1
          go_wp2_with (go_at_call 43; refine (In_any _ _ _ _).mono ?_; rintro e w' ⟨rfl, rfl⟩)
          go_ret
          exact Grew.intro rfl below_auto
        · cases p4 : inB al 0 2097151
          · rw [show termsE xs f b d al = 2 by simp [termsE, termsOk, hT, p4]]
            go_enter Try.func32, Try.ntmps32
            go_wp2_with fail
            refine (T.out _ (hS.below (boxed_below w (.cells #[.slice a xs.length cap, I f, I b, I d, I al] 24)))).mono ?_
            rintro e w1 ⟨rfl, k1⟩
            have cO := (Own.new (w := w) rfl [.slice a xs.length cap, I f, I b, I d, I al] 24).below k1
            have cfA := cO.f; have c0 := cO.c0; have c1 := cO.c1; have c2 := cO.c2; have c3 := cO.c3; have c4 := cO.c4
            clear cO
            have k := below_box k1
            clear k1
            go_wp2_with (go_at_call 43; refine (In_any _ _ _ _).mono ?_; rintro e w' ⟨rfl, rfl⟩)
            go_ret
            exact Grew.intro rfl below_auto
          · rw [show termsE xs f b d al = 0 by simp [termsE, termsOk, hT, p1, p2, p3, p4]]
            go_enter Try.func32, Try.ntmps32
            go_wp2_with fail
            refine (T.out _ (hS.below (boxed_below w (.cells #[.slice a xs.length cap, I f, I b, I d, I al] 24)))).mono ?_
            rintro e w1 ⟨rfl, k1⟩
            have cO := (Own.new (w := w) rfl [.slice a xs.length cap, I f, I b, I d, I al] 24).below k1
            have cfA := cO.f; have c0 := cO.c0; have c1 := cO.c1; have c2 := cO.c2; have c3 := cO.c3; have c4 := cO.c4
            clear cO
            have k := below_box k1
            clear k1
            go_wp2_with (go_at_call 43; refine (In_any _ _ _ _).mono ?_; rintro e w' ⟨rfl, rfl⟩)
            go_ret
            exact Grew.intro rfl below_auto
  · rw [show termsE xs f b d al = tariffE xs by simp [termsE, hT]]
    generalize tariffE xs = r at *
    go_enter Try.func32, Try.ntmps32
    go_wp2_with fail
    refine (T.out _ (hS.below (boxed_below w (.cells #[.slice a xs.length cap, I f, I b, I d, I al] 24)))).mono ?_
    rintro e w1 ⟨rfl, k1⟩
    have cO := (Own.new (w := w) rfl [.slice a xs.length cap, I f, I b, I d, I al] 24).below k1
    have cfA := cO.f; have c0 := cO.c0; have c1 := cO.c1; have c2 := cO.c2; have c3 := cO.c3; have c4 := cO.c4
    clear cO
    have k := below_box k1
    clear k1
    go_wp2_with (go_at_call 43; refine (In_any _ _ _ _).mono ?_; rintro e w' ⟨rfl, rfl⟩)
    go_ret
    exact Grew.intro rfl below_auto
theorem steps_own (v : Value) (xs : List AStep) (w : World) (h : Sl w v 2 xs.length (xs.flatMap AStep.cells)) (hby : xs.length * 16 ≤ 140737488355328) :
    Calls Try.prog 31 #[v] w (GrewOw 137 2 xs.length (xs.flatMap AStep.cells) w) := by
  obtain ⟨i0, hi, hz0, hz1, hz2⟩ := info_parts info_steps
  have h' := h
  obtain ⟨a, cap, rfl, hn, hl, h0, h⟩ := h
  cases a with
  | none =>
    obtain ⟨hn0, rfl⟩ := h0 rfl
    obtain rfl : xs = [] := List.length_eq_zero_iff.1 hn0
    clear h h' h0 hl
    go_enter Try.func31, Try.ntmps31
    go_wp2_with fail
    go_ret
    exact ⟨_, rfl, World.ownsRow_nil _ _ _ _, Below.refl _ _⟩
  | some ad =>
    have hnews := Lib.hid h'.news
    have hone : oneCells (xs.flatMap AStep.cells) := oneCells_flat (fun x u hu => by simp only [AStep.cells, List.mem_cons, List.not_mem_nil, or_false] at hu; rcases hu with rfl | rfl <;> rfl) _
    clear h h' h0
    have Hl := Lib.hid hl
    clear hl
    have c3 : 0 + xs.length ≤ maxLen := by unfold maxLen; omega
    have c4 := Lib.hid (show (0 + xs.length) * 16 ≤ 140737488355328 by omega)
    clear hby
    go_enter Try.func31, Try.ntmps31
    go_wp2_with (at_builtin; refine wpList_append_own _ rfl _ _ 22 rfl w.heap.size 137 i0 (.agg #[.int .i64 0, .int .i64 0]) 2 16 Try.underlying22 hi hz0 hz1 hz2 rfl (by decide) _ 0 [] rfl (World.ownsRow_nil _ _ _ _) ad _ _ (xs.flatMap AStep.cells) rfl Hl.out hnews.out hone c3 c4.out (Nat.le_refl _) ?_; intro v' w1 hown' hgrow _)
    have hbel := Below.grown (B := w.heap.size) (Below.refl _ w) hgrow (Nat.le_refl _) (fun k hk => absurd (show (none : Option Nat) = some k from hk) (by simp))
    rw [Nat.zero_add, List.nil_append] at hown'
    clear hgrow
    go_wp2
    go_ret
    exact ⟨_, rfl, hown', hbel⟩

def GrewTerms (xs : List AStep) (f b d al : Int) (w : World) (e : Ending) (w' : World) : Prop := ∃ v, e = .returned (.agg #[v, I f, I b, I d, I al]) ∧ Sl w' v 2 xs.length (xs.flatMap AStep.cells) ∧ Below w.heap.size w w'
set_option maxHeartbeats 2000000 in
theorem terms_any (v : Value) (xs : List AStep) (f b d al : Int) (w : World) (h : Sl w v 2 xs.length (xs.flatMap AStep.cells)) (hby : xs.length * 16 ≤ 140737488355328) : Calls Try.prog 10 #[.agg #[v, I f, I b, I d, I al]] w (GrewTerms xs f b d al w) := by
  have hS := h
  obtain ⟨a, cap, rfl, -⟩ := h
  have k0 := boxed_below w (.cells #[.slice a xs.length cap, I f, I b, I d, I al] 24)
  have kB := k0.alloc k0.size (.cells #[.slice none 0 0, I 0, I 0, I 0, I 0] 24)
  have o1 := (Own.new (w := w) rfl [.slice a xs.length cap, I f, I b, I d, I al] 24).alloc (.cells #[.slice none 0 0, I 0, I 0, I 0, I 0] 24)
  have o2 := Own.new (w := w.alloc (.cells #[.slice a xs.length cap, I f, I b, I d, I al] 24)) (g := w.heap.size + 1) (by simp) [.slice none 0 0, I 0, I 0, I 0, I 0] 24
  have S := Lib.hid (steps_own _ xs _ (hS.below kB) hby)
  go_enter Try.func10, Try.ntmps10
  go_wp2_with fail
  refine S.out.mono ?_
  rintro e w1 ⟨v', rfl, h1, k1⟩
  have cO := o1.below k1
  have cfA := cO.f; have c0 := cO.c0; have c1 := cO.c1; have c2 := cO.c2; have c3 := cO.c3; have c4 := cO.c4
  clear cO
  have zO := o2.below k1
  have zfA := zO.f; have z0 := zO.c0; have z1 := zO.c1; have z2 := zO.c2; have z3 := zO.c3; have z4 := zO.c4
  clear zO
  have kk := kB.trans (k1.mono kB.size)
  have hn : xs.length ≤ 281474976710656 := by omega
  have H1 := Lib.hid (fun u0 u1 u2 u3 u4 u5 => Sl.of_owns (ownsRow_setCell_below (ownsRow_setCell_below (ownsRow_setCell_below (ownsRow_setCell_below (ownsRow_setCell_below (ownsRow_setCell_below h1 (a := ⟨w.heap.size, 0, none⟩) (by simp; omega) u0) (a := ⟨w.heap.size + 1, 0, none⟩) (by simp) u1) (a := ⟨w.heap.size + 1, 1, none⟩) (by simp) u2) (a := ⟨w.heap.size + 1, 2, none⟩) (by simp) u3) (a := ⟨w.heap.size + 1, 3, none⟩) (by simp) u4) (a := ⟨w.heap.size + 1, 4, none⟩) (by simp) u5) hn)
  obtain ⟨a', cap', rfl, -⟩ := Sl.of_owns h1 hn
  clear h1 o1 o2 k0 kB k1
  have r1 := set_same
  have r2 := set_off
  have r3 := set_blk
  go_wp2
  exact bodyPost_ret (v := .agg #[.slice a' xs.length cap', I f, I b, I d, I al]) (by simp [results, Try.results10, go_sem, *]; try omega) rfl (⟨_, rfl, H1.out _ _ _ _ _ _, below_autor⟩)
end Go.Proofs.Ytenoigmkhlnfoaa
namespace Go.Proofs.Ytenoigmkhlnfoaa
set_option linter.unusedSimpArgs false
set_option linter.unusedVariables false
open Go.RowKit
set_option maxRecDepth 20000
def age1 (bp o : Int) : Int := min (o + o * bp / 10000) 1000000000
def ageN (bp : Int) : Nat → Int → Int
  | 0, o => o
  | n + 1, o => age1 bp (ageN bp n o)
theorem age1_bd {bp o : Int} (h0 : 0 ≤ o) (p0 : 0 ≤ bp) : 0 ≤ age1 bp o ∧ age1 bp o ≤ 1000000000 := by
  have h2 : 0 ≤ o * bp / 10000 := Int.ediv_nonneg (Int.mul_nonneg h0 p0) (by omega)
  unfold age1; omega
theorem ageN_bd {bp o : Int} (h0 : 0 ≤ o) (h1 : o ≤ 1000000000) (p0 : 0 ≤ bp) : ∀ n, 0 ≤ ageN bp n o ∧ ageN bp n o ≤ 1000000000
  | 0 => ⟨h0, h1⟩
  | n + 1 => age1_bd (ageN_bd h0 h1 p0 n).1 p0
/-- where nothing grows, nothing grows later -/
theorem ageN_still {bp o : Int} (h1 : o ≤ 1000000000) (n : Nat) (h : o * bp / 10000 = 0) : ageN bp n o = o := by
  induction n with
  | zero => rfl
  | succ n ih => unfold ageN; rw [ih]; unfold age1; rw [h]; omega
theorem ageN_add (bp : Int) (m n : Nat) (o : Int) : ageN bp (n + m) o = ageN bp n (ageN bp m o) := by
  induction n with
  | zero => simp [ageN]
  | succ n ih => rw [show n + 1 + m = (n + m) + 1 by omega]; unfold ageN; rw [ih]
def aged (n : Nat) (d : ADebt) : ADebt := ⟨ageN d.bp n d.owed, d.bp⟩
def ageOk (xs : List ADebt) (m : Int) : Bool := debtE xs == 0 && inB m 0 2400
end Go.Proofs.Ytenoigmkhlnfoaa
namespace Go.Proofs.Ytenoigmkhlnfoaa
set_option linter.unusedSimpArgs false
set_option linter.unusedVariables false
open Go.RowKit
set_option maxRecDepth 20000
set_option maxHeartbeats 1000000 in
theorem aged_any (d : ADebt) (n : Nat) (w : World) (hok : okDebt d = true) (hn : n ≤ 2400) :
    Calls Try.prog 121 #[.agg #[I d.owed, I d.bp], I n] w (Grew (.agg #[I (ageN d.bp n d.owed), I d.bp]) w) := by
  obtain ⟨q0, q1, q2, q3⟩ := okDebt_true.1 hok
  go_enter Try.func121, Try.ntmps121
  go_wp2
  go_loopw [5] (fun i wr => ∃ k : Nat, k ≤ n ∧ i = I k ∧ wr = (w.alloc (.cells #[I (ageN d.bp k d.owed), I d.bp] 60)).alloc (.cells #[I 0, I 0] 60)) (fun i _ => n - (intOf i).toNat)
  case atStart => exact ⟨0, Nat.zero_le _, rfl, rfl⟩
  case round =>
    obtain ⟨k, hk, rfl, rfl⟩ := hrel
    obtain ⟨g0, g1⟩ := ageN_bd q0 q1 q2 (n := k)
    have hs := Lib.hid (show ageN d.bp (k + 1) d.owed = age1 d.bp (ageN d.bp k d.owed) from rfl)
    by_cases hlt : k < n
    · generalize ageN d.bp k d.owed = o at *
      have m0 : 0 ≤ o * d.bp := Int.mul_nonneg g0 q2
      have m1 : o * d.bp ≤ 1000000000 * 10000 := Int.mul_le_mul g1 q3 q2 (by omega)
      have d0 : 0 ≤ o * d.bp / 10000 := Int.ediv_nonneg m0 (by omega)
      have d1 : o * d.bp / 10000 ≤ 1000000000 := by omega
      by_cases hm : o + o * d.bp / 10000 ≤ 1000000000
      · have H := Lib.hid (show o + o * d.bp / 10000 = ageN d.bp (k + 1) d.owed by rw [hs.out]; unfold age1; omega)
        go_wp2
        exact ⟨⟨k + 1, by omega, by go_num, by rw [← H.out]⟩, by simp [intOf]; omega⟩
      · have H := Lib.hid (show 1000000000 = ageN d.bp (k + 1) d.owed by rw [hs.out]; unfold age1; omega)
        go_wp2
        exact ⟨⟨k + 1, by omega, by go_num, by rw [← H.out]⟩, by simp [intOf]; omega⟩
    · have hkn : k = n := by omega
      subst hkn
      go_wp2
      exact bodyPost_ret (v := .agg #[I (ageN d.bp k d.owed), I d.bp]) (by simp [results, Try.results121, go_sem]) rfl (Grew.intro rfl below_auto)
end Go.Proofs.Ytenoigmkhlnfoaa
