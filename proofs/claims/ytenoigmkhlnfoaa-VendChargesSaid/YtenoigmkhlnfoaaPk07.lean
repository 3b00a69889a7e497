/- accounts: which may be · accounts: new memory · ref.AccountCopy -/
import Derived.Test.YtenoigmkhlnfoaaPk01
import Derived.Test.YtenoigmkhlnfoaaPk06
import Derived.Test.YtenoigmkhlnfoaaPk02
namespace Go.Proofs.Ytenoigmkhlnfoaa
set_option linter.unusedSimpArgs false
set_option linter.unusedVariables false
open Go.RowKit
set_option maxRecDepth 20000

def accMay (x : AAcc) (xs : List ADebt) : Bool :=
  decide (debtE xs = 0) && inB x.meter 0 49 && inB x.rev 0 15 && inB x.next 1 1048576 && inB x.month 0 2399 && inB x.bought 0 10000000 && inB x.free (-1) x.month

theorem awithin_any (n low high : Int) (w : World) : Calls Try.prog 58 #[I n, I low, I high] w (Pure (.bool (inB n low high)) w) := by
  go_enter Try.func58, Try.ntmps58
  go_wp2
  all_goals
    go_ret
    refine Pure.intro ?_
    simp only [inB]
    simp [*]
    try omega

set_option maxHeartbeats 2000000 in
theorem AccountMay_any (x : AAcc) (v : Value) (xs : List ADebt) (w : World) (h : Sl w v 2 xs.length (xs.flatMap ADebt.cells)) :
    Calls Try.prog 81 #[.agg #[I x.meter, I x.rev, I x.next, I x.month, I x.bought, I x.free, v]] w (Grew (.bool (accMay x xs)) w) := by
  have F := Lib.hid (fun W (hW : Sl W v 2 xs.length (xs.flatMap ADebt.cells)) => DebtFault_any v xs W hW)
  have hE := Lib.hid (show accMay x xs = (decide (debtE xs = 0) && inB x.meter 0 49 && inB x.rev 0 15 && inB x.next 1 1048576 && inB x.month 0 2399 && inB x.bought 0 10000000 && inB x.free (-1) x.month) from rfl)
  have hb := boxed_below w (.cells #[I x.meter, I x.rev, I x.next, I x.month, I x.bought, I x.free, v] 79)
  have h1 := h.below hb
  have G := Lib.hid (F.out _ h1)
  obtain ⟨a, cap, rfl, _⟩ := h
  clear h1 F
  generalize accMay x xs = R at *
  obtain ⟨x1, x2, x3, x4, x5, x6⟩ := x
  simp only at *
  by_cases c0 : debtE xs = 0
  · rw [c0] at G
    rw [decide_eq_true c0, Bool.true_and] at hE
    clear c0
    cases c1 : inB x1 0 49
    · have hr := Lib.hid (hE.out.trans (by simp [c1]) : R = false)
      clear hE
      go_enter Try.func81, Try.ntmps81
      go_wp2_with (first | (go_at_call 104; refine (G.out).mono ?_; rintro e w' ⟨rfl, rfl⟩) | (go_at_call 43; refine (In_any _ _ _ _).mono ?_; rintro e w' ⟨rfl, rfl⟩))
      go_ret
      exact Grew.intro (by rw [hr.out]; rfl) hb
    cases c2 : inB x2 0 15
    · have hr := Lib.hid (hE.out.trans (by simp [c1, c2]) : R = false)
      clear hE
      go_enter Try.func81, Try.ntmps81
      go_wp2_with (first | (go_at_call 104; refine (G.out).mono ?_; rintro e w' ⟨rfl, rfl⟩) | (go_at_call 43; refine (In_any _ _ _ _).mono ?_; rintro e w' ⟨rfl, rfl⟩))
      go_ret
      exact Grew.intro (by rw [hr.out]; rfl) hb
    cases c3 : inB x3 1 1048576
    · have hr := Lib.hid (hE.out.trans (by simp [c1, c2, c3]) : R = false)
      clear hE
      go_enter Try.func81, Try.ntmps81
      go_wp2_with (first | (go_at_call 104; refine (G.out).mono ?_; rintro e w' ⟨rfl, rfl⟩) | (go_at_call 43; refine (In_any _ _ _ _).mono ?_; rintro e w' ⟨rfl, rfl⟩))
      go_ret
      exact Grew.intro (by rw [hr.out]; rfl) hb
    cases c4 : inB x4 0 2399
    · have hr := Lib.hid (hE.out.trans (by simp [c1, c2, c3, c4]) : R = false)
      clear hE
      go_enter Try.func81, Try.ntmps81
      go_wp2_with (first | (go_at_call 104; refine (G.out).mono ?_; rintro e w' ⟨rfl, rfl⟩) | (go_at_call 43; refine (In_any _ _ _ _).mono ?_; rintro e w' ⟨rfl, rfl⟩))
      go_ret
      exact Grew.intro (by rw [hr.out]; rfl) hb
    cases c5 : inB x5 0 10000000
    · have hr := Lib.hid (hE.out.trans (by simp [c1, c2, c3, c4, c5]) : R = false)
      clear hE
      go_enter Try.func81, Try.ntmps81
      go_wp2_with (first | (go_at_call 104; refine (G.out).mono ?_; rintro e w' ⟨rfl, rfl⟩) | (go_at_call 43; refine (In_any _ _ _ _).mono ?_; rintro e w' ⟨rfl, rfl⟩))
      go_ret
      exact Grew.intro (by rw [hr.out]; rfl) hb
    · have hr := Lib.hid (hE.out.trans (by simp [c1, c2, c3, c4, c5]) : R = inB x6 (-1) x4)
      clear hE
      go_enter Try.func81, Try.ntmps81
      go_wp2_with (first | (go_at_call 104; refine (G.out).mono ?_; rintro e w' ⟨rfl, rfl⟩) | (go_at_call 43; refine (In_any _ _ _ _).mono ?_; rintro e w' ⟨rfl, rfl⟩))
      go_ret
      exact Grew.intro (by rw [hr.out]; rfl) hb
  · have hb2 : (debtE xs != 0) = true := by simp [c0]
    have hr := Lib.hid (hE.out.trans (by simp [c0]) : R = false)
    clear hE
    generalize debtE xs = e at *
    clear c0
    go_enter Try.func81, Try.ntmps81
    go_wp2_with (first | (go_at_call 104; refine (G.out).mono ?_; rintro e w' ⟨rfl, rfl⟩) | (go_at_call 43; refine (In_any _ _ _ _).mono ?_; rintro e w' ⟨rfl, rfl⟩))
    go_ret
    exact Grew.intro (by rw [hr.out]; rfl) hb

set_option maxHeartbeats 2000000 in
theorem may_any (x : AAcc) (v : Value) (xs : List ADebt) (w : World) (h : Sl w v 2 xs.length (xs.flatMap ADebt.cells)) :
    Calls Try.prog 75 #[.agg #[I x.meter, I x.rev, I x.next, I x.month, I x.bought, I x.free, v]] w (Grew (.bool (accMay x xs)) w) := by
  have G := Lib.hid (fun W (hW : Sl W v 2 xs.length (xs.flatMap ADebt.cells)) => Total_any v xs W hW)
  have hE := Lib.hid (show accMay x xs = (decide (debtE xs = 0) && inB x.meter 0 49 && inB x.rev 0 15 && inB x.next 1 1048576 && inB x.month 0 2399 && inB x.bought 0 10000000 && inB x.free (-1) x.month) from rfl)
  have hb := boxed_below w (.cells #[I x.meter, I x.rev, I x.next, I x.month, I x.bought, I x.free, v] 79)
  have h1 := h.below hb
  obtain ⟨a, cap, rfl, _⟩ := h
  generalize accMay x xs = R at *
  generalize totalA xs = T at *
  obtain ⟨x1, x2, x3, x4, x5, x6⟩ := x
  simp only at *
  by_cases c0 : debtE xs = 0
  · rw [c0] at G
    rw [decide_eq_true c0, Bool.true_and] at hE
    clear c0
    cases c1 : inB x1 0 49
    · have hr := Lib.hid (hE.out.trans (by simp [c1]) : R = false)
      clear hE
      go_enter Try.func75, Try.ntmps75
      go_wp2_with fail
      refine (G.out _ h1).mono ?_
      rintro e w1 ⟨rfl, k1⟩
      have k := hb.trans (k1.mono hb.size)
      have cO := (Own.new rfl [I x1, I x2, I x3, I x4, I x5, I x6, .slice a xs.length cap] 79).below k1
      have cfA := cO.f; have c0 := cO.c0; have c1 := cO.c1; have c2 := cO.c2; have c3 := cO.c3; have c4 := cO.c4; have c5 := cO.c5; have c6 := cO.c6
      clear cO
      clear k1
      go_wp2_with (go_at_call 58; refine (awithin_any _ _ _ _).mono ?_; rintro e w' ⟨rfl, rfl⟩)
      go_ret
      exact Grew.intro (by rw [hr.out]; rfl) k
    cases c2 : inB x2 0 15
    · have hr := Lib.hid (hE.out.trans (by simp [c1, c2]) : R = false)
      clear hE
      go_enter Try.func75, Try.ntmps75
      go_wp2_with fail
      refine (G.out _ h1).mono ?_
      rintro e w1 ⟨rfl, k1⟩
      have k := hb.trans (k1.mono hb.size)
      have cO := (Own.new rfl [I x1, I x2, I x3, I x4, I x5, I x6, .slice a xs.length cap] 79).below k1
      have cfA := cO.f; have c0 := cO.c0; have c1 := cO.c1; have c2 := cO.c2; have c3 := cO.c3; have c4 := cO.c4; have c5 := cO.c5; have c6 := cO.c6
      clear cO
      clear k1
      go_wp2_with (go_at_call 58; refine (awithin_any _ _ _ _).mono ?_; rintro e w' ⟨rfl, rfl⟩)
      go_ret
      exact Grew.intro (by rw [hr.out]; rfl) k
    cases c3 : inB x3 1 1048576
    · have hr := Lib.hid (hE.out.trans (by simp [c1, c2, c3]) : R = false)
      clear hE
      go_enter Try.func75, Try.ntmps75
      go_wp2_with fail
      refine (G.out _ h1).mono ?_
      rintro e w1 ⟨rfl, k1⟩
      have k := hb.trans (k1.mono hb.size)
      have cO := (Own.new rfl [I x1, I x2, I x3, I x4, I x5, I x6, .slice a xs.length cap] 79).below k1
      have cfA := cO.f; have c0 := cO.c0; have c1 := cO.c1; have c2 := cO.c2; have c3 := cO.c3; have c4 := cO.c4; have c5 := cO.c5; have c6 := cO.c6
      clear cO
      clear k1
      go_wp2_with (go_at_call 58; refine (awithin_any _ _ _ _).mono ?_; rintro e w' ⟨rfl, rfl⟩)
      go_ret
      exact Grew.intro (by rw [hr.out]; rfl) k
    cases c4 : inB x4 0 2399
    · have hr := Lib.hid (hE.out.trans (by simp [c1, c2, c3, c4]) : R = false)
      clear hE
      go_enter Try.func75, Try.ntmps75
      go_wp2_with fail
      refine (G.out _ h1).mono ?_
      rintro e w1 ⟨rfl, k1⟩
      have k := hb.trans (k1.mono hb.size)
      have cO := (Own.new rfl [I x1, I x2, I x3, I x4, I x5, I x6, .slice a xs.length cap] 79).below k1
      have cfA := cO.f; have c0 := cO.c0; have c1 := cO.c1; have c2 := cO.c2; have c3 := cO.c3; have c4 := cO.c4; have c5 := cO.c5; have c6 := cO.c6
      clear cO
      clear k1
      go_wp2_with (go_at_call 58; refine (awithin_any _ _ _ _).mono ?_; rintro e w' ⟨rfl, rfl⟩)
      go_ret
      exact Grew.intro (by rw [hr.out]; rfl) k
    cases c5 : inB x5 0 10000000
    · have hr := Lib.hid (hE.out.trans (by simp [c1, c2, c3, c4, c5]) : R = false)
      clear hE
      go_enter Try.func75, Try.ntmps75
      go_wp2_with fail
      refine (G.out _ h1).mono ?_
      rintro e w1 ⟨rfl, k1⟩
      have k := hb.trans (k1.mono hb.size)
      have cO := (Own.new rfl [I x1, I x2, I x3, I x4, I x5, I x6, .slice a xs.length cap] 79).below k1
      have cfA := cO.f; have c0 := cO.c0; have c1 := cO.c1; have c2 := cO.c2; have c3 := cO.c3; have c4 := cO.c4; have c5 := cO.c5; have c6 := cO.c6
      clear cO
      clear k1
      go_wp2_with (go_at_call 58; refine (awithin_any _ _ _ _).mono ?_; rintro e w' ⟨rfl, rfl⟩)
      go_ret
      exact Grew.intro (by rw [hr.out]; rfl) k
    · have hr := Lib.hid (hE.out.trans (by simp [c1, c2, c3, c4, c5]) : R = inB x6 (-1) x4)
      clear hE
      go_enter Try.func75, Try.ntmps75
      go_wp2_with fail
      refine (G.out _ h1).mono ?_
      rintro e w1 ⟨rfl, k1⟩
      have k := hb.trans (k1.mono hb.size)
      have cO := (Own.new rfl [I x1, I x2, I x3, I x4, I x5, I x6, .slice a xs.length cap] 79).below k1
      have cfA := cO.f; have c0 := cO.c0; have c1 := cO.c1; have c2 := cO.c2; have c3 := cO.c3; have c4 := cO.c4; have c5 := cO.c5; have c6 := cO.c6
      clear cO
      clear k1
      go_wp2_with (go_at_call 58; refine (awithin_any _ _ _ _).mono ?_; rintro e w' ⟨rfl, rfl⟩)
      go_ret
      exact Grew.intro (by rw [hr.out]; rfl) k
  · have hb2 : (debtE xs == 0) = false := by simp [c0]
    have hr := Lib.hid (hE.out.trans (by simp [c0]) : R = false)
    clear hE
    generalize debtE xs = e0 at *
    clear c0
    go_enter Try.func75, Try.ntmps75
    go_wp2_with fail
    refine (G.out _ h1).mono ?_
    rintro e w1 ⟨rfl, k1⟩
    have k := hb.trans (k1.mono hb.size)
    have cO := (Own.new rfl [I x1, I x2, I x3, I x4, I x5, I x6, .slice a xs.length cap] 79).below k1
    have cfA := cO.f; have c0 := cO.c0; have c1 := cO.c1; have c2 := cO.c2; have c3 := cO.c3; have c4 := cO.c4; have c5 := cO.c5; have c6 := cO.c6
    clear cO
    clear k1
    go_wp2_with (go_at_call 58; refine (awithin_any _ _ _ _).mono ?_; rintro e w' ⟨rfl, rfl⟩)
    go_ret
    exact Grew.intro (by rw [hr.out]; rfl) k

theorem sameAccount_any (x : AAcc) (v1 v2 : Value) (xs : List ADebt) (w : World) (h1 : Sl w v1 2 xs.length (xs.flatMap ADebt.cells)) (h2 : Sl w v2 2 xs.length (xs.flatMap ADebt.cells)) :
    Calls Try.prog 37 #[.agg #[I x.meter, I x.rev, I x.next, I x.month, I x.bought, I x.free, v1], .agg #[I x.meter, I x.rev, I x.next, I x.month, I x.bought, I x.free, v2]] w (Grew (.bool true) w) := by
  have S := Lib.hid (fun W hW hW2 => sameDebts_any v1 v2 xs xs W hW hW2)
  obtain ⟨x1, x2, x3, x4, x5, x6⟩ := x
  simp only at *
  have hb1 := boxed_below w (.cells #[I x1, I x2, I x3, I x4, I x5, I x6, v1] 79)
  have hb := hb1.alloc hb1.size (.cells #[I x1, I x2, I x3, I x4, I x5, I x6, v2] 79)
  have g1 := h1.below hb
  have g2 := h2.below hb
  obtain ⟨a, cap, rfl, _⟩ := h1
  obtain ⟨a2, cap2, rfl, _⟩ := h2
  clear hb1
  go_enter Try.func37, Try.ntmps37
  go_wp2_with fail
  refine (S.out _ g1 g2).mono ?_
  rintro e w1 ⟨rfl, k1⟩
  have k := hb.trans (k1.mono hb.size)
  clear k1
  go_wp2
  go_ret
  exact Grew.intro (by simp) k

/-- an account comes back, its debts in new memory, and a number -/
def GrewAcc (x : AAcc) (xs : List ADebt) (k : Int) (w : World) (e : Ending) (w' : World) : Prop :=
  ∃ v, e = .returned (T2 (.agg #[I x.meter, I x.rev, I x.next, I x.month, I x.bought, I x.free, v]) (I k)) ∧ Sl w' v 2 xs.length (xs.flatMap ADebt.cells) ∧ Below w.heap.size w w'
/-- an account and a bill -/
def GrewAccB (x : AAcc) (xs : List ADebt) (m : ABill) (k : Int) (w : World) (e : Ending) (w' : World) : Prop :=
  ∃ v, e = .returned (T3 (.agg #[I x.meter, I x.rev, I x.next, I x.month, I x.bought, I x.free, v]) (.agg #[I m.id, I m.tender, I m.debt, I m.fee, I m.price, I m.change, I m.units]) (I k)) ∧ Sl w' v 2 xs.length (xs.flatMap ADebt.cells) ∧ Below w.heap.size w w'
def GrewAcc1 (x : AAcc) (xs : List ADebt) (w : World) (e : Ending) (w' : World) : Prop :=
  ∃ v, e = .returned (.agg #[I x.meter, I x.rev, I x.next, I x.month, I x.bought, I x.free, v]) ∧ Sl w' v 2 xs.length (xs.flatMap ADebt.cells) ∧ Below w.heap.size w w'
/-- .. its debts nowhere below what was there -/
def GrewAccF (x : AAcc) (xs : List ADebt) (k : Int) (w : World) (e : Ending) (w' : World) : Prop :=
  ∃ v, e = .returned (T2 (.agg #[I x.meter, I x.rev, I x.next, I x.month, I x.bought, I x.free, v]) (I k)) ∧ Sl w' v 2 xs.length (xs.flatMap ADebt.cells) ∧ Below w.heap.size w w' ∧ FarB w.heap.size v
/-- .. its debts nowhere below what was there -/
def GrewAccBF (x : AAcc) (xs : List ADebt) (b : ABill) (k : Int) (w : World) (e : Ending) (w' : World) : Prop :=
  ∃ v, e = .returned (T3 (.agg #[I x.meter, I x.rev, I x.next, I x.month, I x.bought, I x.free, v]) (.agg #[I b.id, I b.tender, I b.debt, I b.fee, I b.price, I b.change, I b.units]) (I k)) ∧ Sl w' v 2 xs.length (xs.flatMap ADebt.cells) ∧ Below w.heap.size w w' ∧ FarB w.heap.size v
end Go.Proofs.Ytenoigmkhlnfoaa
namespace Go.Proofs.Ytenoigmkhlnfoaa
set_option linter.unusedSimpArgs false
set_option linter.unusedVariables false
open Go.RowKit
set_option maxRecDepth 20000

theorem owns_set {w : World} {base e sz n g j : Nat} {v : Value} {cs : List Value} (h : w.ownsRow base e sz v n cs) (hg : g < base) (x : Value) : (w.setCell ⟨g, j, none⟩ x).ownsRow base e sz v n cs := ownsRow_setCell_below h (a := ⟨g, j, none⟩) hg x

end Go.Proofs.Ytenoigmkhlnfoaa
namespace Go.Proofs.Ytenoigmkhlnfoaa
set_option linter.unusedSimpArgs false
set_option linter.unusedVariables false
open Go.RowKit
set_option maxRecDepth 20000

/-- an account comes back, its debts in memory of their own -/
def GrewAccO (x : AAcc) (xs : List ADebt) (w : World) (e : Ending) (w' : World) : Prop :=
  ∃ v, e = .returned (.agg #[I x.meter, I x.rev, I x.next, I x.month, I x.bought, I x.free, v]) ∧ w'.ownsRow (w.heap.size + 2) 60 2 v xs.length (xs.flatMap ADebt.cells) ∧ Below w.heap.size w w'
theorem flat_takeD {xs : List ADebt} {k : Nat} (hk : k < xs.length) : (xs.take (k + 1)).flatMap ADebt.cells = (xs.take k).flatMap ADebt.cells ++ (xs.getD k default).cells := by
  rw [List.take_add_one, List.flatMap_append, List.getElem?_eq_getElem hk, List.getD_eq_getElem?_getD, List.getElem?_eq_getElem hk]
  simp
set_option maxHeartbeats 1000000 in
theorem AccountCopy_any (x : AAcc) (v : Value) (xs : List ADebt) (w : World) (h : Sl w v 2 xs.length (xs.flatMap ADebt.cells)) (h8 : xs.length ≤ 8) :
    Calls Try.prog 82 #[.agg #[I x.meter, I x.rev, I x.next, I x.month, I x.bought, I x.free, v]] w (GrewAccO x xs w) := by
  obtain ⟨i0, hi, hz0, hz1, hz2⟩ := info_parts info_debts
  obtain ⟨x1, x2, x3, x4, x5, x6⟩ := x
  simp only [GrewAccO] at *
  have hb1 := boxed_below w (.cells #[I x1, I x2, I x3, I x4, I x5, I x6, v] 79)
  have hb := hb1.alloc hb1.size (.cells #[I 0, I 0, I 0, I 0, I 0, I 0, .slice none 0 0] 79)
  have h1 := h.below hb
  obtain ⟨a, cap, rfl, -⟩ := h
  obtain ⟨a', cap', hv, hn, hl, h0, hr⟩ := h1
  injection hv with e1 e2 e3
  subst e1 e3
  clear hb1 e2 hl h0
  have oc := (Own.new rfl [I x1, I x2, I x3, I x4, I x5, I x6, .slice a xs.length cap] 79 (w := w)).alloc (.cells #[I 0, I 0, I 0, I 0, I 0, I 0, .slice none 0 0] 79)
  have od := Own.new (w := w.alloc (.cells #[I x1, I x2, I x3, I x4, I x5, I x6, .slice a xs.length cap] 79)) (g := w.heap.size + 1) (by simp) [I 0, I 0, I 0, I 0, I 0, I 0, .slice none 0 0] 79
  go_enter Try.func82, Try.ntmps82
  go_wp2
  have hsw : ((w.alloc (.cells #[I x1, I x2, I x3, I x4, I x5, I x6, .slice a xs.length cap] 79)).alloc (.cells #[I 0, I 0, I 0, I 0, I 0, I 0, .slice none 0 0] 79)).heap.size = w.heap.size + 2 := by simp
  generalize hW0 : ((w.alloc (.cells #[I x1, I x2, I x3, I x4, I x5, I x6, .slice a xs.length cap] 79)).alloc (.cells #[I 0, I 0, I 0, I 0, I 0, I 0, .slice none 0 0] 79)) = W0 at *
  clear hW0
  go_loopw [3, 4] (fun v i wr => ∃ k : Nat, k ≤ xs.length ∧ i = I k ∧ Hid (wr.ownsRow (w.heap.size + 2) 60 2 v (xs.take k).length ((xs.take k).flatMap ADebt.cells)) ∧ Below W0.heap.size W0 wr) (fun _ i _ => xs.length - (intOf i).toNat)
  case atStart => exact ⟨0, Nat.zero_le _, rfl, World.ownsRow_nil _ _ _ _, Below.refl _ _⟩
  case round =>
    obtain ⟨k, hk, rfl, hO, hbw⟩ := hrel
    have hown := hO.out
    have hsz := hbw.size
    have cO := oc.below hbw
    have cfA := cO.f; have c0 := cO.c0; have c1 := cO.c1; have c2 := cO.c2; have c3 := cO.c3; have c4 := cO.c4; have c5 := cO.c5; have c6 := cO.c6
    clear cO
    by_cases hlt : k < xs.length
    · obtain ⟨b, off, rfl, hbl, hc⟩ := hr.resolve_left (by omega)
      obtain ⟨e0, e1⟩ := elDebt hbl hc hbw k hlt
      have hs := Lib.hid (flat_takeD hlt)
      have hi0 : (0 : Int) ≤ (k : Int) := by omega
      have hi1 : (k : Int) < (xs.length : Int) := by omega
      have hkl : (xs.take k).length = k := by simp; omega
      have hkl1 : (xs.take (k + 1)).length = k + 1 := by simp; omega
      rw [hkl] at hown
      clear hc hr
      generalize xs.getD k default = y at *
      go_wp2_with (skip; (at_builtin; refine wpList_append_own _ rfl _ _ 77 rfl (w.heap.size + 2) 60 i0 (.agg #[.int .i64 0, .int .i64 0]) 2 16 Try.underlying77 hi hz0 hz1 hz2 rfl (by decide) _ _ _ rfl (hown.alloc _) ⟨wr.heap.size, 0, none⟩ 1 1 [I y.owed, I y.bp] rfl rfl (news_lit _ [I y.owed, I y.bp] _) (oneCells_lit rfl) (by unfold maxLen; omega) (by omega) (by simp; omega) ?_; intro v' w1 hown' hgrow _))
      have hbel := grown_below (hbw.alloc hsz _) (hown.alloc _) (by omega) hgrow
      have hO' : Hid (w1.ownsRow (w.heap.size + 2) 60 2 v' (xs.take (k + 1)).length ((xs.take (k + 1)).flatMap ADebt.cells)) := by
        rw [hkl1, hs.out]; exact hown'
      clear hown hown' hgrow hO
      go_wp2
      exact ⟨⟨k + 1, by omega, by go_num, hO', hbel⟩, by simp [intOf]; omega⟩
    · have hkm : k = xs.length := by omega
      have hge : (xs.length : Int) ≤ (k : Int) := by omega
      rw [hkm, List.take_length] at hown
      have HS := Lib.hid hown
      have hS := Sl.of_owns hown (by omega)
      obtain ⟨a2, cap2, rfl, -⟩ := hS
      have k0 := hb.trans (hbw.mono (by omega))
      have dO := od.below hbw
      have dfA := dO.f; have d0 := dO.c0; have d1 := dO.c1; have d2 := dO.c2; have d3 := dO.c3; have d4 := dO.c4; have d5 := dO.c5; have d6 := dO.c6
      clear dO
      clear hkm hO hown hr hbw
      have r1 := set_same
      have r2 := set_off
      have r3 := set_blk
      go_wp2
      exact bodyPost_ret (v := .agg #[I x1, I x2, I x3, I x4, I x5, I x6, .slice a2 xs.length cap2]) (by simp [results, Try.results82, go_sem, *]; try omega) rfl (⟨_, rfl, (by repeat (first | with_reducible exact HS.out | refine owns_set ?_ (by omega) _)), below_autor⟩)
end Go.Proofs.Ytenoigmkhlnfoaa
