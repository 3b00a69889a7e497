/- accounts: which may be -/
import Derived.Test.YtcpljkjibhindaaDecodeB
import Derived.Test.YtcpljkjibhindaaDebt
import Derived.Test.YtcpljkjibhindaaOwn
import Derived.Test.YtcpljkjibhindaaSameDebt
import Derived.Test.YtcpljkjibhindaaCopyDebts
namespace Go.Proofs.Ytcpljkjibhindaa
open Go.RowKit
set_option maxRecDepth 20000

def accMay (x : AAcc) (xs : List ADebt) : Bool :=
  decide (debtE xs = 0) && inB x.meter 0 49 && inB x.rev 0 15 && inB x.next 1 1048576 && inB x.month 0 2399 && inB x.bought 0 10000000 && inB x.free (-1) x.month

theorem awithin_any (n low high : Int) (w : World) : Calls Try.prog 58 #[I n, I low, I high] w (Pure (.bool (inB n low high)) w) := by
  go_enter Try.func58, Try.ntmps58
  go_wp2
  all_goals
    go_ret
    refine Pure.intro ?_
    simp only [inB]
    simp [*]
    try omega

set_option maxHeartbeats 2000000 in
theorem AccountMay_any (x : AAcc) (v : Value) (xs : List ADebt) (w : World) (h : Sl w v 2 xs.length (xs.flatMap ADebt.cells)) :
    Calls Try.prog 59 #[.agg #[I x.meter, I x.rev, I x.next, I x.month, I x.bought, I x.free, v]] w (Grew (.bool (accMay x xs)) w) := by
  have F := Lib.hid (fun W (hW : Sl W v 2 xs.length (xs.flatMap ADebt.cells)) => DebtFault_any v xs W hW)
  have hE := Lib.hid (show accMay x xs = (decide (debtE xs = 0) && inB x.meter 0 49 && inB x.rev 0 15 && inB x.next 1 1048576 && inB x.month 0 2399 && inB x.bought 0 10000000 && inB x.free (-1) x.month) from rfl)
  have hb := boxed_below w (.cells #[I x.meter, I x.rev, I x.next, I x.month, I x.bought, I x.free, v] 39)
  have h1 := h.below hb
  have G := Lib.hid (F.out _ h1)
  obtain ⟨a, cap, rfl, _⟩ := h
  clear h1 F
  generalize accMay x xs = R at *
  obtain ⟨x1, x2, x3, x4, x5, x6⟩ := x
  simp only at *
  by_cases c0 : debtE xs = 0
  · rw [c0] at G
    rw [decide_eq_true c0, Bool.true_and] at hE
    clear c0
    cases c1 : inB x1 0 49
    · have hr := Lib.hid (hE.out.trans (by simp [c1]) : R = false)
      clear hE
      go_enter Try.func59, Try.ntmps59
      go_wp2_with (first | (go_at_call 80; refine (G.out).mono ?_; rintro e w' ⟨rfl, rfl⟩) | (go_at_call 49; refine (In_any _ _ _ _).mono ?_; rintro e w' ⟨rfl, rfl⟩))
      go_ret
      exact Grew.intro (by rw [hr.out]; rfl) hb
    cases c2 : inB x2 0 15
    · have hr := Lib.hid (hE.out.trans (by simp [c1, c2]) : R = false)
      clear hE
      go_enter Try.func59, Try.ntmps59
      go_wp2_with (first | (go_at_call 80; refine (G.out).mono ?_; rintro e w' ⟨rfl, rfl⟩) | (go_at_call 49; refine (In_any _ _ _ _).mono ?_; rintro e w' ⟨rfl, rfl⟩))
      go_ret
      exact Grew.intro (by rw [hr.out]; rfl) hb
    cases c3 : inB x3 1 1048576
    · have hr := Lib.hid (hE.out.trans (by simp [c1, c2, c3]) : R = false)
      clear hE
      go_enter Try.func59, Try.ntmps59
      go_wp2_with (first | (go_at_call 80; refine (G.out).mono ?_; rintro e w' ⟨rfl, rfl⟩) | (go_at_call 49; refine (In_any _ _ _ _).mono ?_; rintro e w' ⟨rfl, rfl⟩))
      go_ret
      exact Grew.intro (by rw [hr.out]; rfl) hb
    cases c4 : inB x4 0 2399
    · have hr := Lib.hid (hE.out.trans (by simp [c1, c2, c3, c4]) : R = false)
      clear hE
      go_enter Try.func59, Try.ntmps59
      go_wp2_with (first | (go_at_call 80; refine (G.out).mono ?_; rintro e w' ⟨rfl, rfl⟩) | (go_at_call 49; refine (In_any _ _ _ _).mono ?_; rintro e w' ⟨rfl, rfl⟩))
      go_ret
      exact Grew.intro (by rw [hr.out]; rfl) hb
    cases c5 : inB x5 0 10000000
    · have hr := Lib.hid (hE.out.trans (by simp [c1, c2, c3, c4, c5]) : R = false)
      clear hE
      go_enter Try.func59, Try.ntmps59
      go_wp2_with (first | (go_at_call 80; refine (G.out).mono ?_; rintro e w' ⟨rfl, rfl⟩) | (go_at_call 49; refine (In_any _ _ _ _).mono ?_; rintro e w' ⟨rfl, rfl⟩))
      go_ret
      exact Grew.intro (by rw [hr.out]; rfl) hb
    · have hr := Lib.hid (hE.out.trans (by simp [c1, c2, c3, c4, c5]) : R = inB x6 (-1) x4)
      clear hE
      go_enter Try.func59, Try.ntmps59
      go_wp2_with (first | (go_at_call 80; refine (G.out).mono ?_; rintro e w' ⟨rfl, rfl⟩) | (go_at_call 49; refine (In_any _ _ _ _).mono ?_; rintro e w' ⟨rfl, rfl⟩))
      go_ret
      exact Grew.intro (by rw [hr.out]; rfl) hb
  · have hb2 : (debtE xs != 0) = true := by simp [c0]
    have hr := Lib.hid (hE.out.trans (by simp [c0]) : R = false)
    clear hE
    generalize debtE xs = e at *
    clear c0
    go_enter Try.func59, Try.ntmps59
    go_wp2_with (first | (go_at_call 80; refine (G.out).mono ?_; rintro e w' ⟨rfl, rfl⟩) | (go_at_call 49; refine (In_any _ _ _ _).mono ?_; rintro e w' ⟨rfl, rfl⟩))
    go_ret
    exact Grew.intro (by rw [hr.out]; rfl) hb

set_option maxHeartbeats 2000000 in
theorem may_any (x : AAcc) (v : Value) (xs : List ADebt) (w : World) (h : Sl w v 2 xs.length (xs.flatMap ADebt.cells)) :
    Calls Try.prog 55 #[.agg #[I x.meter, I x.rev, I x.next, I x.month, I x.bought, I x.free, v]] w (Grew (.bool (accMay x xs)) w) := by
  have G := Lib.hid (fun W (hW : Sl W v 2 xs.length (xs.flatMap ADebt.cells)) => Total_any v xs W hW)
  have hE := Lib.hid (show accMay x xs = (decide (debtE xs = 0) && inB x.meter 0 49 && inB x.rev 0 15 && inB x.next 1 1048576 && inB x.month 0 2399 && inB x.bought 0 10000000 && inB x.free (-1) x.month) from rfl)
  have hb := boxed_below w (.cells #[I x.meter, I x.rev, I x.next, I x.month, I x.bought, I x.free, v] 39)
  have h1 := h.below hb
  obtain ⟨a, cap, rfl, _⟩ := h
  generalize accMay x xs = R at *
  generalize totalA xs = T at *
  obtain ⟨x1, x2, x3, x4, x5, x6⟩ := x
  simp only at *
  by_cases c0 : debtE xs = 0
  · rw [c0] at G
    rw [decide_eq_true c0, Bool.true_and] at hE
    clear c0
    cases c1 : inB x1 0 49
    · have hr := Lib.hid (hE.out.trans (by simp [c1]) : R = false)
      clear hE
      go_enter Try.func55, Try.ntmps55
      go_wp2_with fail
      refine (G.out _ h1).mono ?_
      rintro e w1 ⟨rfl, k1⟩
      have k := hb.trans (k1.mono hb.size)
      have cO := (Own.new rfl [I x1, I x2, I x3, I x4, I x5, I x6, .slice a xs.length cap] 39).below k1
      have c0 := cO.cell 0 (by simp)
      have cf0 := cO.frozen 0
      have c1 := cO.cell 1 (by simp)
      have cf1 := cO.frozen 1
      have c2 := cO.cell 2 (by simp)
      have cf2 := cO.frozen 2
      have c3 := cO.cell 3 (by simp)
      have cf3 := cO.frozen 3
      have c4 := cO.cell 4 (by simp)
      have cf4 := cO.frozen 4
      have c5 := cO.cell 5 (by simp)
      have cf5 := cO.frozen 5
      have c6 := cO.cell 6 (by simp)
      have cf6 := cO.frozen 6
      simp only [Nat.zero_add, List.getD_cons_zero, List.getD_cons_succ] at c0 c1 c2 c3 c4 c5 c6
      clear cO
      clear k1
      go_wp2_with (go_at_call 58; refine (awithin_any _ _ _ _).mono ?_; rintro e w' ⟨rfl, rfl⟩)
      go_ret
      exact Grew.intro (by rw [hr.out]; rfl) k
    cases c2 : inB x2 0 15
    · have hr := Lib.hid (hE.out.trans (by simp [c1, c2]) : R = false)
      clear hE
      go_enter Try.func55, Try.ntmps55
      go_wp2_with fail
      refine (G.out _ h1).mono ?_
      rintro e w1 ⟨rfl, k1⟩
      have k := hb.trans (k1.mono hb.size)
      have cO := (Own.new rfl [I x1, I x2, I x3, I x4, I x5, I x6, .slice a xs.length cap] 39).below k1
      have c0 := cO.cell 0 (by simp)
      have cf0 := cO.frozen 0
      have c1 := cO.cell 1 (by simp)
      have cf1 := cO.frozen 1
      have c2 := cO.cell 2 (by simp)
      have cf2 := cO.frozen 2
      have c3 := cO.cell 3 (by simp)
      have cf3 := cO.frozen 3
      have c4 := cO.cell 4 (by simp)
      have cf4 := cO.frozen 4
      have c5 := cO.cell 5 (by simp)
      have cf5 := cO.frozen 5
      have c6 := cO.cell 6 (by simp)
      have cf6 := cO.frozen 6
      simp only [Nat.zero_add, List.getD_cons_zero, List.getD_cons_succ] at c0 c1 c2 c3 c4 c5 c6
      clear cO
      clear k1
      go_wp2_with (go_at_call 58; refine (awithin_any _ _ _ _).mono ?_; rintro e w' ⟨rfl, rfl⟩)
      go_ret
      exact Grew.intro (by rw [hr.out]; rfl) k
    cases c3 : inB x3 1 1048576
    · have hr := Lib.hid (hE.out.trans (by simp [c1, c2, c3]) : R = false)
      clear hE
      go_enter Try.func55, Try.ntmps55
      go_wp2_with fail
      refine (G.out _ h1).mono ?_
      rintro e w1 ⟨rfl, k1⟩
      have k := hb.trans (k1.mono hb.size)
      have cO := (Own.new rfl [I x1, I x2, I x3, I x4, I x5, I x6, .slice a xs.length cap] 39).below k1
      have c0 := cO.cell 0 (by simp)
      have cf0 := cO.frozen 0
      have c1 := cO.cell 1 (by simp)
      have cf1 := cO.frozen 1
      have c2 := cO.cell 2 (by simp)
      have cf2 := cO.frozen 2
      have c3 := cO.cell 3 (by simp)
      have cf3 := cO.frozen 3
      have c4 := cO.cell 4 (by simp)
      have cf4 := cO.frozen 4
      have c5 := cO.cell 5 (by simp)
      have cf5 := cO.frozen 5
      have c6 := cO.cell 6 (by simp)
      have cf6 := cO.frozen 6
      simp only [Nat.zero_add, List.getD_cons_zero, List.getD_cons_succ] at c0 c1 c2 c3 c4 c5 c6
      clear cO
      clear k1
      go_wp2_with (go_at_call 58; refine (awithin_any _ _ _ _).mono ?_; rintro e w' ⟨rfl, rfl⟩)
      go_ret
      exact Grew.intro (by rw [hr.out]; rfl) k
    cases c4 : inB x4 0 2399
    · have hr := Lib.hid (hE.out.trans (by simp [c1, c2, c3, c4]) : R = false)
      clear hE
      go_enter Try.func55, Try.ntmps55
      go_wp2_with fail
      refine (G.out _ h1).mono ?_
      rintro e w1 ⟨rfl, k1⟩
      have k := hb.trans (k1.mono hb.size)
      have cO := (Own.new rfl [I x1, I x2, I x3, I x4, I x5, I x6, .slice a xs.length cap] 39).below k1
      have c0 := cO.cell 0 (by simp)
      have cf0 := cO.frozen 0
      have c1 := cO.cell 1 (by simp)
      have cf1 := cO.frozen 1
      have c2 := cO.cell 2 (by simp)
      have cf2 := cO.frozen 2
      have c3 := cO.cell 3 (by simp)
      have cf3 := cO.frozen 3
      have c4 := cO.cell 4 (by simp)
      have cf4 := cO.frozen 4
      have c5 := cO.cell 5 (by simp)
      have cf5 := cO.frozen 5
      have c6 := cO.cell 6 (by simp)
      have cf6 := cO.frozen 6
      simp only [Nat.zero_add, List.getD_cons_zero, List.getD_cons_succ] at c0 c1 c2 c3 c4 c5 c6
      clear cO
      clear k1
      go_wp2_with (go_at_call 58; refine (awithin_any _ _ _ _).mono ?_; rintro e w' ⟨rfl, rfl⟩)
      go_ret
      exact Grew.intro (by rw [hr.out]; rfl) k
    cases c5 : inB x5 0 10000000
    · have hr := Lib.hid (hE.out.trans (by simp [c1, c2, c3, c4, c5]) : R = false)
      clear hE
      go_enter Try.func55, Try.ntmps55
      go_wp2_with fail
      refine (G.out _ h1).mono ?_
      rintro e w1 ⟨rfl, k1⟩
      have k := hb.trans (k1.mono hb.size)
      have cO := (Own.new rfl [I x1, I x2, I x3, I x4, I x5, I x6, .slice a xs.length cap] 39).below k1
      have c0 := cO.cell 0 (by simp)
      have cf0 := cO.frozen 0
      have c1 := cO.cell 1 (by simp)
      have cf1 := cO.frozen 1
      have c2 := cO.cell 2 (by simp)
      have cf2 := cO.frozen 2
      have c3 := cO.cell 3 (by simp)
      have cf3 := cO.frozen 3
      have c4 := cO.cell 4 (by simp)
      have cf4 := cO.frozen 4
      have c5 := cO.cell 5 (by simp)
      have cf5 := cO.frozen 5
      have c6 := cO.cell 6 (by simp)
      have cf6 := cO.frozen 6
      simp only [Nat.zero_add, List.getD_cons_zero, List.getD_cons_succ] at c0 c1 c2 c3 c4 c5 c6
      clear cO
      clear k1
      go_wp2_with (go_at_call 58; refine (awithin_any _ _ _ _).mono ?_; rintro e w' ⟨rfl, rfl⟩)
      go_ret
      exact Grew.intro (by rw [hr.out]; rfl) k
    · have hr := Lib.hid (hE.out.trans (by simp [c1, c2, c3, c4, c5]) : R = inB x6 (-1) x4)
      clear hE
      go_enter Try.func55, Try.ntmps55
      go_wp2_with fail
      refine (G.out _ h1).mono ?_
      rintro e w1 ⟨rfl, k1⟩
      have k := hb.trans (k1.mono hb.size)
      have cO := (Own.new rfl [I x1, I x2, I x3, I x4, I x5, I x6, .slice a xs.length cap] 39).below k1
      have c0 := cO.cell 0 (by simp)
      have cf0 := cO.frozen 0
      have c1 := cO.cell 1 (by simp)
      have cf1 := cO.frozen 1
      have c2 := cO.cell 2 (by simp)
      have cf2 := cO.frozen 2
      have c3 := cO.cell 3 (by simp)
      have cf3 := cO.frozen 3
      have c4 := cO.cell 4 (by simp)
      have cf4 := cO.frozen 4
      have c5 := cO.cell 5 (by simp)
      have cf5 := cO.frozen 5
      have c6 := cO.cell 6 (by simp)
      have cf6 := cO.frozen 6
      simp only [Nat.zero_add, List.getD_cons_zero, List.getD_cons_succ] at c0 c1 c2 c3 c4 c5 c6
      clear cO
      clear k1
      go_wp2_with (go_at_call 58; refine (awithin_any _ _ _ _).mono ?_; rintro e w' ⟨rfl, rfl⟩)
      go_ret
      exact Grew.intro (by rw [hr.out]; rfl) k
  · have hb2 : (debtE xs == 0) = false := by simp [c0]
    have hr := Lib.hid (hE.out.trans (by simp [c0]) : R = false)
    clear hE
    generalize debtE xs = e0 at *
    clear c0
    go_enter Try.func55, Try.ntmps55
    go_wp2_with fail
    refine (G.out _ h1).mono ?_
    rintro e w1 ⟨rfl, k1⟩
    have k := hb.trans (k1.mono hb.size)
    have cO := (Own.new rfl [I x1, I x2, I x3, I x4, I x5, I x6, .slice a xs.length cap] 39).below k1
    have c0 := cO.cell 0 (by simp)
    have cf0 := cO.frozen 0
    have c1 := cO.cell 1 (by simp)
    have cf1 := cO.frozen 1
    have c2 := cO.cell 2 (by simp)
    have cf2 := cO.frozen 2
    have c3 := cO.cell 3 (by simp)
    have cf3 := cO.frozen 3
    have c4 := cO.cell 4 (by simp)
    have cf4 := cO.frozen 4
    have c5 := cO.cell 5 (by simp)
    have cf5 := cO.frozen 5
    have c6 := cO.cell 6 (by simp)
    have cf6 := cO.frozen 6
    simp only [Nat.zero_add, List.getD_cons_zero, List.getD_cons_succ] at c0 c1 c2 c3 c4 c5 c6
    clear cO
    clear k1
    go_wp2_with (go_at_call 58; refine (awithin_any _ _ _ _).mono ?_; rintro e w' ⟨rfl, rfl⟩)
    go_ret
    exact Grew.intro (by rw [hr.out]; rfl) k

theorem sameAccount_any (x : AAcc) (v1 v2 : Value) (xs : List ADebt) (w : World) (h1 : Sl w v1 2 xs.length (xs.flatMap ADebt.cells)) (h2 : Sl w v2 2 xs.length (xs.flatMap ADebt.cells)) :
    Calls Try.prog 28 #[.agg #[I x.meter, I x.rev, I x.next, I x.month, I x.bought, I x.free, v1], .agg #[I x.meter, I x.rev, I x.next, I x.month, I x.bought, I x.free, v2]] w (Grew (.bool true) w) := by
  have S := Lib.hid (fun W hW hW2 => sameDebts_any v1 v2 xs xs W hW hW2)
  obtain ⟨x1, x2, x3, x4, x5, x6⟩ := x
  simp only at *
  have hb1 := boxed_below w (.cells #[I x1, I x2, I x3, I x4, I x5, I x6, v1] 39)
  have hb := hb1.alloc hb1.size (.cells #[I x1, I x2, I x3, I x4, I x5, I x6, v2] 39)
  have g1 := h1.below hb
  have g2 := h2.below hb
  obtain ⟨a, cap, rfl, _⟩ := h1
  obtain ⟨a2, cap2, rfl, _⟩ := h2
  clear hb1
  go_enter Try.func28, Try.ntmps28
  go_wp2_with fail
  refine (S.out _ g1 g2).mono ?_
  rintro e w1 ⟨rfl, k1⟩
  have k := hb.trans (k1.mono hb.size)
  clear k1
  go_wp2
  go_ret
  exact Grew.intro (by simp) k

/-- an account comes back, its debts in new memory, and a number -/
def GrewAcc (x : AAcc) (xs : List ADebt) (k : Int) (w : World) (e : Ending) (w' : World) : Prop :=
  ∃ v, e = .returned (T2 (.agg #[I x.meter, I x.rev, I x.next, I x.month, I x.bought, I x.free, v]) (I k)) ∧ Sl w' v 2 xs.length (xs.flatMap ADebt.cells) ∧ Below w.heap.size w w'
/-- an account and a bill -/
def GrewAccB (x : AAcc) (xs : List ADebt) (m : ABill) (k : Int) (w : World) (e : Ending) (w' : World) : Prop :=
  ∃ v, e = .returned (T3 (.agg #[I x.meter, I x.rev, I x.next, I x.month, I x.bought, I x.free, v]) (.agg #[I m.id, I m.tender, I m.debt, I m.fee, I m.price, I m.change, I m.units]) (I k)) ∧ Sl w' v 2 xs.length (xs.flatMap ADebt.cells) ∧ Below w.heap.size w w'
def GrewAcc1 (x : AAcc) (xs : List ADebt) (w : World) (e : Ending) (w' : World) : Prop :=
  ∃ v, e = .returned (.agg #[I x.meter, I x.rev, I x.next, I x.month, I x.bought, I x.free, v]) ∧ Sl w' v 2 xs.length (xs.flatMap ADebt.cells) ∧ Below w.heap.size w w'
end Go.Proofs.Ytcpljkjibhindaa
