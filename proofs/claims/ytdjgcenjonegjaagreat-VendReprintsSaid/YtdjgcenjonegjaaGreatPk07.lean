/- debts: faults and totals · values that lie nowhere below a bound · sameDebts: are two lists the same? (made by wip/bin/gen_api.py) · debts: new memory for a list (made by wip/bin/gen_api.py) · accounts: which may be · accounts: new memory · ref.AccountCopy -/
import Derived.Test.YtdjgcenjonegjaaGreatPk01
import Derived.Test.YtdjgcenjonegjaaGreatPk06
import Derived.Test.YtdjgcenjonegjaaGreatPk05
import Derived.Test.YtdjgcenjonegjaaGreatOwn
set_option maxRecDepth 20000
set_option maxHeartbeats 8000000
set_option linter.unusedSimpArgs false
set_option linter.unusedVariables false
namespace Go.Proofs.YtdjgcenjonegjaaGreat
section
open Go.RowKit

def okDebt (d : ADebt) : Bool := inB d.owed 0 1000000000 && inB d.bp 0 10000
def debtE (xs : List ADebt) : Int := if 8 < xs.length then 1 else if xs.all okDebt then 0 else 2
theorem all_take_succ {α : Type} [Inhabited α] {p : α → Bool} {xs : List α} {k : Nat} (hk : k < xs.length) (h : (xs.take k).all p = true) (hp : p (xs.getD k default) = true) : (xs.take (k + 1)).all p = true := by
  rw [List.take_add_one, List.all_append, h, List.getElem?_eq_getElem hk]; simpa [List.getD_eq_getElem?_getD, List.getElem?_eq_getElem hk] using hp
theorem all_false_at {α : Type} [Inhabited α] {p : α → Bool} {xs : List α} {k : Nat} (hk : k < xs.length) (hp : p (xs.getD k default) = false) : xs.all p = false := by
  rw [List.all_eq_false]; refine ⟨xs[k], List.getElem_mem hk, ?_⟩; simpa [List.getD_eq_getElem?_getD, List.getElem?_eq_getElem hk] using hp
theorem okDebt_true {d : ADebt} : okDebt d = true ↔ 0 ≤ d.owed ∧ d.owed ≤ 1000000000 ∧ 0 ≤ d.bp ∧ d.bp ≤ 10000 := by simp [okDebt, inB, and_assoc]
theorem okDebt_false {d : ADebt} : okDebt d = false ↔ d.owed < 0 ∨ 0 ≤ d.owed ∧ (1000000000 < d.owed ∨ d.owed ≤ 1000000000 ∧ (d.bp < 0 ∨ 0 ≤ d.bp ∧ 10000 < d.bp)) := by
  rw [← Bool.not_eq_true, okDebt_true]; omega

theorem fault_any (v : Value) (xs : List ADebt) (w : World) (h : Sl w v 2 xs.length (xs.flatMap ADebt.cells)) :
    Calls Tryz.prog 149 #[v] w (Grew (I (debtE xs)) w) := by
  obtain ⟨a, cap, rfl, hn, hl, h0, h⟩ := h
  by_cases h8 : 8 < xs.length
  · have hE : debtE xs = 1 := by simp [debtE, h8]
    have h8' : (8 : Int) < (xs.length : Int) := by omega
    rw [hE]; clear hE h h0 hl; go_enter Tryz.func149, Tryz.ntmps149; go_wp2; go_ret; exact Grew.intro rfl (Below.refl _ _)
  · have h8' : ¬ (8 : Int) < (xs.length : Int) := by omega
    have hE : debtE xs = if xs.all okDebt then 0 else 2 := by simp only [debtE, if_neg h8]
    have HE := Lib.hid hE; clear hE h0 hl; go_enter Tryz.func149, Tryz.ntmps149; go_wp2
    go_loopw [10] (fun i wr => ∃ k : Nat, k ≤ xs.length ∧ i = I k ∧ Hid ((xs.take k).all okDebt = true) ∧ Below w.heap.size w wr) (fun i _ => xs.length - (intOf i).toNat)
    case atStart => exact ⟨0, Nat.zero_le _, rfl, rfl, Below.refl _ _⟩
    case round =>
      obtain ⟨k, hk, rfl, hall, hbw⟩ := hrel; have hsz := hbw.size
      by_cases hlt : k < xs.length
      · obtain ⟨b, off, rfl, hb, hc⟩ := h.resolve_left (by omega)
        obtain ⟨e0, e1⟩ := elDebt hb hc hbw k hlt; have hi0 : (0 : Int) ≤ (k : Int) := by omega
        have hi1 : (k : Int) < (xs.length : Int) := by omega
        have hgood := Lib.hid (fun hp => all_take_succ (p := okDebt) hlt hall.out hp); have hbad := Lib.hid (fun hp => all_false_at (p := okDebt) hlt hp); clear h hc; generalize xs.getD k default = x at *; cases hq : okDebt x
        · have hA := Lib.hid (hbad.out hq)
          rcases okDebt_false.1 hq with q | ⟨q0, q | ⟨q1, q | ⟨q2, q⟩⟩⟩
          all_goals
            clear hq hgood hbad; go_wp2; go_ret; exact Grew.intro (eI (by rw [HE.out, hA.out]; rfl)) (hbw.alloc hsz _)
        · obtain ⟨q0, q1, q2, q3⟩ := okDebt_true.1 hq
          have hA := Lib.hid (hgood.out hq); clear hq hgood hbad; go_wp2; exact ⟨⟨k + 1, by omega, by go_num, hA.out, hbw.alloc hsz _⟩, by simp [intOf]; omega⟩
      · have hA := Lib.hid (show xs.all okDebt = true by have := hall.out; rwa [List.take_of_length_le (by omega)] at this)
        clear hall h; have hge : (xs.length : Int) ≤ (k : Int) := by omega
        go_wp2; go_ret; exact Grew.intro (eI (by rw [HE.out, hA.out]; rfl)) hbw

def sumTo (xs : List ADebt) (k : Nat) : Int := ((xs.take k).map (·.owed)).sum
def debtSum (xs : List ADebt) : Int := (xs.map (·.owed)).sum
def totalA (xs : List ADebt) : Int := if debtE xs = 0 then debtSum xs else 0
theorem sumTo_succ {xs : List ADebt} {k : Nat} (hk : k < xs.length) : sumTo xs (k + 1) = sumTo xs k + (xs.getD k default).owed := by
  unfold sumTo; rw [List.take_add_one, List.map_append, List.sum_append, List.getElem?_eq_getElem hk, List.getD_eq_getElem?_getD, List.getElem?_eq_getElem hk]; simp
theorem okAt {xs : List ADebt} (h : xs.all okDebt = true) {k : Nat} (hk : k < xs.length) : okDebt (xs.getD k default) = true := by
  rw [List.getD_eq_getElem?_getD, List.getElem?_eq_getElem hk]; exact List.all_eq_true.1 h _ (List.getElem_mem hk)
theorem sumTo_bd {xs : List ADebt} (h : xs.all okDebt = true) (k : Nat) (hk : k ≤ xs.length) : 0 ≤ sumTo xs k ∧ sumTo xs k ≤ 1000000000 * (k : Int) := by
  induction k with
  | zero => simp [sumTo]
  | succ k ih =>
    have := ih (by omega); have o := okDebt_true.1 (okAt h (show k < xs.length by omega)); rw [sumTo_succ (by omega)]; omega
theorem sumTo_all (xs : List ADebt) : sumTo xs xs.length = debtSum xs := by simp [sumTo, debtSum]
theorem debtE_zero {xs : List ADebt} (h : debtE xs = 0) : xs.length ≤ 8 ∧ xs.all okDebt = true := by
  unfold debtE at h
  split at h
  · cases h
  · split at h
    · exact ⟨by omega, by assumption⟩
    · cases h

theorem total_any (v : Value) (xs : List ADebt) (w : World) (h : Sl w v 2 xs.length (xs.flatMap ADebt.cells)) (h8 : xs.length ≤ 8) (hok : xs.all okDebt = true) :
    Calls Tryz.prog 150 #[v] w (Grew (I (debtSum xs)) w) := by
  have Hok := Lib.hid hok; clear hok; obtain ⟨a, cap, rfl, hn, hl, h0, h⟩ := h; clear hl h0; go_enter Tryz.func150, Tryz.ntmps150; go_wp2
  go_loopw [3, 8] (fun n i wr => ∃ k : Nat, k ≤ xs.length ∧ i = I k ∧ n = I (sumTo xs k) ∧ Below w.heap.size w wr) (fun _ i _ => xs.length - (intOf i).toNat)
  case atStart => exact ⟨0, Nat.zero_le _, rfl, rfl, Below.refl _ _⟩
  case round =>
    obtain ⟨k, hk, rfl, rfl, hbw⟩ := hrel; have hsz := hbw.size; obtain ⟨s0, s1⟩ := sumTo_bd Hok.out k hk
    by_cases hlt : k < xs.length
    · obtain ⟨b, off, rfl, hb, hc⟩ := h.resolve_left (by omega)
      obtain ⟨e0, e1⟩ := elDebt hb hc hbw k hlt; obtain ⟨q0, q1, q2, q3⟩ := okDebt_true.1 (okAt Hok.out hlt); have hs := Lib.hid (sumTo_succ hlt); have hi0 : (0 : Int) ≤ (k : Int) := by omega
      have hi1 : (k : Int) < (xs.length : Int) := by omega
      clear h hc; generalize xs.getD k default = x at *; go_wp2; exact ⟨⟨k + 1, by omega, by go_num, eI (by rw [hs.out]), hbw.alloc hsz _⟩, by simp [intOf]; omega⟩
    · have hA := Lib.hid (show sumTo xs k = debtSum xs by rw [show k = xs.length by omega]; exact sumTo_all xs)
      have hge : (xs.length : Int) ≤ (k : Int) := by omega
      clear h; go_wp2; go_ret; exact Grew.intro (eI hA.out) hbw

theorem Total_any (v : Value) (xs : List ADebt) (w : World) (h : Sl w v 2 xs.length (xs.flatMap ADebt.cells)) :
    Calls Tryz.prog 109 #[v] w (Grew (T2 (I (totalA xs)) (I (debtE xs))) w) := by
  by_cases hE : debtE xs = 0
  · obtain ⟨h8, hok⟩ := debtE_zero hE
    have hA : totalA xs = debtSum xs := by simp [totalA, hE]
    have C := Lib.hid (fun W (hW : Sl W v 2 xs.length (xs.flatMap ADebt.cells)) => total_any v xs W hW h8 hok); have F := Lib.hid (fun W (hW : Sl W v 2 xs.length (xs.flatMap ADebt.cells)) => fault_any v xs W hW); rw [hE] at F ⊢; rw [hA]; clear hA hE h8 hok; go_enter Tryz.func109, Tryz.ntmps109
    go_wp2_with fail
    refine (F.out _ h).mono ?_; rintro e w1 ⟨rfl, k1⟩; have h1 := h.below k1
    go_wp2_with fail
    refine (C.out _ h1).mono ?_; rintro e w2 ⟨rfl, k2⟩; go_wp2; go_ret2; exact Grew.intro rfl (k1.trans (k2.mono k1.size))
  · have hA : totalA xs = 0 := by simp [totalA, hE]
    have hb : (debtE xs != 0) = true := by simp [hE]
    rw [hA]; clear hA hE; go_enter Tryz.func109, Tryz.ntmps109
    go_wp2_with fail
    refine (fault_any v xs _ h).mono ?_; rintro e w1 ⟨rfl, k1⟩; go_wp2; go_ret2; exact Grew.intro rfl k1

theorem DebtFault_any (v : Value) (xs : List ADebt) (w : World) (h : Sl w v 2 xs.length (xs.flatMap ADebt.cells)) :
    Calls Tryz.prog 111 #[v] w (Pure (I (debtE xs)) w) := by
  obtain ⟨a, cap, rfl, hn, hl, h0, h⟩ := h
  by_cases h8 : 8 < xs.length
  · have hE : debtE xs = 1 := by simp [debtE, h8]
    have h8' : (8 : Int) < (xs.length : Int) := by omega
    rw [hE]; clear hE h h0 hl; go_enter Tryz.func111, Tryz.ntmps111; go_wp2; go_ret; exact Pure.intro rfl
  · have h8' : ¬ (8 : Int) < (xs.length : Int) := by omega
    have hE : debtE xs = if xs.all okDebt then 0 else 2 := by simp only [debtE, if_neg h8]
    have HE := Lib.hid hE; clear hE h0 hl; go_enter Tryz.func111, Tryz.ntmps111; go_wp2
    go_loop [3] (fun i => ∃ k : Nat, k ≤ xs.length ∧ i = I k ∧ Hid ((xs.take k).all okDebt = true)) (fun i => xs.length - (intOf i).toNat)
    case atStart => exact ⟨0, Nat.zero_le _, rfl, rfl⟩
    case round =>
      obtain ⟨k, hk, rfl, hall⟩ := hrel
      by_cases hlt : k < xs.length
      · obtain ⟨b, off, rfl, hb, hc⟩ := h.resolve_left (by omega)
        obtain ⟨e0, e1⟩ := elDebt hb hc (Below.refl _ _) k hlt; have hi0 : (0 : Int) ≤ (k : Int) := by omega
        have hi1 : (k : Int) < (xs.length : Int) := by omega
        have hgood := Lib.hid (fun hp => all_take_succ (p := okDebt) hlt hall.out hp); have hbad := Lib.hid (fun hp => all_false_at (p := okDebt) hlt hp); clear h hc; generalize xs.getD k default = x at *; cases p1 : inB x.owed 0 1000000000
        · have hA := Lib.hid (hbad.out (by simp [okDebt, p1]))
          clear hgood hbad
          go_wp2_with (go_at_call 57; refine (In_any _ _ _ _).mono ?_; rintro e w' ⟨rfl, rfl⟩)
          go_ret; exact Pure.intro (eI (by rw [HE.out, hA.out]; rfl))
        · cases p2 : inB x.bp 0 10000
          · have hA := Lib.hid (hbad.out (by simp [okDebt, p1, p2]))
            clear hgood hbad
            go_wp2_with (go_at_call 57; refine (In_any _ _ _ _).mono ?_; rintro e w' ⟨rfl, rfl⟩)
            go_ret; exact Pure.intro (eI (by rw [HE.out, hA.out]; rfl))
          · have hA := Lib.hid (hgood.out (by simp [okDebt, p1, p2]))
            clear hgood hbad
            go_wp2_with (go_at_call 57; refine (In_any _ _ _ _).mono ?_; rintro e w' ⟨rfl, rfl⟩)
            go_round
            case rel => exact ⟨k + 1, by omega, by go_num, hA.out⟩
            case measure => simp [intOf]; omega
      · have hA := Lib.hid (show xs.all okDebt = true by have := hall.out; rwa [List.take_of_length_le (by omega)] at this)
        clear hall h; have hge : (xs.length : Int) ≤ (k : Int) := by omega
        go_wp2; go_ret; exact Pure.intro (eI (by rw [HE.out, hA.out]; rfl))
end
section
open Go.RowKit
/-- v lies nowhere below block B -/
def FarB (B : Nat) (v : Value) : Prop := ∀ a n c, v = .slice (some a) n c → B ≤ a.block
theorem FarB.nil (B n c : Nat) : FarB B (.slice none n c) := by intro a n c h; cases h
theorem FarB.lit {B g o n c : Nat} (h : B ≤ g) : FarB B (.slice (some ⟨g, o, none⟩) n c) := by intro a n c e; cases e; exact h
theorem FarB.of_owns {w : World} {base e sz n : Nat} {v : Value} {cs : List Value} (h : w.ownsRow base e sz v n cs) : FarB base v := by
  rintro a m c rfl; exact (h.lt a.block rfl).1
theorem FarB.far {B z : Nat} {v : Value} (h : FarB B v) (hz : z < B) : Far z v := by
  intro a n c e; have := h a n c e; omega
theorem FarB.mono {B C : Nat} {v : Value} (h : FarB B v) (hC : C ≤ B) : FarB C v := fun a n c e => Nat.le_trans hC (h a n c e)
end
section
open Go.RowKit

end
section
open Go.RowKit

theorem info_debts : (Tryz.prog.info? 46).map (fun i => (i.zero, i.size, i.bytes)) = some (some (.agg #[.int .i64 0, .int .i64 0]), 2, 16) := by kernel_rfl

end
section
open Go.RowKit

def accMay (x : AAcc) (xs : List ADebt) : Bool :=
  decide (debtE xs = 0) && inB x.meter 0 49 && inB x.rev 0 15 && inB x.next 1 1048576 && inB x.month 0 2399 && inB x.bought 0 10000000 && inB x.free (-1) x.month

theorem awithin_any (n low high : Int) (w : World) : Calls Tryz.prog 110 #[I n, I low, I high] w (Pure (.bool (inB n low high)) w) := by
  go_enter Tryz.func110, Tryz.ntmps110; go_wp2
  all_goals
    go_ret; refine Pure.intro ?_; simp only [inB]; simp [*]
    try omega

theorem AccountMay_any (x : AAcc) (v : Value) (xs : List ADebt) (w : World) (h : Sl w v 2 xs.length (xs.flatMap ADebt.cells)) :
    Calls Tryz.prog 54 #[.agg #[I x.meter, I x.rev, I x.next, I x.month, I x.bought, I x.free, v]] w (Grew (.bool (accMay x xs)) w) := by
  have F := Lib.hid (fun W (hW : Sl W v 2 xs.length (xs.flatMap ADebt.cells)) => DebtFault_any v xs W hW); have hE := Lib.hid (show accMay x xs = (decide (debtE xs = 0) && inB x.meter 0 49 && inB x.rev 0 15 && inB x.next 1 1048576 && inB x.month 0 2399 && inB x.bought 0 10000000 && inB x.free (-1) x.month) from rfl); have hb := boxed_below w (.cells #[I x.meter, I x.rev, I x.next, I x.month, I x.bought, I x.free, v] 64); have h1 := h.below hb; have G := Lib.hid (F.out _ h1); obtain ⟨a, cap, rfl, _⟩ := h; clear h1 F; generalize accMay x xs = R at *; obtain ⟨x1, x2, x3, x4, x5, x6⟩ := x; simp only at *
  by_cases c0 : debtE xs = 0
  · rw [c0] at G
    rw [decide_eq_true c0, Bool.true_and] at hE; clear c0; cases c1 : inB x1 0 49
    · have hr := Lib.hid (hE.out.trans (by simp [c1]) : R = false)
      clear hE; go_enter Tryz.func54, Tryz.ntmps54
      go_wp2_with (first | (go_at_call 111; refine (G.out).mono ?_; rintro e w' ⟨rfl, rfl⟩) | (go_at_call 57; refine (In_any _ _ _ _).mono ?_; rintro e w' ⟨rfl, rfl⟩))
      go_ret; exact Grew.intro (by rw [hr.out]; rfl) hb
    cases c2 : inB x2 0 15
    · have hr := Lib.hid (hE.out.trans (by simp [c1, c2]) : R = false)
      clear hE; go_enter Tryz.func54, Tryz.ntmps54
      go_wp2_with (first | (go_at_call 111; refine (G.out).mono ?_; rintro e w' ⟨rfl, rfl⟩) | (go_at_call 57; refine (In_any _ _ _ _).mono ?_; rintro e w' ⟨rfl, rfl⟩))
      go_ret; exact Grew.intro (by rw [hr.out]; rfl) hb
    cases c3 : inB x3 1 1048576
    · have hr := Lib.hid (hE.out.trans (by simp [c1, c2, c3]) : R = false)
      clear hE; go_enter Tryz.func54, Tryz.ntmps54
      go_wp2_with (first | (go_at_call 111; refine (G.out).mono ?_; rintro e w' ⟨rfl, rfl⟩) | (go_at_call 57; refine (In_any _ _ _ _).mono ?_; rintro e w' ⟨rfl, rfl⟩))
      go_ret; exact Grew.intro (by rw [hr.out]; rfl) hb
    cases c4 : inB x4 0 2399
    · have hr := Lib.hid (hE.out.trans (by simp [c1, c2, c3, c4]) : R = false)
      clear hE; go_enter Tryz.func54, Tryz.ntmps54
      go_wp2_with (first | (go_at_call 111; refine (G.out).mono ?_; rintro e w' ⟨rfl, rfl⟩) | (go_at_call 57; refine (In_any _ _ _ _).mono ?_; rintro e w' ⟨rfl, rfl⟩))
      go_ret; exact Grew.intro (by rw [hr.out]; rfl) hb
    cases c5 : inB x5 0 10000000
    · have hr := Lib.hid (hE.out.trans (by simp [c1, c2, c3, c4, c5]) : R = false)
      clear hE; go_enter Tryz.func54, Tryz.ntmps54
      go_wp2_with (first | (go_at_call 111; refine (G.out).mono ?_; rintro e w' ⟨rfl, rfl⟩) | (go_at_call 57; refine (In_any _ _ _ _).mono ?_; rintro e w' ⟨rfl, rfl⟩))
      go_ret; exact Grew.intro (by rw [hr.out]; rfl) hb
    · have hr := Lib.hid (hE.out.trans (by simp [c1, c2, c3, c4, c5]) : R = inB x6 (-1) x4)
      clear hE; go_enter Tryz.func54, Tryz.ntmps54
      go_wp2_with (first | (go_at_call 111; refine (G.out).mono ?_; rintro e w' ⟨rfl, rfl⟩) | (go_at_call 57; refine (In_any _ _ _ _).mono ?_; rintro e w' ⟨rfl, rfl⟩))
      go_ret; exact Grew.intro (by rw [hr.out]; rfl) hb
  · have hb2 : (debtE xs != 0) = true := by simp [c0]
    have hr := Lib.hid (hE.out.trans (by simp [c0]) : R = false); clear hE; generalize debtE xs = e at *; clear c0; go_enter Tryz.func54, Tryz.ntmps54
    go_wp2_with (first | (go_at_call 111; refine (G.out).mono ?_; rintro e w' ⟨rfl, rfl⟩) | (go_at_call 57; refine (In_any _ _ _ _).mono ?_; rintro e w' ⟨rfl, rfl⟩))
    go_ret; exact Grew.intro (by rw [hr.out]; rfl) hb

theorem may_any (x : AAcc) (v : Value) (xs : List ADebt) (w : World) (h : Sl w v 2 xs.length (xs.flatMap ADebt.cells)) :
    Calls Tryz.prog 53 #[.agg #[I x.meter, I x.rev, I x.next, I x.month, I x.bought, I x.free, v]] w (Grew (.bool (accMay x xs)) w) := by
  have G := Lib.hid (fun W (hW : Sl W v 2 xs.length (xs.flatMap ADebt.cells)) => Total_any v xs W hW); have hE := Lib.hid (show accMay x xs = (decide (debtE xs = 0) && inB x.meter 0 49 && inB x.rev 0 15 && inB x.next 1 1048576 && inB x.month 0 2399 && inB x.bought 0 10000000 && inB x.free (-1) x.month) from rfl); have hb := boxed_below w (.cells #[I x.meter, I x.rev, I x.next, I x.month, I x.bought, I x.free, v] 64); have h1 := h.below hb; obtain ⟨a, cap, rfl, _⟩ := h; generalize accMay x xs = R at *; generalize totalA xs = T at *; obtain ⟨x1, x2, x3, x4, x5, x6⟩ := x; simp only at *
  by_cases c0 : debtE xs = 0
  · rw [c0] at G
    rw [decide_eq_true c0, Bool.true_and] at hE; clear c0; cases c1 : inB x1 0 49
    · have hr := Lib.hid (hE.out.trans (by simp [c1]) : R = false)
      clear hE; go_enter Tryz.func53, Tryz.ntmps53
      go_wp2_with fail
      refine (G.out _ h1).mono ?_; rintro e w1 ⟨rfl, k1⟩; have k := hb.trans (k1.mono hb.size); have cO := (Own.new rfl [I x1, I x2, I x3, I x4, I x5, I x6, .slice a xs.length cap] 64).below k1; have cA := cO.s7; clear cO; clear k1
      go_wp2_with (go_at_call 110; refine (awithin_any _ _ _ _).mono ?_; rintro e w' ⟨rfl, rfl⟩)
      go_ret; exact Grew.intro (by rw [hr.out]; rfl) k
    cases c2 : inB x2 0 15
    · have hr := Lib.hid (hE.out.trans (by simp [c1, c2]) : R = false)
      clear hE; go_enter Tryz.func53, Tryz.ntmps53
      go_wp2_with fail
      refine (G.out _ h1).mono ?_; rintro e w1 ⟨rfl, k1⟩; have k := hb.trans (k1.mono hb.size); have cO := (Own.new rfl [I x1, I x2, I x3, I x4, I x5, I x6, .slice a xs.length cap] 64).below k1; have cA := cO.s7; clear cO; clear k1
      go_wp2_with (go_at_call 110; refine (awithin_any _ _ _ _).mono ?_; rintro e w' ⟨rfl, rfl⟩)
      go_ret; exact Grew.intro (by rw [hr.out]; rfl) k
    cases c3 : inB x3 1 1048576
    · have hr := Lib.hid (hE.out.trans (by simp [c1, c2, c3]) : R = false)
      clear hE; go_enter Tryz.func53, Tryz.ntmps53
      go_wp2_with fail
      refine (G.out _ h1).mono ?_; rintro e w1 ⟨rfl, k1⟩; have k := hb.trans (k1.mono hb.size); have cO := (Own.new rfl [I x1, I x2, I x3, I x4, I x5, I x6, .slice a xs.length cap] 64).below k1; have cA := cO.s7; clear cO; clear k1
      go_wp2_with (go_at_call 110; refine (awithin_any _ _ _ _).mono ?_; rintro e w' ⟨rfl, rfl⟩)
      go_ret; exact Grew.intro (by rw [hr.out]; rfl) k
    cases c4 : inB x4 0 2399
    · have hr := Lib.hid (hE.out.trans (by simp [c1, c2, c3, c4]) : R = false)
      clear hE; go_enter Tryz.func53, Tryz.ntmps53
      go_wp2_with fail
      refine (G.out _ h1).mono ?_; rintro e w1 ⟨rfl, k1⟩; have k := hb.trans (k1.mono hb.size); have cO := (Own.new rfl [I x1, I x2, I x3, I x4, I x5, I x6, .slice a xs.length cap] 64).below k1; have cA := cO.s7; clear cO; clear k1
      go_wp2_with (go_at_call 110; refine (awithin_any _ _ _ _).mono ?_; rintro e w' ⟨rfl, rfl⟩)
      go_ret; exact Grew.intro (by rw [hr.out]; rfl) k
    cases c5 : inB x5 0 10000000
    · have hr := Lib.hid (hE.out.trans (by simp [c1, c2, c3, c4, c5]) : R = false)
      clear hE; go_enter Tryz.func53, Tryz.ntmps53
      go_wp2_with fail
      refine (G.out _ h1).mono ?_; rintro e w1 ⟨rfl, k1⟩; have k := hb.trans (k1.mono hb.size); have cO := (Own.new rfl [I x1, I x2, I x3, I x4, I x5, I x6, .slice a xs.length cap] 64).below k1; have cA := cO.s7; clear cO; clear k1
      go_wp2_with (go_at_call 110; refine (awithin_any _ _ _ _).mono ?_; rintro e w' ⟨rfl, rfl⟩)
      go_ret; exact Grew.intro (by rw [hr.out]; rfl) k
    · have hr := Lib.hid (hE.out.trans (by simp [c1, c2, c3, c4, c5]) : R = inB x6 (-1) x4)
      clear hE; go_enter Tryz.func53, Tryz.ntmps53
      go_wp2_with fail
      refine (G.out _ h1).mono ?_; rintro e w1 ⟨rfl, k1⟩; have k := hb.trans (k1.mono hb.size); have cO := (Own.new rfl [I x1, I x2, I x3, I x4, I x5, I x6, .slice a xs.length cap] 64).below k1; have cA := cO.s7; clear cO; clear k1
      go_wp2_with (go_at_call 110; refine (awithin_any _ _ _ _).mono ?_; rintro e w' ⟨rfl, rfl⟩)
      go_ret; exact Grew.intro (by rw [hr.out]; rfl) k
  · have hb2 : (debtE xs == 0) = false := by simp [c0]
    have hr := Lib.hid (hE.out.trans (by simp [c0]) : R = false); clear hE; generalize debtE xs = e0 at *; clear c0; go_enter Tryz.func53, Tryz.ntmps53
    go_wp2_with fail
    refine (G.out _ h1).mono ?_; rintro e w1 ⟨rfl, k1⟩; have k := hb.trans (k1.mono hb.size); have cO := (Own.new rfl [I x1, I x2, I x3, I x4, I x5, I x6, .slice a xs.length cap] 64).below k1; have cA := cO.s7; clear cO; clear k1
    go_wp2_with (go_at_call 110; refine (awithin_any _ _ _ _).mono ?_; rintro e w' ⟨rfl, rfl⟩)
    go_ret; exact Grew.intro (by rw [hr.out]; rfl) k

/-- an account comes back, its debts in new memory, and a number -/
def GrewAcc (x : AAcc) (xs : List ADebt) (k : Int) (w : World) (e : Ending) (w' : World) : Prop :=
  ∃ v, e = .returned (T2 (.agg #[I x.meter, I x.rev, I x.next, I x.month, I x.bought, I x.free, v]) (I k)) ∧ Sl w' v 2 xs.length (xs.flatMap ADebt.cells) ∧ Below w.heap.size w w'
/-- an account and a bill -/
def GrewAccB (x : AAcc) (xs : List ADebt) (m : ABill) (k : Int) (w : World) (e : Ending) (w' : World) : Prop :=
  ∃ v, e = .returned (T3 (.agg #[I x.meter, I x.rev, I x.next, I x.month, I x.bought, I x.free, v]) (.agg #[I m.id, I m.tender, I m.debt, I m.fee, I m.price, I m.change, I m.units]) (I k)) ∧ Sl w' v 2 xs.length (xs.flatMap ADebt.cells) ∧ Below w.heap.size w w'
def GrewAcc1 (x : AAcc) (xs : List ADebt) (w : World) (e : Ending) (w' : World) : Prop :=
  ∃ v, e = .returned (.agg #[I x.meter, I x.rev, I x.next, I x.month, I x.bought, I x.free, v]) ∧ Sl w' v 2 xs.length (xs.flatMap ADebt.cells) ∧ Below w.heap.size w w'
/-- .. its debts nowhere below what was there -/
def GrewAccF (x : AAcc) (xs : List ADebt) (k : Int) (w : World) (e : Ending) (w' : World) : Prop :=
  ∃ v, e = .returned (T2 (.agg #[I x.meter, I x.rev, I x.next, I x.month, I x.bought, I x.free, v]) (I k)) ∧ Sl w' v 2 xs.length (xs.flatMap ADebt.cells) ∧ Below w.heap.size w w' ∧ FarB w.heap.size v
/-- .. its debts nowhere below what was there -/
def GrewAccBF (x : AAcc) (xs : List ADebt) (b : ABill) (k : Int) (w : World) (e : Ending) (w' : World) : Prop :=
  ∃ v, e = .returned (T3 (.agg #[I x.meter, I x.rev, I x.next, I x.month, I x.bought, I x.free, v]) (.agg #[I b.id, I b.tender, I b.debt, I b.fee, I b.price, I b.change, I b.units]) (I k)) ∧ Sl w' v 2 xs.length (xs.flatMap ADebt.cells) ∧ Below w.heap.size w w' ∧ FarB w.heap.size v
end
section
open Go.RowKit

theorem owns_set {w : World} {base e sz n g j : Nat} {v : Value} {cs : List Value} (h : w.ownsRow base e sz v n cs) (hg : g < base) (x : Value) : (w.setCell ⟨g, j, none⟩ x).ownsRow base e sz v n cs := ownsRow_setCell_below h (a := ⟨g, j, none⟩) hg x

end
section
open Go.RowKit

/-- an account comes back, its debts in memory of their own -/
def GrewAccO (x : AAcc) (xs : List ADebt) (w : World) (e : Ending) (w' : World) : Prop :=
  ∃ v, e = .returned (.agg #[I x.meter, I x.rev, I x.next, I x.month, I x.bought, I x.free, v]) ∧ w'.ownsRow (w.heap.size + 2) 46 2 v xs.length (xs.flatMap ADebt.cells) ∧ Below w.heap.size w w'
theorem flat_takeD {xs : List ADebt} {k : Nat} (hk : k < xs.length) : (xs.take (k + 1)).flatMap ADebt.cells = (xs.take k).flatMap ADebt.cells ++ (xs.getD k default).cells := by
  rw [List.take_add_one, List.flatMap_append, List.getElem?_eq_getElem hk, List.getD_eq_getElem?_getD, List.getElem?_eq_getElem hk]; simp
theorem AccountCopy_any (x : AAcc) (v : Value) (xs : List ADebt) (w : World) (h : Sl w v 2 xs.length (xs.flatMap ADebt.cells)) (h8 : xs.length ≤ 8) :
    Calls Tryz.prog 61 #[.agg #[I x.meter, I x.rev, I x.next, I x.month, I x.bought, I x.free, v]] w (GrewAccO x xs w) := by
  obtain ⟨i0, hi, hz0, hz1, hz2⟩ := info_parts info_debts; obtain ⟨x1, x2, x3, x4, x5, x6⟩ := x; simp only [GrewAccO] at *; have hb1 := boxed_below w (.cells #[I x1, I x2, I x3, I x4, I x5, I x6, v] 64); have hb := hb1.alloc hb1.size (.cells #[I 0, I 0, I 0, I 0, I 0, I 0, .slice none 0 0] 64); have h1 := h.below hb; obtain ⟨a, cap, rfl, -⟩ := h; obtain ⟨a', cap', hv, hn, hl, h0, hr⟩ := h1; injection hv with e1 e2 e3
  subst e1 e3; clear hb1 e2 hl h0; have oc := (Own.new rfl [I x1, I x2, I x3, I x4, I x5, I x6, .slice a xs.length cap] 64 (w := w)).alloc (.cells #[I 0, I 0, I 0, I 0, I 0, I 0, .slice none 0 0] 64); have od := Own.new (w := w.alloc (.cells #[I x1, I x2, I x3, I x4, I x5, I x6, .slice a xs.length cap] 64)) (g := w.heap.size + 1) (by simp) [I 0, I 0, I 0, I 0, I 0, I 0, .slice none 0 0] 64; go_enter Tryz.func61, Tryz.ntmps61; go_wp2; have hsw : ((w.alloc (.cells #[I x1, I x2, I x3, I x4, I x5, I x6, .slice a xs.length cap] 64)).alloc (.cells #[I 0, I 0, I 0, I 0, I 0, I 0, .slice none 0 0] 64)).heap.size = w.heap.size + 2 := by simp
  generalize hW0 : ((w.alloc (.cells #[I x1, I x2, I x3, I x4, I x5, I x6, .slice a xs.length cap] 64)).alloc (.cells #[I 0, I 0, I 0, I 0, I 0, I 0, .slice none 0 0] 64)) = W0 at *; clear hW0
  go_loopw [3, 4] (fun v i wr => ∃ k : Nat, k ≤ xs.length ∧ i = I k ∧ Hid (wr.ownsRow (w.heap.size + 2) 46 2 v (xs.take k).length ((xs.take k).flatMap ADebt.cells)) ∧ Below W0.heap.size W0 wr) (fun _ i _ => xs.length - (intOf i).toNat)
  case atStart => exact ⟨0, Nat.zero_le _, rfl, World.ownsRow_nil _ _ _ _, Below.refl _ _⟩
  case round =>
    obtain ⟨k, hk, rfl, hO, hbw⟩ := hrel; have hown := hO.out; have hsz := hbw.size; have cO := oc.below hbw; have cA := cO.s7; clear cO
    by_cases hlt : k < xs.length
    · obtain ⟨b, off, rfl, hbl, hc⟩ := hr.resolve_left (by omega)
      obtain ⟨e0, e1⟩ := elDebt hbl hc hbw k hlt; have hs := Lib.hid (flat_takeD hlt); have hi0 : (0 : Int) ≤ (k : Int) := by omega
      have hi1 : (k : Int) < (xs.length : Int) := by omega
      have hkl : (xs.take k).length = k := by simp; omega
      have hkl1 : (xs.take (k + 1)).length = k + 1 := by simp; omega
      rw [hkl] at hown; clear hc hr; generalize xs.getD k default = y at *
      go_wp2_with (skip; (at_builtin; refine wpList_append_own _ rfl _ _ 62 rfl (w.heap.size + 2) 46 i0 (.agg #[.int .i64 0, .int .i64 0]) 2 16 Tryz.underlying62 hi hz0 hz1 hz2 rfl (by decide) _ _ _ rfl (hown.alloc _) ⟨wr.heap.size, 0, none⟩ 1 1 [I y.owed, I y.bp] rfl rfl (news_lit _ [I y.owed, I y.bp] _) (oneCells_lit rfl) (by unfold maxLen; omega) (by omega) (by simp; omega) ?_; intro v' w1 hown' hgrow _))
      have hbel := grown_below (hbw.alloc hsz _) (hown.alloc _) (by omega) hgrow
      have hO' : Hid (w1.ownsRow (w.heap.size + 2) 46 2 v' (xs.take (k + 1)).length ((xs.take (k + 1)).flatMap ADebt.cells)) := by
        rw [hkl1, hs.out]; exact hown'
      clear hown hown' hgrow hO; go_wp2; exact ⟨⟨k + 1, by omega, by go_num, hO', hbel⟩, by simp [intOf]; omega⟩
    · have hkm : k = xs.length := by omega
      have hge : (xs.length : Int) ≤ (k : Int) := by omega
      rw [hkm, List.take_length] at hown; have HS := Lib.hid hown; have hS := Sl.of_owns hown (by omega); obtain ⟨a2, cap2, rfl, -⟩ := hS; have k0 := hb.trans (hbw.mono (by omega)); have dO := od.below hbw; have dA := dO.s7; clear dO; clear hkm hO hown hr hbw; have r1 := set_same; have r2 := set_off; have r3 := set_blk; go_wp2; exact bodyPost_ret (v := .agg #[I x1, I x2, I x3, I x4, I x5, I x6, .slice a2 xs.length cap2]) (by simp [results, Tryz.results61, go_sem, *]; try omega) rfl (⟨_, rfl, (by repeat (first | with_reducible exact HS.out | refine owns_set ?_ (by omega) _)), below_autor⟩)
end
end Go.Proofs.YtdjgcenjonegjaaGreat
