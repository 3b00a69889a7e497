/- the cells of one element of a list of structs (made by wip/bin/gen_api.py) · debts: faults and totals · values that lie nowhere below a bound · sameDebts: are two lists the same? (made by wip/bin/gen_api.py) · debts: new memory for a list (made by wip/bin/gen_api.py) -/
import Derived.Test.YtenoigmkhlnfoaaPk00
import Derived.Test.YtenoigmkhlnfoaaPk01
import Derived.Test.YtenoigmkhlnfoaaPk04
namespace Go.Proofs.Ytenoigmkhlnfoaa
set_option linter.unusedSimpArgs false
set_option linter.unusedVariables false
open Go.RowKit
set_option maxRecDepth 20000
theorem elWrite {w W : World} {b off : Nat} {xs : List AWrite} (hb : b < w.heap.size) (hc : ∀ j, j < (xs.flatMap AWrite.cells).length → w.cell? ⟨b, off + j, none⟩ = some ((xs.flatMap AWrite.cells).getD j undef)) (hbw : Below w.heap.size w W) (k : Nat) (hk : k < xs.length) :
    W.cell? ⟨b, off + k * 2, none⟩ = some (I (xs.getD k default).at_) ∧ W.cell? ⟨b, off + k * 2 + 1, none⟩ = some (U32 (xs.getD k default).word) := by
  refine ⟨?_, ?_⟩
  · have := (hbw.cell (p := ⟨b, off + (k * 2 + 0), none⟩) hb).trans (hc (k * 2 + 0) (by rw [length_flat _ 2 AWrite.cells_len]; exact pos_lt hk (by decide)))
    rw [getD_flat _ 2 AWrite.cells_len _ _ _ hk (by decide)] at this
    simpa [← Nat.add_assoc, AWrite.cells] using this
  · have := (hbw.cell (p := ⟨b, off + (k * 2 + 1), none⟩) hb).trans (hc (k * 2 + 1) (by rw [length_flat _ 2 AWrite.cells_len]; exact pos_lt hk (by decide)))
    rw [getD_flat _ 2 AWrite.cells_len _ _ _ hk (by decide)] at this
    simpa [← Nat.add_assoc, AWrite.cells] using this
theorem elStep {w W : World} {b off : Nat} {xs : List AStep} (hb : b < w.heap.size) (hc : ∀ j, j < (xs.flatMap AStep.cells).length → w.cell? ⟨b, off + j, none⟩ = some ((xs.flatMap AStep.cells).getD j undef)) (hbw : Below w.heap.size w W) (k : Nat) (hk : k < xs.length) :
    W.cell? ⟨b, off + k * 2, none⟩ = some (I (xs.getD k default).upto) ∧ W.cell? ⟨b, off + k * 2 + 1, none⟩ = some (I (xs.getD k default).price) := by
  refine ⟨?_, ?_⟩
  · have := (hbw.cell (p := ⟨b, off + (k * 2 + 0), none⟩) hb).trans (hc (k * 2 + 0) (by rw [length_flat _ 2 AStep.cells_len]; exact pos_lt hk (by decide)))
    rw [getD_flat _ 2 AStep.cells_len _ _ _ hk (by decide)] at this
    simpa [← Nat.add_assoc, AStep.cells] using this
  · have := (hbw.cell (p := ⟨b, off + (k * 2 + 1), none⟩) hb).trans (hc (k * 2 + 1) (by rw [length_flat _ 2 AStep.cells_len]; exact pos_lt hk (by decide)))
    rw [getD_flat _ 2 AStep.cells_len _ _ _ hk (by decide)] at this
    simpa [← Nat.add_assoc, AStep.cells] using this
theorem elDebt {w W : World} {b off : Nat} {xs : List ADebt} (hb : b < w.heap.size) (hc : ∀ j, j < (xs.flatMap ADebt.cells).length → w.cell? ⟨b, off + j, none⟩ = some ((xs.flatMap ADebt.cells).getD j undef)) (hbw : Below w.heap.size w W) (k : Nat) (hk : k < xs.length) :
    W.cell? ⟨b, off + k * 2, none⟩ = some (I (xs.getD k default).owed) ∧ W.cell? ⟨b, off + k * 2 + 1, none⟩ = some (I (xs.getD k default).bp) := by
  refine ⟨?_, ?_⟩
  · have := (hbw.cell (p := ⟨b, off + (k * 2 + 0), none⟩) hb).trans (hc (k * 2 + 0) (by rw [length_flat _ 2 ADebt.cells_len]; exact pos_lt hk (by decide)))
    rw [getD_flat _ 2 ADebt.cells_len _ _ _ hk (by decide)] at this
    simpa [← Nat.add_assoc, ADebt.cells] using this
  · have := (hbw.cell (p := ⟨b, off + (k * 2 + 1), none⟩) hb).trans (hc (k * 2 + 1) (by rw [length_flat _ 2 ADebt.cells_len]; exact pos_lt hk (by decide)))
    rw [getD_flat _ 2 ADebt.cells_len _ _ _ hk (by decide)] at this
    simpa [← Nat.add_assoc, ADebt.cells] using this
end Go.Proofs.Ytenoigmkhlnfoaa
namespace Go.Proofs.Ytenoigmkhlnfoaa
set_option linter.unusedSimpArgs false
set_option linter.unusedVariables false
open Go.RowKit
set_option maxRecDepth 20000

def okDebt (d : ADebt) : Bool := inB d.owed 0 1000000000 && inB d.bp 0 10000
def debtE (xs : List ADebt) : Int := if 8 < xs.length then 1 else if xs.all okDebt then 0 else 2
theorem all_take_succ {α : Type} [Inhabited α] {p : α → Bool} {xs : List α} {k : Nat} (hk : k < xs.length) (h : (xs.take k).all p = true) (hp : p (xs.getD k default) = true) : (xs.take (k + 1)).all p = true := by
  rw [List.take_add_one, List.all_append, h, List.getElem?_eq_getElem hk]
  simpa [List.getD_eq_getElem?_getD, List.getElem?_eq_getElem hk] using hp
theorem all_false_at {α : Type} [Inhabited α] {p : α → Bool} {xs : List α} {k : Nat} (hk : k < xs.length) (hp : p (xs.getD k default) = false) : xs.all p = false := by
  rw [List.all_eq_false]
  refine ⟨xs[k], List.getElem_mem hk, ?_⟩
  simpa [List.getD_eq_getElem?_getD, List.getElem?_eq_getElem hk] using hp
theorem okDebt_true {d : ADebt} : okDebt d = true ↔ 0 ≤ d.owed ∧ d.owed ≤ 1000000000 ∧ 0 ≤ d.bp ∧ d.bp ≤ 10000 := by simp [okDebt, inB, and_assoc]
theorem okDebt_false {d : ADebt} : okDebt d = false ↔ d.owed < 0 ∨ 0 ≤ d.owed ∧ (1000000000 < d.owed ∨ d.owed ≤ 1000000000 ∧ (d.bp < 0 ∨ 0 ≤ d.bp ∧ 10000 < d.bp)) := by
  rw [← Bool.not_eq_true, okDebt_true]; omega

set_option maxHeartbeats 1000000 in
theorem fault_any (v : Value) (xs : List ADebt) (w : World) (h : Sl w v 2 xs.length (xs.flatMap ADebt.cells)) :
    Calls Try.prog 115 #[v] w (Grew (I (debtE xs)) w) := by
  obtain ⟨a, cap, rfl, hn, hl, h0, h⟩ := h
  by_cases h8 : 8 < xs.length
  · have hE : debtE xs = 1 := by simp [debtE, h8]
    have h8' : (8 : Int) < (xs.length : Int) := by omega
    rw [hE]
    clear hE h h0 hl
    go_enter Try.func115, Try.ntmps115
    go_wp2
    go_ret
    exact Grew.intro rfl (Below.refl _ _)
  · have h8' : ¬ (8 : Int) < (xs.length : Int) := by omega
    have hE : debtE xs = if xs.all okDebt then 0 else 2 := by simp only [debtE, if_neg h8]
    have HE := Lib.hid hE
    clear hE h0 hl
    go_enter Try.func115, Try.ntmps115
    go_wp2
    go_loopw [10] (fun i wr => ∃ k : Nat, k ≤ xs.length ∧ i = I k ∧ Hid ((xs.take k).all okDebt = true) ∧ Below w.heap.size w wr) (fun i _ => xs.length - (intOf i).toNat)
    case atStart => exact ⟨0, Nat.zero_le _, rfl, rfl, Below.refl _ _⟩
    case round =>
      obtain ⟨k, hk, rfl, hall, hbw⟩ := hrel
      have hsz := hbw.size
      by_cases hlt : k < xs.length
      · obtain ⟨b, off, rfl, hb, hc⟩ := h.resolve_left (by omega)
        obtain ⟨e0, e1⟩ := elDebt hb hc hbw k hlt
        have hi0 : (0 : Int) ≤ (k : Int) := by omega
        have hi1 : (k : Int) < (xs.length : Int) := by omega
        have hgood := Lib.hid (fun hp => all_take_succ (p := okDebt) hlt hall.out hp)
        have hbad := Lib.hid (fun hp => all_false_at (p := okDebt) hlt hp)
        clear h hc
        generalize xs.getD k default = x at *
        cases hq : okDebt x
        · have hA := Lib.hid (hbad.out hq)
          rcases okDebt_false.1 hq with q | ⟨q0, q | ⟨q1, q | ⟨q2, q⟩⟩⟩
          all_goals
            clear hq hgood hbad
            go_wp2
            go_ret
            exact Grew.intro (eI (by rw [HE.out, hA.out]; rfl)) (hbw.alloc hsz _)
        · obtain ⟨q0, q1, q2, q3⟩ := okDebt_true.1 hq
          have hA := Lib.hid (hgood.out hq)
          clear hq hgood hbad
          go_wp2
          exact ⟨⟨k + 1, by omega, by go_num, hA.out, hbw.alloc hsz _⟩, by simp [intOf]; omega⟩
      · have hA := Lib.hid (show xs.all okDebt = true by have := hall.out; rwa [List.take_of_length_le (by omega)] at this)
        clear hall h
        have hge : (xs.length : Int) ≤ (k : Int) := by omega
        go_wp2
        go_ret
        exact Grew.intro (eI (by rw [HE.out, hA.out]; rfl)) hbw

def sumTo (xs : List ADebt) (k : Nat) : Int := ((xs.take k).map (·.owed)).sum
def debtSum (xs : List ADebt) : Int := (xs.map (·.owed)).sum
def totalA (xs : List ADebt) : Int := if debtE xs = 0 then debtSum xs else 0
theorem sumTo_succ {xs : List ADebt} {k : Nat} (hk : k < xs.length) : sumTo xs (k + 1) = sumTo xs k + (xs.getD k default).owed := by
  unfold sumTo
  rw [List.take_add_one, List.map_append, List.sum_append, List.getElem?_eq_getElem hk, List.getD_eq_getElem?_getD, List.getElem?_eq_getElem hk]
  simp
theorem okAt {xs : List ADebt} (h : xs.all okDebt = true) {k : Nat} (hk : k < xs.length) : okDebt (xs.getD k default) = true := by
  rw [List.getD_eq_getElem?_getD, List.getElem?_eq_getElem hk]
  exact List.all_eq_true.1 h _ (List.getElem_mem hk)
theorem sumTo_bd {xs : List ADebt} (h : xs.all okDebt = true) (k : Nat) (hk : k ≤ xs.length) : 0 ≤ sumTo xs k ∧ sumTo xs k ≤ 1000000000 * (k : Int) := by
  induction k with
  | zero => simp [sumTo]
  | succ k ih =>
    have := ih (by omega)
    have o := okDebt_true.1 (okAt h (show k < xs.length by omega))
    rw [sumTo_succ (by omega)]
    omega
theorem sumTo_all (xs : List ADebt) : sumTo xs xs.length = debtSum xs := by simp [sumTo, debtSum]
theorem debtE_zero {xs : List ADebt} (h : debtE xs = 0) : xs.length ≤ 8 ∧ xs.all okDebt = true := by
  unfold debtE at h
  split at h
  · cases h
  · split at h
    · exact ⟨by omega, by assumption⟩
    · cases h

theorem total_any (v : Value) (xs : List ADebt) (w : World) (h : Sl w v 2 xs.length (xs.flatMap ADebt.cells)) (h8 : xs.length ≤ 8) (hok : xs.all okDebt = true) :
    Calls Try.prog 116 #[v] w (Grew (I (debtSum xs)) w) := by
  have Hok := Lib.hid hok
  clear hok
  obtain ⟨a, cap, rfl, hn, hl, h0, h⟩ := h
  clear hl h0
  go_enter Try.func116, Try.ntmps116
  go_wp2
  go_loopw [3, 8] (fun n i wr => ∃ k : Nat, k ≤ xs.length ∧ i = I k ∧ n = I (sumTo xs k) ∧ Below w.heap.size w wr) (fun _ i _ => xs.length - (intOf i).toNat)
  case atStart => exact ⟨0, Nat.zero_le _, rfl, rfl, Below.refl _ _⟩
  case round =>
    obtain ⟨k, hk, rfl, rfl, hbw⟩ := hrel
    have hsz := hbw.size
    obtain ⟨s0, s1⟩ := sumTo_bd Hok.out k hk
    by_cases hlt : k < xs.length
    · obtain ⟨b, off, rfl, hb, hc⟩ := h.resolve_left (by omega)
      obtain ⟨e0, e1⟩ := elDebt hb hc hbw k hlt
      obtain ⟨q0, q1, q2, q3⟩ := okDebt_true.1 (okAt Hok.out hlt)
      have hs := Lib.hid (sumTo_succ hlt)
      have hi0 : (0 : Int) ≤ (k : Int) := by omega
      have hi1 : (k : Int) < (xs.length : Int) := by omega
      clear h hc
      generalize xs.getD k default = x at *
      go_wp2
      exact ⟨⟨k + 1, by omega, by go_num, eI (by rw [hs.out]), hbw.alloc hsz _⟩, by simp [intOf]; omega⟩
    · have hA := Lib.hid (show sumTo xs k = debtSum xs by rw [show k = xs.length by omega]; exact sumTo_all xs)
      have hge : (xs.length : Int) ≤ (k : Int) := by omega
      clear h
      go_wp2
      go_ret
      exact Grew.intro (eI hA.out) hbw

theorem Total_any (v : Value) (xs : List ADebt) (w : World) (h : Sl w v 2 xs.length (xs.flatMap ADebt.cells)) :
    Calls Try.prog 99 #[v] w (Grew (T2 (I (totalA xs)) (I (debtE xs))) w) := by
  by_cases hE : debtE xs = 0
  · obtain ⟨h8, hok⟩ := debtE_zero hE
    have hA : totalA xs = debtSum xs := by simp [totalA, hE]
    have C := Lib.hid (fun W (hW : Sl W v 2 xs.length (xs.flatMap ADebt.cells)) => total_any v xs W hW h8 hok)
    have F := Lib.hid (fun W (hW : Sl W v 2 xs.length (xs.flatMap ADebt.cells)) => fault_any v xs W hW)
    rw [hE] at F ⊢
    rw [hA]
    clear hA hE h8 hok
    go_enter Try.func99, Try.ntmps99
    go_wp2_with fail
    refine (F.out _ h).mono ?_
    rintro e w1 ⟨rfl, k1⟩
    have h1 := h.below k1
    go_wp2_with fail
    refine (C.out _ h1).mono ?_
    rintro e w2 ⟨rfl, k2⟩
    go_wp2
    go_ret2
    exact Grew.intro rfl (k1.trans (k2.mono k1.size))
  · have hA : totalA xs = 0 := by simp [totalA, hE]
    have hb : (debtE xs != 0) = true := by simp [hE]
    rw [hA]
    clear hA hE
    go_enter Try.func99, Try.ntmps99
    go_wp2_with fail
    refine (fault_any v xs _ h).mono ?_
    rintro e w1 ⟨rfl, k1⟩
    go_wp2
    go_ret2
    exact Grew.intro rfl k1

set_option maxHeartbeats 1000000 in
theorem DebtFault_any (v : Value) (xs : List ADebt) (w : World) (h : Sl w v 2 xs.length (xs.flatMap ADebt.cells)) :
    Calls Try.prog 104 #[v] w (Pure (I (debtE xs)) w) := by
  obtain ⟨a, cap, rfl, hn, hl, h0, h⟩ := h
  by_cases h8 : 8 < xs.length
  · have hE : debtE xs = 1 := by simp [debtE, h8]
    have h8' : (8 : Int) < (xs.length : Int) := by omega
    rw [hE]
    clear hE h h0 hl
    go_enter Try.func104, Try.ntmps104
    go_wp2
    go_ret
    exact Pure.intro rfl
  · have h8' : ¬ (8 : Int) < (xs.length : Int) := by omega
    have hE : debtE xs = if xs.all okDebt then 0 else 2 := by simp only [debtE, if_neg h8]
    have HE := Lib.hid hE
    clear hE h0 hl
    go_enter Try.func104, Try.ntmps104
    go_wp2
    go_loop [3] (fun i => ∃ k : Nat, k ≤ xs.length ∧ i = I k ∧ Hid ((xs.take k).all okDebt = true)) (fun i => xs.length - (intOf i).toNat)
    case atStart => exact ⟨0, Nat.zero_le _, rfl, rfl⟩
    case round =>
      obtain ⟨k, hk, rfl, hall⟩ := hrel
      by_cases hlt : k < xs.length
      · obtain ⟨b, off, rfl, hb, hc⟩ := h.resolve_left (by omega)
        obtain ⟨e0, e1⟩ := elDebt hb hc (Below.refl _ _) k hlt
        have hi0 : (0 : Int) ≤ (k : Int) := by omega
        have hi1 : (k : Int) < (xs.length : Int) := by omega
        have hgood := Lib.hid (fun hp => all_take_succ (p := okDebt) hlt hall.out hp)
        have hbad := Lib.hid (fun hp => all_false_at (p := okDebt) hlt hp)
        clear h hc
        generalize xs.getD k default = x at *
        cases p1 : inB x.owed 0 1000000000
        · have hA := Lib.hid (hbad.out (by simp [okDebt, p1]))
          clear hgood hbad
          go_wp2_with (go_at_call 43; refine (In_any _ _ _ _).mono ?_; rintro e w' ⟨rfl, rfl⟩)
          go_ret
          exact Pure.intro (eI (by rw [HE.out, hA.out]; rfl))
        · cases p2 : inB x.bp 0 10000
          · have hA := Lib.hid (hbad.out (by simp [okDebt, p1, p2]))
            clear hgood hbad
            go_wp2_with (go_at_call 43; refine (In_any _ _ _ _).mono ?_; rintro e w' ⟨rfl, rfl⟩)
            go_ret
            exact Pure.intro (eI (by rw [HE.out, hA.out]; rfl))
          · have hA := Lib.hid (hgood.out (by simp [okDebt, p1, p2]))
            clear hgood hbad
            go_wp2_with (go_at_call 43; refine (In_any _ _ _ _).mono ?_; rintro e w' ⟨rfl, rfl⟩)
            go_round
            case rel => exact ⟨k + 1, by omega, by go_num, hA.out⟩
            case measure => simp [intOf]; omega
      · have hA := Lib.hid (show xs.all okDebt = true by have := hall.out; rwa [List.take_of_length_le (by omega)] at this)
        clear hall h
        have hge : (xs.length : Int) ≤ (k : Int) := by omega
        go_wp2
        go_ret
        exact Pure.intro (eI (by rw [HE.out, hA.out]; rfl))
end Go.Proofs.Ytenoigmkhlnfoaa
namespace Go.Proofs.Ytenoigmkhlnfoaa
set_option linter.unusedSimpArgs false
set_option linter.unusedVariables false
open Go.RowKit
set_option maxRecDepth 20000
/-- v lies nowhere below block B -/
def FarB (B : Nat) (v : Value) : Prop := ∀ a n c, v = .slice (some a) n c → B ≤ a.block
theorem FarB.nil (B n c : Nat) : FarB B (.slice none n c) := by intro a n c h; cases h
theorem FarB.lit {B g o n c : Nat} (h : B ≤ g) : FarB B (.slice (some ⟨g, o, none⟩) n c) := by intro a n c e; cases e; exact h
theorem FarB.of_owns {w : World} {base e sz n : Nat} {v : Value} {cs : List Value} (h : w.ownsRow base e sz v n cs) : FarB base v := by
  rintro a m c rfl
  exact (h.lt a.block rfl).1
theorem FarB.far {B z : Nat} {v : Value} (h : FarB B v) (hz : z < B) : Far z v := by
  intro a n c e
  have := h a n c e
  omega
theorem FarB.mono {B C : Nat} {v : Value} (h : FarB B v) (hC : C ≤ B) : FarB C v := fun a n c e => Nat.le_trans hC (h a n c e)
end Go.Proofs.Ytenoigmkhlnfoaa
namespace Go.Proofs.Ytenoigmkhlnfoaa
set_option linter.unusedSimpArgs false
set_option linter.unusedVariables false
open Go.RowKit
set_option maxRecDepth 20000

set_option maxHeartbeats 1000000 in
theorem sameDebts_any (v1 v2 : Value) (xs ys : List ADebt) (w : World) (h1 : Sl w v1 2 xs.length (xs.flatMap ADebt.cells)) (h2 : Sl w v2 2 ys.length (ys.flatMap ADebt.cells)) :
    Calls Try.prog 66 #[v1, v2] w (Grew (.bool (decide (xs = ys))) w) := by
  obtain ⟨a1, c1, rfl, hn1, _, _, h1⟩ := h1
  obtain ⟨a2, c2, rfl, hn2, _, _, h2⟩ := h2
  by_cases hl : xs.length = ys.length
  · have hb : ((xs.length : Int) != (ys.length : Int)) = false := by simp [hl]
    have hl1 : xs.length ≤ ys.length := by omega
    have hl2 : ys.length ≤ xs.length := by omega
    clear hl
    have hm : Try.prog.eqGuardType Try.prog.depth 60 = false := by kernel_rfl
    have hne := neqDebt_run
    go_enter Try.func66, Try.ntmps66
    go_wp2
    go_loopw [5] (fun i wr => ∃ k : Nat, k ≤ xs.length ∧ i = I k ∧ xs.take k = ys.take k ∧ Below w.heap.size w wr) (fun i _ => xs.length - (intOf i).toNat)
    case atStart => exact ⟨0, Nat.zero_le _, rfl, rfl, Below.refl _ _⟩
    case round =>
      obtain ⟨k, hk, rfl, htk, hbw⟩ := hrel
      have Htk := Lib.hid htk
      clear htk
      by_cases hlt : k < xs.length
      · obtain ⟨b1, o1, rfl, hb1, hc1⟩ := h1.resolve_left (by omega)
        obtain ⟨b2, o2, rfl, hb2, hc2⟩ := h2.resolve_left (by omega)
        have e1_0 : wr.cell? ⟨b1, o1 + k * 2, none⟩ = some (I (xs.getD k default).owed) := by
          have := (hbw.cell (p := ⟨b1, o1 + (k * 2 + 0), none⟩) hb1).trans (hc1 (k * 2 + 0) (by rw [length_flat _ 2 ADebt.cells_len]; exact pos_lt (by omega) (by decide)))
          rw [getD_flat _ 2 ADebt.cells_len _ _ _ (by omega) (by decide)] at this
          simpa [← Nat.add_assoc, ADebt.cells] using this
        have e1_1 : wr.cell? ⟨b1, o1 + k * 2 + 1, none⟩ = some (I (xs.getD k default).bp) := by
          have := (hbw.cell (p := ⟨b1, o1 + (k * 2 + 1), none⟩) hb1).trans (hc1 (k * 2 + 1) (by rw [length_flat _ 2 ADebt.cells_len]; exact pos_lt (by omega) (by decide)))
          rw [getD_flat _ 2 ADebt.cells_len _ _ _ (by omega) (by decide)] at this
          simpa [← Nat.add_assoc, ADebt.cells] using this
        have e2_0 : wr.cell? ⟨b2, o2 + k * 2, none⟩ = some (I (ys.getD k default).owed) := by
          have := (hbw.cell (p := ⟨b2, o2 + (k * 2 + 0), none⟩) hb2).trans (hc2 (k * 2 + 0) (by rw [length_flat _ 2 ADebt.cells_len]; exact pos_lt (by omega) (by decide)))
          rw [getD_flat _ 2 ADebt.cells_len _ _ _ (by omega) (by decide)] at this
          simpa [← Nat.add_assoc, ADebt.cells] using this
        have e2_1 : wr.cell? ⟨b2, o2 + k * 2 + 1, none⟩ = some (I (ys.getD k default).bp) := by
          have := (hbw.cell (p := ⟨b2, o2 + (k * 2 + 1), none⟩) hb2).trans (hc2 (k * 2 + 1) (by rw [length_flat _ 2 ADebt.cells_len]; exact pos_lt (by omega) (by decide)))
          rw [getD_flat _ 2 ADebt.cells_len _ _ _ (by omega) (by decide)] at this
          simpa [← Nat.add_assoc, ADebt.cells] using this
        clear hc1 hc2 h1 h2
        have hi0 : (0 : Int) ≤ (k : Int) := by omega
        have hi1 : (k : Int) < (xs.length : Int) := by omega
        have hi2 : (k : Int) < (ys.length : Int) := by omega
        by_cases hv : xs.getD k default = ys.getD k default
        · have hv' : decide (xs.getD k default = ys.getD k default) = true := decide_eq_true hv
          have hs := Lib.hid (take_succ_of hlt (by omega) Htk.out hv)
          clear hv
          generalize xs.getD k default = x at *
          generalize ys.getD k default = y at *
          go_wp2
          go_quiet (fail)
          go_wp2
          exact ⟨⟨k + 1, by omega, by go_num, hs.out, drewN_below hbw _⟩, by simp [intOf]; omega⟩
        · have hv' : decide (xs.getD k default = ys.getD k default) = false := decide_eq_false hv
          have hs := Lib.hid (ne_of_getD' hv)
          clear hv
          generalize xs.getD k default = x at *
          generalize ys.getD k default = y at *
          go_wp2
          go_quiet (fail)
          go_wp2
          go_ret
          exact Grew.intro (by rw [decide_eq_false hs.out]; rfl) (drewN_below hbw _)
      · have hs : xs = ys := by have := Htk.out; rwa [List.take_of_length_le (by omega), List.take_of_length_le (by omega)] at this
        have Hs := Lib.hid hs
        clear hs
        go_wp2
        go_ret
        exact Grew.intro (by rw [decide_eq_true Hs.out]; rfl) hbw
  · have hb : ((xs.length : Int) != (ys.length : Int)) = true := by simp; omega
    go_enter Try.func66, Try.ntmps66
    go_wp2
    go_ret
    exact Grew.intro (by rw [decide_eq_false (fun e => hl (by rw [e]))]; rfl) (Below.refl _ _)
end Go.Proofs.Ytenoigmkhlnfoaa
namespace Go.Proofs.Ytenoigmkhlnfoaa
set_option linter.unusedSimpArgs false
set_option linter.unusedVariables false
open Go.RowKit
set_option maxRecDepth 20000

theorem info_debts : (Try.prog.info? 60).map (fun i => (i.zero, i.size, i.bytes)) = some (some (.agg #[.int .i64 0, .int .i64 0]), 2, 16) := by kernel_rfl

end Go.Proofs.Ytenoigmkhlnfoaa
