/- the reference of cents.Deal, the refusals -/
import Derived.Test.YtdjgcenjonegjaaDealR
namespace Go.Proofs.Ytdjgcenjonegjaa
open Go.RowKit Go.Lib Go.Sort
set_option maxRecDepth 20000

/-- there is such an order -/
theorem ord_exists (c : Nat → Int) (n : Nat) (hn : 1 ≤ n) : ∃ o, Ord c n o := by
  obtain ⟨m, rfl⟩ : ∃ m, n = m + 1 := ⟨n - 1, by omega⟩
  have M := insertion_mrg (R := fun x y : Fin (m + 1) => RK c x.val y.val) (E := fun x y => x.val < y.val) (lt := fun x y => decide (c y.val < c x.val)) (a := 0) (b := m + 1) (d := ordA m)
    (fun x y z h k => RK.trans _ _ _ h k) (fun x y hE => ⟨fun h => Or.inl (of_decide_eq_true h), fun h => by have := of_decide_eq_false h; unfold RK; omega⟩)
    (Nat.zero_le _) (by rw [ordA_size]; exact Nat.le_refl _) (fun i j h1 h2 h3 => by rw [ordA_get m i (by omega), ordA_get m j h3]; exact h2)
  refine ⟨_, ord_of c _ (M.k.sz.trans (ordA_size m)) M.s (fun x => ?_)⟩
  obtain ⟨j, j1, j2, e⟩ := M.k.to x.val (Nat.zero_le _) x.isLt
  refine ⟨j, j2, ?_⟩
  rw [← e, ordA_get m x.val x.isLt]

/- the start of each walk -/

theorem Dealt_size (v : Value) (T : Int) (ws : List Int) (w : World) (h : Sl w v 1 ws.length (ws.map I)) (hn : ws.length < 1 ∨ 50 < ws.length) :
    Calls Try.prog 6 #[I T, v] w (GrewSl2 1 0 [] 1 w) := by
  obtain ⟨a, cap, rfl, hn', hl, h0, h⟩ := h
  clear h h0 hl
  by_cases c : ws.length < 1
  · have c1 : (ws.length : Int) < 1 := by omega
    go_enter Try.func6, Try.ntmps6
    go_wp2_with (go_at_call 12; refine (In_any _ _ _ _).mono ?_; rintro e w' ⟨rfl, rfl⟩)
    go_ret2
    exact ⟨_, rfl, Sl.nil _ _, Below.refl _ _⟩
  · have c1 : ¬ (ws.length : Int) < 1 := by omega
    have c2 : (50 : Int) < (ws.length : Int) := by omega
    go_enter Try.func6, Try.ntmps6
    go_wp2_with (go_at_call 12; refine (In_any _ _ _ _).mono ?_; rintro e w' ⟨rfl, rfl⟩)
    go_ret2
    exact ⟨_, rfl, Sl.nil _ _, Below.refl _ _⟩

set_option maxHeartbeats 4000000 in
theorem Dealt_total (v : Value) (T : Int) (ws : List Int) (w : World) (h : Sl w v 1 ws.length (ws.map I)) (hn1 : 1 ≤ ws.length) (hn2 : ws.length ≤ 50) (hTin : inB T 0 1000000000000 = false) :
    Calls Try.prog 6 #[I T, v] w (GrewSl2 1 0 [] 2 w) := by
  obtain ⟨a, cap, rfl, hn', hl, h0, h⟩ := h
  obtain ⟨b, off, rfl, hb, hc⟩ := h.resolve_left (by omega)
  have n1 : ¬ (ws.length : Int) < 1 := by omega
  have n2 : ¬ (50 : Int) < (ws.length : Int) := by omega
  have KB := Below.refl w.heap.size w
  clear h h0 hl hn'
  go_enter Try.func6, Try.ntmps6
  go_wp2_with (go_at_call 12; refine (In_any _ _ _ _).mono ?_; rintro e w' ⟨rfl, rfl⟩)
  go_ret2
  exact ⟨_, rfl, Sl.nil _ _, KB⟩

set_option maxHeartbeats 4000000 in
theorem Dealt_range (v : Value) (T : Int) (ws : List Int) (w : World) (h : Sl w v 1 ws.length (ws.map I)) (hn1 : 1 ≤ ws.length) (hn2 : ws.length ≤ 50) (hTin : inB T 0 1000000000000 = true) (hbad : ws.all inW = false) :
    Calls Try.prog 6 #[I T, v] w (GrewSl2 1 0 [] 2 w) := by
  obtain ⟨a, cap, rfl, hn', hl, h0, h⟩ := h
  obtain ⟨b, off, rfl, hb, hc⟩ := h.resolve_left (by omega)
  have n1 : ¬ (ws.length : Int) < 1 := by omega
  have n2 : ¬ (50 : Int) < (ws.length : Int) := by omega
  have KB := Below.refl w.heap.size w
  clear h h0 hl hn'
  have HB := Lib.hid hbad
  clear hbad
  go_enter Try.func6, Try.ntmps6
  go_wp2_with (go_at_call 12; refine (In_any _ _ _ _).mono ?_; rintro e w' ⟨rfl, rfl⟩)
  go_loop [7, 8] (fun s7 s8 => ∃ (k : Nat) (x : Int), k ≤ ws.length ∧ s7 = I x ∧ s8 = I k ∧ 0 ≤ x ∧ x ≤ 1000000 * (k : Int) ∧ Hid ((ws.take k).all inW = true)) (fun _ i => ws.length - (intOf i).toNat)
  case atStart => exact ⟨0, 0, Nat.zero_le _, rfl, rfl, by omega, by omega, rfl⟩
  case round =>
    obtain ⟨k, s, hk, rfl, rfl, s0, s1, hp⟩ := hrel
    by_cases hlt : k < ws.length
    · have e0 := hc k (by simpa using hlt)
      rw [getD_map' _ _ hlt] at e0
      have hnext := Lib.hid (show (ws.take (k + 1)).all inW = ((ws.take k).all inW && inB (ws.getD k 0) 0 1000000) by
        rw [List.take_add_one, List.all_append, List.getElem?_eq_getElem hlt, List.getD_eq_getElem?_getD, List.getElem?_eq_getElem hlt]
        simp [inW])
      have j0 : (0 : Int) ≤ (k : Int) := by omega
      have j1 : (k : Int) < (ws.length : Int) := by omega
      clear hc
      generalize ws.getD k 0 = x at *
      cases hxin : inB x 0 1000000 with
      | true =>
        have HP := Lib.hid (show (ws.take (k + 1)).all inW = true by rw [hnext.out, hxin, hp.out]; rfl)
        obtain ⟨x0, x1⟩ := inB_true.1 hxin
        clear hnext hp
        go_wp2_with (go_at_call 12; refine (In_any _ _ _ _).mono ?_; rintro e w' ⟨rfl, rfl⟩)
        go_round
        case rel => exact ⟨k + 1, s + x, by omega, rfl, by go_num, by omega, by omega, HP.out⟩
        case measure => simp [intOf]; omega
      | false =>
        clear hnext hp
        go_wp2_with (go_at_call 12; refine (In_any _ _ _ _).mono ?_; rintro e w' ⟨rfl, rfl⟩)
        go_ret2
        exact ⟨_, rfl, Sl.nil _ _, KB⟩
    · obtain rfl : k = ws.length := by omega
      have := hp.out
      rw [List.take_length, HB.out] at this
      cases this

set_option maxHeartbeats 4000000 in
theorem Dealt_zero (v : Value) (T : Int) (ws : List Int) (w : World) (h : Sl w v 1 ws.length (ws.map I)) (hn1 : 1 ≤ ws.length) (hn2 : ws.length ≤ 50) (hTin : inB T 0 1000000000000 = true) (hws : ws.all inW = true) (hz : ws.sum = 0) :
    Calls Try.prog 6 #[I T, v] w (GrewSl2 1 0 [] 4 w) := by
  obtain ⟨a, cap, rfl, hn', hl, h0, h⟩ := h
  obtain ⟨b, off, rfl, hb, hc⟩ := h.resolve_left (by omega)
  have n1 : ¬ (ws.length : Int) < 1 := by omega
  have n2 : ¬ (50 : Int) < (ws.length : Int) := by omega
  have KB := Below.refl w.heap.size w
  clear h h0 hl hn'
  have HW := Lib.hid hws
  have HZ := Lib.hid hz
  have hx := Lib.hid (fun k => all_get hws k)
  clear hws hz
  go_enter Try.func6, Try.ntmps6
  go_wp2_with (go_at_call 12; refine (In_any _ _ _ _).mono ?_; rintro e w' ⟨rfl, rfl⟩)
  go_loop [7, 8] (fun s7 s8 => ∃ k : Nat, k ≤ ws.length ∧ s7 = I (ws.take k).sum ∧ s8 = I k) (fun _ i => ws.length - (intOf i).toNat)
  case atStart => exact ⟨0, Nat.zero_le _, rfl, rfl⟩
  case round =>
    obtain ⟨k, hk, rfl, rfl⟩ := hrel
    have sb := sum_bd (take_inW HW.out k)
    rw [List.length_take, Nat.min_eq_left hk] at sb
    obtain ⟨s0, s1⟩ := sb
    by_cases hlt : k < ws.length
    · have e0 := hc k (by simpa using hlt)
      rw [getD_map' _ _ hlt] at e0
      obtain ⟨x0, x1⟩ := hx.out k
      have hs := Lib.hid (sum_take_succ ws k hlt)
      have j0 : (0 : Int) ≤ (k : Int) := by omega
      have j1 : (k : Int) < (ws.length : Int) := by omega
      clear hc
      generalize ws.getD k 0 = x at *
      have hxin : inB x 0 1000000 = true := inB_true.2 ⟨x0, x1⟩
      generalize (ws.take k).sum = S at *
      go_wp2_with (go_at_call 12; refine (In_any _ _ _ _).mono ?_; rintro e w' ⟨rfl, rfl⟩)
      go_round
      case rel => exact ⟨k + 1, by omega, eI hs.out.symm, by go_num⟩
      case measure => simp [intOf]; omega
    · obtain rfl : k = ws.length := by omega
      rw [List.take_length, HZ.out]
      clear hc s0 s1
      go_wp2
      go_ret2
      exact ⟨_, rfl, Sl.nil _ _, KB⟩

theorem Dealt_any (v : Value) (T : Int) (ws : List Int) (w : World) (h : Sl w v 1 ws.length (ws.map I)) :
    Calls Try.prog 6 #[I T, v] w (GrewSl2 1 (dealO T ws).length ((dealO T ws).map I) (dealE T ws) w) := by
  by_cases c1 : ws.length < 1 ∨ 50 < ws.length
  · have e : dealE T ws = 1 := by unfold dealE; rw [if_pos c1]
    have o : dealO T ws = [] := by unfold dealO; rw [e]; rfl
    rw [e, o]; exact Dealt_size v T ws w h c1
  · cases hT : inB T 0 1000000000000 with
    | false =>
      have e : dealE T ws = 2 := by unfold dealE; rw [if_neg c1, if_pos (Or.inl hT)]
      have o : dealO T ws = [] := by unfold dealO; rw [e]; rfl
      rw [e, o]; exact Dealt_total v T ws w h (by omega) (by omega) hT
    | true =>
      cases hw : ws.all inW with
      | false =>
        have e : dealE T ws = 2 := by unfold dealE; rw [if_neg c1, if_pos (Or.inr hw)]
        have o : dealO T ws = [] := by unfold dealO; rw [e]; rfl
        rw [e, o]; exact Dealt_range v T ws w h (by omega) (by omega) hT hw
      | true =>
        have c2' : ¬ (inB T 0 1000000000000 = false ∨ ws.all inW = false) := by rw [hT, hw]; simp
        by_cases c3 : ws.sum = 0
        · have e : dealE T ws = 4 := by unfold dealE; rw [if_neg c1, if_neg c2', if_pos c3]
          have o : dealO T ws = [] := by unfold dealO; rw [e]; rfl
          rw [e, o]; exact Dealt_zero v T ws w h (by omega) (by omega) hT hw c3
        · have e : dealE T ws = 0 := by unfold dealE; rw [if_neg c1, if_neg c2', if_neg c3]
          have o : dealO T ws = dealL T ws := by unfold dealO; rw [if_pos e]
          rw [e, o, dealL_len]
          obtain ⟨od, hod⟩ := ord_exists (cutI T ws.sum ws) ws.length (by omega)
          exact Dealt_good v T ws w od hod h (by omega) (by omega) hT hw (by have := (sum_bd hw).1; omega)
end Go.Proofs.Ytdjgcenjonegjaa
