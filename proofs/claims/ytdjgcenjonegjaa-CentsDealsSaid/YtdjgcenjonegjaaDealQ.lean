/- cents.Deal, the refusals -/
import Derived.Test.YtdjgcenjonegjaaDealP
namespace Go.Proofs.Ytdjgcenjonegjaa
open Go.RowKit Go.Shelf Go.Lib Go.Sort
set_option maxRecDepth 20000

/- the start of each walk -/

theorem Deal_size (v : Value) (T : Int) (ws : List Int) (w : World) (h : Sl w v 1 ws.length (ws.map I)) (hn : ws.length < 1 ∨ 50 < ws.length) :
    Calls Try.prog 5 #[I T, v] w (GrewSl2 1 0 [] 1 w) := by
  obtain ⟨a, cap, rfl, hn', hl, h0, h⟩ := h
  have KB := (boxed_below w (.cells #[I T] 3)).alloc (boxed_below w (.cells #[I T] 3)).size (.cells #[.slice a ws.length cap] 22)
  have hin : inB (ws.length : Int) 1 50 = false := by
    rw [← Bool.not_eq_true, inB_true]; omega
  clear h h0 hl hn' hn
  go_enter Try.func5, Try.ntmps5
  go_wp2_with (go_at_call 8; refine (within_any _ _ _ _).mono ?_; rintro e w' ⟨rfl, rfl⟩)
  go_ret2
  exact ⟨_, rfl, Sl.nil _ _, KB⟩

set_option maxHeartbeats 4000000 in
theorem Deal_range (v : Value) (T : Int) (ws : List Int) (w : World) (h : Sl w v 1 ws.length (ws.map I)) (hn1 : 1 ≤ ws.length) (hn2 : ws.length ≤ 50) (hbad : (inB T 0 1000000000000 && ws.all inW) = false) :
    Calls Try.prog 5 #[I T, v] w (GrewSl2 1 0 [] 2 w) := by
  obtain ⟨a, cap, rfl, hn', hl, h0, h⟩ := h
  obtain ⟨b, off, rfl, hb, hc⟩ := h.resolve_left (by omega)
  have OT := ((Own.new (w := w) (g := w.heap.size) (by rfl) [I T] 3).alloc (.cells #[.slice (some ⟨b, off, none⟩) ws.length cap] 22)).alloc (.cells #[I 0] 3)
  have OW := (Own.new (w := (w.alloc (.cells #[I T] 3))) (g := w.heap.size + 1) (by simp) [.slice (some ⟨b, off, none⟩) ws.length cap] 22).alloc (.cells #[I 0] 3)
  have OA := Own.new (w := ((w.alloc (.cells #[I T] 3)).alloc (.cells #[.slice (some ⟨b, off, none⟩) ws.length cap] 22))) (g := w.heap.size + 2) (by simp) [I 0] 3
  have bx0 := boxed_below w (.cells #[I T] 3)
  have bx1 := bx0.alloc bx0.size (.cells #[.slice (some ⟨b, off, none⟩) ws.length cap] 22)
  have KB := bx1.alloc bx1.size (.cells #[I 0] 3)
  clear bx0 bx1
  have n1 : (1 : Int) ≤ (ws.length : Int) := by omega
  have n2 : (ws.length : Int) ≤ 50 := by omega
  have hin : inB (ws.length : Int) 1 50 = true := inB_true.2 ⟨n1, n2⟩
  clear h h0 hl hn'
  have HB := Lib.hid hbad
  clear hbad
  go_enter Try.func5, Try.ntmps5
  go_wp2_with (go_at_call 8; refine (within_any _ _ _ _).mono ?_; rintro e w' ⟨rfl, rfl⟩)
  go_loopw [7, 27] (fun s7 s27 wr => ∃ (k : Nat) (p : Bool) (x : Int), k ≤ ws.length ∧ s7 = .bool p ∧ s27 = I k ∧ 0 ≤ x ∧ x ≤ 1000000 * (k : Int) ∧ Hid (p = !(inB T 0 1000000000000 && (ws.take k).all inW)) ∧ Own wr (w.heap.size + 2) [I x] ∧ Below w.heap.size w wr) (fun _ i _ => ws.length - (intOf i).toNat)
  case atStart => exact ⟨0, !(inB T 0 1000000000000), 0, Nat.zero_le _, rfl, rfl, by omega, by omega, by simp [Hid], OA, KB⟩
  case round =>
    clear OT OW OA KB
    obtain ⟨k, p, s, hk, rfl, rfl, s0, s1, hp, OA, KB⟩ := hrel
    have hsz := OA.lt
    by_cases hlt : k < ws.length
    · have e0 := (KB.cell (p := ⟨b, off + k, none⟩) hb).trans (hc k (by simpa using hlt))
      rw [getD_map' _ _ hlt] at e0
      have hnext := Lib.hid (show (ws.take (k + 1)).all inW = ((ws.take k).all inW && inB (ws.getD k 0) 0 1000000) by
        rw [List.take_add_one, List.all_append, List.getElem?_eq_getElem hlt, List.getD_eq_getElem?_getD, List.getElem?_eq_getElem hlt]
        simp [inW])
      have j0 : (0 : Int) ≤ (k : Int) := by omega
      have j1 : (k : Int) < (ws.length : Int) := by omega
      have QA := Lib.hid OA
      have aO := OA
      have a0 := aO.cell 0 (by simp)
      have af0 := aO.frozen 0
      simp only [Nat.zero_add, List.getD_cons_zero] at a0
      clear aO
      clear hc OA
      generalize ws.getD k 0 = x at *
      cases p with
      | true =>
        have HP := Lib.hid (show true = !(inB T 0 1000000000000 && (ws.take (k + 1)).all inW) by
          rw [hnext.out, ← Bool.and_assoc]
          have := hp.out
          cases hq : (inB T 0 1000000000000 && (ws.take k).all inW)
          · rfl
          · rw [hq] at this; cases this)
        clear hnext hp
        go_wp2
        exact ⟨⟨k + 1, true, s, by omega, rfl, by go_num, s0, by omega, HP.out, QA.out, KB⟩, by simp [intOf]; omega⟩
      | false =>
        have hq : (inB T 0 1000000000000 && (ws.take k).all inW) = true := by
          have := hp.out
          cases hq : (inB T 0 1000000000000 && (ws.take k).all inW)
          · rw [hq] at this; cases this
          · rfl
        cases hxin : inB x 0 1000000 with
        | true =>
          have HP := Lib.hid (show false = !(inB T 0 1000000000000 && (ws.take (k + 1)).all inW) by rw [hnext.out, hxin, Bool.and_true, hq]; rfl)
          obtain ⟨x0, x1⟩ := inB_true.1 hxin
          clear hnext hp hq
          go_wp2_with (go_at_call 8; refine (within_any _ _ _ _).mono ?_; rintro e w' ⟨rfl, rfl⟩)
          exact ⟨⟨k + 1, false, s + x, by omega, rfl, by go_num, by omega, by omega, HP.out, QA.out.set 0 _, KB.setCell (by show w.heap.size ≤ w.heap.size + 2; omega) _⟩, by simp [intOf]; omega⟩
        | false =>
          have HP := Lib.hid (show true = !(inB T 0 1000000000000 && (ws.take (k + 1)).all inW) by rw [hnext.out, hxin, Bool.and_false, Bool.and_false]; rfl)
          clear hnext hp hq
          go_wp2_with (go_at_call 8; refine (within_any _ _ _ _).mono ?_; rintro e w' ⟨rfl, rfl⟩)
          exact ⟨⟨k + 1, true, s, by omega, rfl, by go_num, s0, by omega, HP.out, QA.out, KB⟩, by simp [intOf]; omega⟩
    · obtain rfl : k = ws.length := by omega
      have hp2 := hp.out
      rw [List.take_length, HB.out] at hp2
      subst hp2
      clear hp hc OA HB
      go_wp2
      go_ret2
      exact ⟨_, rfl, Sl.nil _ _, KB⟩

set_option maxHeartbeats 4000000 in
theorem Deal_zero (v : Value) (T : Int) (ws : List Int) (w : World) (h : Sl w v 1 ws.length (ws.map I)) (hn1 : 1 ≤ ws.length) (hn2 : ws.length ≤ 50) (hTin : inB T 0 1000000000000 = true) (hws : ws.all inW = true) (hz : ws.sum = 0) :
    Calls Try.prog 5 #[I T, v] w (GrewSl2 1 0 [] 4 w) := by
  obtain ⟨a, cap, rfl, hn', hl, h0, h⟩ := h
  obtain ⟨b, off, rfl, hb, hc⟩ := h.resolve_left (by omega)
  have OT := ((Own.new (w := w) (g := w.heap.size) (by rfl) [I T] 3).alloc (.cells #[.slice (some ⟨b, off, none⟩) ws.length cap] 22)).alloc (.cells #[I 0] 3)
  have OW := (Own.new (w := (w.alloc (.cells #[I T] 3))) (g := w.heap.size + 1) (by simp) [.slice (some ⟨b, off, none⟩) ws.length cap] 22).alloc (.cells #[I 0] 3)
  have OA := Own.new (w := ((w.alloc (.cells #[I T] 3)).alloc (.cells #[.slice (some ⟨b, off, none⟩) ws.length cap] 22))) (g := w.heap.size + 2) (by simp) [I 0] 3
  have bx0 := boxed_below w (.cells #[I T] 3)
  have bx1 := bx0.alloc bx0.size (.cells #[.slice (some ⟨b, off, none⟩) ws.length cap] 22)
  have KB := bx1.alloc bx1.size (.cells #[I 0] 3)
  clear bx0 bx1
  have n1 : (1 : Int) ≤ (ws.length : Int) := by omega
  have n2 : (ws.length : Int) ≤ 50 := by omega
  have hin : inB (ws.length : Int) 1 50 = true := inB_true.2 ⟨n1, n2⟩
  clear h h0 hl hn'
  have HW := Lib.hid hws
  have HZ := Lib.hid hz
  have hx := Lib.hid (fun k => all_get hws k)
  clear hws hz
  go_enter Try.func5, Try.ntmps5
  go_wp2_with (go_at_call 8; refine (within_any _ _ _ _).mono ?_; rintro e w' ⟨rfl, rfl⟩)
  go_loopw [7, 27] (fun s7 s27 wr => ∃ k : Nat, k ≤ ws.length ∧ s7 = .bool false ∧ s27 = I k ∧ Own wr (w.heap.size + 2) [I (ws.take k).sum] ∧ Below w.heap.size w wr) (fun _ i _ => ws.length - (intOf i).toNat)
  case atStart => exact ⟨0, Nat.zero_le _, by simp [hTin], rfl, OA, KB⟩
  case round =>
    clear OT OW OA KB
    obtain ⟨k, hk, rfl, rfl, OA, KB⟩ := hrel
    have sb := sum_bd (take_inW HW.out k)
    rw [List.length_take, Nat.min_eq_left hk] at sb
    obtain ⟨s0, s1⟩ := sb
    have hsz := OA.lt
    by_cases hlt : k < ws.length
    · have e0 := (KB.cell (p := ⟨b, off + k, none⟩) hb).trans (hc k (by simpa using hlt))
      rw [getD_map' _ _ hlt] at e0
      obtain ⟨x0, x1⟩ := hx.out k
      have hs := Lib.hid (sum_take_succ ws k hlt)
      have j0 : (0 : Int) ≤ (k : Int) := by omega
      have j1 : (k : Int) < (ws.length : Int) := by omega
      have QA := Lib.hid OA
      have aO := OA
      have a0 := aO.cell 0 (by simp)
      have af0 := aO.frozen 0
      simp only [Nat.zero_add, List.getD_cons_zero] at a0
      clear aO
      clear hc OA
      generalize ws.getD k 0 = x at *
      have hxin : inB x 0 1000000 = true := inB_true.2 ⟨x0, x1⟩
      generalize (ws.take k).sum = S at *
      go_wp2_with (go_at_call 8; refine (within_any _ _ _ _).mono ?_; rintro e w' ⟨rfl, rfl⟩)
      refine ⟨⟨k + 1, by omega, rfl, by go_num, ?_, KB.setCell (by show w.heap.size ≤ w.heap.size + 2; omega) _⟩, by simp [intOf]; omega⟩
      rw [hs.out]
      exact QA.out.set 0 _
    · obtain rfl : k = ws.length := by omega
      rw [List.take_length, HZ.out] at OA
      have aO := OA
      have a0 := aO.cell 0 (by simp)
      have af0 := aO.frozen 0
      simp only [Nat.zero_add, List.getD_cons_zero] at a0
      clear aO
      clear OA hc s0 s1
      go_wp2
      go_ret2
      exact ⟨_, rfl, Sl.nil _ _, KB⟩

theorem dealL_len (T : Int) (ws : List Int) : (dealL T ws).length = ws.length := by unfold dealL; rw [bumps_len, baseL_len]
theorem Deal_any (v : Value) (T : Int) (ws : List Int) (w : World) (h : Sl w v 1 ws.length (ws.map I)) :
    Calls Try.prog 5 #[I T, v] w (GrewSl2 1 (dealO T ws).length ((dealO T ws).map I) (dealE T ws) w) := by
  by_cases c1 : ws.length < 1 ∨ 50 < ws.length
  · have e : dealE T ws = 1 := by unfold dealE; rw [if_pos c1]
    have o : dealO T ws = [] := by unfold dealO; rw [e]; rfl
    rw [e, o]; exact Deal_size v T ws w h c1
  · by_cases c2 : (inB T 0 1000000000000 && ws.all inW) = true
    · rw [Bool.and_eq_true] at c2
      have c2' : ¬ (inB T 0 1000000000000 = false ∨ ws.all inW = false) := by rw [c2.1, c2.2]; simp
      by_cases c3 : ws.sum = 0
      · have e : dealE T ws = 4 := by unfold dealE; rw [if_neg c1, if_neg c2', if_pos c3]
        have o : dealO T ws = [] := by unfold dealO; rw [e]; rfl
        rw [e, o]; exact Deal_zero v T ws w h (by omega) (by omega) c2.1 c2.2 c3
      · have e : dealE T ws = 0 := by unfold dealE; rw [if_neg c1, if_neg c2', if_neg c3]
        have o : dealO T ws = dealL T ws := by unfold dealO; rw [if_pos e]
        rw [e, o, dealL_len]
        exact Deal_good v T ws w h (by omega) (by omega) c2.1 c2.2 (by have := (sum_bd c2.2).1; omega)
    · rw [Bool.not_eq_true] at c2
      have c2' : inB T 0 1000000000000 = false ∨ ws.all inW = false := by
        cases h1 : inB T 0 1000000000000
        · exact Or.inl rfl
        · rw [h1, Bool.true_and] at c2; exact Or.inr c2
      have e : dealE T ws = 2 := by unfold dealE; rw [if_neg c1, if_pos c2']
      have o : dealO T ws = [] := by unfold dealO; rw [e]; rfl
      rw [e, o]; exact Deal_range v T ws w h (by omega) (by omega) c2
end Go.Proofs.Ytdjgcenjonegjaa
