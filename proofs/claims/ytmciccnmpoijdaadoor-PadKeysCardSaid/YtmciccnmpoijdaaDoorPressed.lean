/- ref.Pressed -/
import Derived.Test.YtmciccnmpoijdaaDoorPadMay
namespace Go.Proofs.YtmciccnmpoijdaaDoor
open Go.RowKit
set_option maxRecDepth 20000

theorem Pressed_no (D : ByteArray) (b : Bool) (r : Int) (w : World) (hm : mayP D = false) : Calls Tryd.prog 13 #[padV D b, .int .i32 r] w (EntP ⟨#[]⟩ false [] 5 w) := by
  have M := Lib.hid (fun W => PadMay_any D b W)
  have O1 := Lib.hid ((Own.new (w := w) rfl [.string D, .bool b] 24).alloc (.cells #[.string ⟨#[]⟩, .bool false] 24))
  have O2 := Lib.hid (Own.new (w := w.alloc (.cells #[.string D, .bool b] 24)) (g := w.heap.size + 1) (by simp) [.string ⟨#[]⟩, .bool false] 24)
  have KW : Hid (Below w.heap.size w ((w.alloc (.cells #[.string D, .bool b] 24)).alloc (.cells #[.string ⟨#[]⟩, .bool false] 24))) := (boxed_below w _).alloc (by simp) _
  rw [hm] at M
  clear hm
  go_enter Tryd.func13, Tryd.ntmps13
  go_wp2_with fail
  refine (M.out _).mono ?_
  rintro e w1 ⟨rfl, k1⟩
  have qO := O2.out.below k1
  have q0 := qO.cell 0 (by simp)
  have qf0 := qO.frozen 0
  have q1 := qO.cell 1 (by simp)
  have qf1 := qO.frozen 1
  simp only [Nat.zero_add, List.getD_cons_zero, List.getD_cons_succ] at q0 q1
  clear qO
  have kk := KW.out.trans (k1.mono KW.out.size)
  have r1 := set_same
  have r2 := set_off
  clear k1 M O1 O2 KW
  go_wp2
  exact bodyPost_ret (v := T3 (padV ⟨#[]⟩ false) (.slice none 0 0) (I 5)) (by simp [results, Tryd.results13, go_sem, *]; try omega) rfl (⟨_, rfl, Sl.nil _ _, (by repeat first | with_reducible assumption | with_reducible exact Below.refl _ _ | with_reducible refine Below.setCell ?_ (by first | exact Nat.le_refl _ | exact Below.size (by assumption) | (simp; done) | (simp; omega) | omega) _ | with_reducible refine Below.alloc ?_ (by first | exact Nat.le_refl _ | exact Below.size (by assumption) | (simp; done) | (simp; omega) | omega) _ | with_reducible refine drewN_below ?_ _ | with_reducible refine Below.drew ?_)⟩)
set_option maxHeartbeats 1000000 in
theorem Pressed_dig (D : ByteArray) (b : Bool) (r : Int) (w : World) (hm : mayP D = true) (h : 0 ≤ keyDig r) (h30 : D.size < 30) : Calls Tryd.prog 13 #[padV D b, .int .i32 r] w (EntP (D ++ decS (keyDig r).toNat) b [] 0 w) := by
  have hb := keyDig_bd r
  obtain ⟨v, hv⟩ := Int.eq_ofNat_of_zero_le h
  have hKD := Lib.hid (fun W => KeyDigit_any r W)
  rw [hv] at hKD
  rw [hv, Int.toNat_natCast]
  have B := Lib.hid (fun W => Dec_nat v W (by omega))
  have hsz := decS_size (n := v) (k := 1) (by omega) (by decide)
  generalize decS v = dv at *
  have q2 : (0 : Int) ≤ (v : Int) := by omega
  have h2 : (D.size : Int) < 30 := by omega
  have hov : ¬ 9223372036854775807 < D.size + dv.size := by omega
  clear hv h hb h30
  have M := Lib.hid (fun W => PadMay_any D b W)
  have O1 := Lib.hid ((Own.new (w := w) rfl [.string D, .bool b] 24).alloc (.cells #[.string ⟨#[]⟩, .bool false] 24))
  have O2 := Lib.hid (Own.new (w := w.alloc (.cells #[.string D, .bool b] 24)) (g := w.heap.size + 1) (by simp) [.string ⟨#[]⟩, .bool false] 24)
  have KW : Hid (Below w.heap.size w ((w.alloc (.cells #[.string D, .bool b] 24)).alloc (.cells #[.string ⟨#[]⟩, .bool false] 24))) := (boxed_below w _).alloc (by simp) _
  rw [hm] at M
  clear hm
  go_enter Tryd.func13, Tryd.ntmps13
  go_wp2_with fail
  refine (M.out _).mono ?_
  rintro e w1 ⟨rfl, k1⟩
  have pO := O1.out.below k1
  have p0 := pO.cell 0 (by simp)
  have pf0 := pO.frozen 0
  have p1 := pO.cell 1 (by simp)
  have pf1 := pO.frozen 1
  simp only [Nat.zero_add, List.getD_cons_zero, List.getD_cons_succ] at p0 p1
  clear pO
  have qO := O2.out.below k1
  have q0 := qO.cell 0 (by simp)
  have qf0 := qO.frozen 0
  have q1 := qO.cell 1 (by simp)
  have qf1 := qO.frozen 1
  simp only [Nat.zero_add, List.getD_cons_zero, List.getD_cons_succ] at q0 q1
  clear qO
  have kk := KW.out.trans (k1.mono KW.out.size)
  have hz := (O2.out.below k1).lt
  have hz0 : w.heap.size < w1.heap.size := by omega
  have r1 := set_same
  have r2 := set_off
  have r3 := set_blk
  clear k1 M O1 O2 KW
  go_wp2_with (go_at_call 26; refine (hKD.out _).mono ?_; rintro e w' ⟨rfl, rfl⟩)
  go_region_held3 (fun w' => w'.cell? ⟨w.heap.size, 0, none⟩ = some (.string D) ∧ w'.cell? ⟨w.heap.size, 1, none⟩ = some (.bool b)) (first | go_keep | (go_split_ands; refine ⟨?_, ?_⟩ <;> assumption))
    ((first
      | ((with_reducible refine (B.out _).mono ?_); rintro e w2 ⟨rfl, k2⟩
         have x0 : w2.cell? ⟨w.heap.size, 0, none⟩ = some (.string D) := (k2.cell (p := ⟨w.heap.size, 0, none⟩) hz0).trans p0
         have x1 : w2.cell? ⟨w.heap.size, 1, none⟩ = some (.bool b) := (k2.cell (p := ⟨w.heap.size, 1, none⟩) hz0).trans p1
         have y0 : w2.cell? ⟨w.heap.size + 1, 0, none⟩ = some (.string ⟨#[]⟩) := (k2.cell (p := ⟨w.heap.size + 1, 0, none⟩) hz).trans q0
         have y1 : w2.cell? ⟨w.heap.size + 1, 1, none⟩ = some (.bool false) := (k2.cell (p := ⟨w.heap.size + 1, 1, none⟩) hz).trans q1
         have yf0 : w2.frozen? ⟨w.heap.size + 1, 0, none⟩ = false := (k2.frozen (p := ⟨w.heap.size + 1, 0, none⟩) hz).trans qf0
         have yf1 : w2.frozen? ⟨w.heap.size + 1, 1, none⟩ = false := (k2.frozen (p := ⟨w.heap.size + 1, 1, none⟩) hz).trans qf1)
      | fail))
  all_goals
    have k2' : Below w1.heap.size w1 w2 := ⟨k2.os, k2.tape, k2.output, k2.size, k2.block⟩
    have kk2 := kk.trans (k2'.mono kk.size)
    clear k2 k2' q0 q1 qf0 qf1 p0 p1 pf0 pf1
    go_wp2
    exact bodyPost_ret (v := T3 (padV (D ++ dv) b) (.slice none 0 0) (I 0)) (by simp [results, Tryd.results13, go_sem, *]; try omega) rfl (⟨_, rfl, Sl.nil _ _, (by repeat first | with_reducible assumption | with_reducible exact Below.refl _ _ | with_reducible refine Below.setCell ?_ (by first | exact Nat.le_refl _ | exact Below.size (by assumption) | (simp; done) | (simp; omega) | omega) _ | with_reducible refine Below.alloc ?_ (by first | exact Nat.le_refl _ | exact Below.size (by assumption) | (simp; done) | (simp; omega) | omega) _ | with_reducible refine drewN_below ?_ _ | with_reducible refine Below.drew ?_)⟩)
theorem not_dig {D : ByteArray} {r : Int} (h : ¬ (0 ≤ keyDig r ∧ D.size < 30)) : keyDig r < 0 ∨ (0 ≤ keyDig r ∧ ¬ (D.size : Int) < 30) := by omega
set_option maxHeartbeats 1000000 in
theorem Pressed_skip (D : ByteArray) (b : Bool) (r : Int) (w : World) (hm : mayP D = true) (h : r = 32 ∨ r = 45 ∨ r = 160) : Calls Tryd.prog 13 #[padV D b, .int .i32 r] w (EntP D b [] 0 w) := by
  rcases h with rfl | rfl | rfl
  all_goals
    have M := Lib.hid (fun W => PadMay_any D b W)
    have O1 := Lib.hid ((Own.new (w := w) rfl [.string D, .bool b] 24).alloc (.cells #[.string ⟨#[]⟩, .bool false] 24))
    have O2 := Lib.hid (Own.new (w := w.alloc (.cells #[.string D, .bool b] 24)) (g := w.heap.size + 1) (by simp) [.string ⟨#[]⟩, .bool false] 24)
    have KW : Hid (Below w.heap.size w ((w.alloc (.cells #[.string D, .bool b] 24)).alloc (.cells #[.string ⟨#[]⟩, .bool false] 24))) := (boxed_below w _).alloc (by simp) _
    rw [hm] at M
    have hn30 := (mayP_true.1 hm).1
    clear hm
    go_enter Tryd.func13, Tryd.ntmps13
    go_wp2_with fail
    refine (M.out _).mono ?_
    rintro e w1 ⟨rfl, k1⟩
    have pO := O1.out.below k1
    have p0 := pO.cell 0 (by simp)
    have pf0 := pO.frozen 0
    have p1 := pO.cell 1 (by simp)
    have pf1 := pO.frozen 1
    simp only [Nat.zero_add, List.getD_cons_zero, List.getD_cons_succ] at p0 p1
    clear pO
    have qO := O2.out.below k1
    have q0 := qO.cell 0 (by simp)
    have qf0 := qO.frozen 0
    have q1 := qO.cell 1 (by simp)
    have qf1 := qO.frozen 1
    simp only [Nat.zero_add, List.getD_cons_zero, List.getD_cons_succ] at q0 q1
    clear qO
    have kk := KW.out.trans (k1.mono KW.out.size)
    have hz := (O2.out.below k1).lt
    have hz0 : w.heap.size < w1.heap.size := by omega
    have m1 : ¬ w1.heap.size = w.heap.size + 1 := by omega
    have m2 : ¬ w.heap.size + 1 = w1.heap.size := by omega
    have r1 := set_same
    have r2 := set_off
    have r3 := set_blk
    clear k1 M O1 O2 KW
    go_wp2_with (go_at_call 26; refine (KeyDigit_any _ _).mono ?_; rintro e w' ⟨rfl, rfl⟩)
    exact bodyPost_ret (v := T3 (padV D b) (.slice none 0 0) (I 0)) (by simp [results, Tryd.results13, go_sem, *]; try omega) rfl (⟨_, rfl, Sl.nil _ _, (by repeat first | with_reducible assumption | with_reducible exact Below.refl _ _ | with_reducible refine Below.setCell ?_ (by first | exact Nat.le_refl _ | exact Below.size (by assumption) | (simp; done) | (simp; omega) | omega) _ | with_reducible refine Below.alloc ?_ (by first | exact Nat.le_refl _ | exact Below.size (by assumption) | (simp; done) | (simp; omega) | omega) _ | with_reducible refine drewN_below ?_ _ | with_reducible refine Below.drew ?_)⟩)
set_option maxHeartbeats 1000000 in
theorem Pressed_back (D : ByteArray) (b : Bool) (w : World) (hm : mayP D = true) : Calls Tryd.prog 13 #[padV D b, .int .i32 42] w (EntP (D.extract 0 (D.size - 1)) b [] 0 w) := by
  by_cases h0 : D.size = 0
  · have he : D = ⟨#[]⟩ := by
      cases D with | mk d => have : d = #[] := Array.eq_empty_of_size_eq_zero h0; rw [this]
    subst he
    obtain ⟨D, hD⟩ : ∃ D, D = (⟨#[]⟩ : ByteArray) := ⟨_, rfl⟩
    have hx : (⟨#[]⟩ : ByteArray).extract 0 ((⟨#[]⟩ : ByteArray).size - 1) = D := by rw [hD]; rfl
    have hm' : mayP D = true := by rw [hD]; exact hm
    have hz' : (D.size : Int) = 0 := by rw [hD]; rfl
    have hz2 : D.size = 0 := by omega
    rw [hx]
    rw [show (padV (⟨#[]⟩ : ByteArray) b) = padV D b by rw [hD]]
    clear hx hm h0 hD
    have hm := hm'
    clear hm'
    have M := Lib.hid (fun W => PadMay_any D b W)
    have O1 := Lib.hid ((Own.new (w := w) rfl [.string D, .bool b] 24).alloc (.cells #[.string ⟨#[]⟩, .bool false] 24))
    have O2 := Lib.hid (Own.new (w := w.alloc (.cells #[.string D, .bool b] 24)) (g := w.heap.size + 1) (by simp) [.string ⟨#[]⟩, .bool false] 24)
    have KW : Hid (Below w.heap.size w ((w.alloc (.cells #[.string D, .bool b] 24)).alloc (.cells #[.string ⟨#[]⟩, .bool false] 24))) := (boxed_below w _).alloc (by simp) _
    rw [hm] at M
    have hn30 := (mayP_true.1 hm).1
    clear hm
    go_enter Tryd.func13, Tryd.ntmps13
    go_wp2_with fail
    refine (M.out _).mono ?_
    rintro e w1 ⟨rfl, k1⟩
    have pO := O1.out.below k1
    have p0 := pO.cell 0 (by simp)
    have pf0 := pO.frozen 0
    have p1 := pO.cell 1 (by simp)
    have pf1 := pO.frozen 1
    simp only [Nat.zero_add, List.getD_cons_zero, List.getD_cons_succ] at p0 p1
    clear pO
    have qO := O2.out.below k1
    have q0 := qO.cell 0 (by simp)
    have qf0 := qO.frozen 0
    have q1 := qO.cell 1 (by simp)
    have qf1 := qO.frozen 1
    simp only [Nat.zero_add, List.getD_cons_zero, List.getD_cons_succ] at q0 q1
    clear qO
    have kk := KW.out.trans (k1.mono KW.out.size)
    have hz := (O2.out.below k1).lt
    have hz0 : w.heap.size < w1.heap.size := by omega
    have m1 : ¬ w1.heap.size = w.heap.size + 1 := by omega
    have m2 : ¬ w.heap.size + 1 = w1.heap.size := by omega
    have r1 := set_same
    have r2 := set_off
    have r3 := set_blk
    clear k1 M O1 O2 KW
    go_wp2_with (go_at_call 26; refine (KeyDigit_any _ _).mono ?_; rintro e w' ⟨rfl, rfl⟩)
    exact bodyPost_ret (v := T3 (padV D b) (.slice none 0 0) (I 0)) (by simp [results, Tryd.results13, go_sem, *]; try omega) rfl (⟨_, rfl, Sl.nil _ _, (by repeat first | with_reducible assumption | with_reducible exact Below.refl _ _ | with_reducible refine Below.setCell ?_ (by first | exact Nat.le_refl _ | exact Below.size (by assumption) | (simp; done) | (simp; omega) | omega) _ | with_reducible refine Below.alloc ?_ (by first | exact Nat.le_refl _ | exact Below.size (by assumption) | (simp; done) | (simp; omega) | omega) _ | with_reducible refine drewN_below ?_ _ | with_reducible refine Below.drew ?_)⟩)
  · have e1 : ((D.size : Int) - 1).toNat = D.size - 1 := by omega
    have i0 : (0 : Int) ≤ (D.size : Int) - 1 := by omega
    have i1 : (D.size : Int) - 1 ≤ (D.size : Int) := by omega
    have i2 : (0 : Int) < (D.size : Int) := by omega
    have i3 : (1 : Int) ≤ (D.size : Int) := by omega
    have i4 : IntKind.i64.wrap ((D.size : Int) - 1) = (D.size : Int) - 1 := IntWalk.i64_in _ (by have := (mayP_true.1 hm).1; omega)
    clear h0
    have M := Lib.hid (fun W => PadMay_any D b W)
    have O1 := Lib.hid ((Own.new (w := w) rfl [.string D, .bool b] 24).alloc (.cells #[.string ⟨#[]⟩, .bool false] 24))
    have O2 := Lib.hid (Own.new (w := w.alloc (.cells #[.string D, .bool b] 24)) (g := w.heap.size + 1) (by simp) [.string ⟨#[]⟩, .bool false] 24)
    have KW : Hid (Below w.heap.size w ((w.alloc (.cells #[.string D, .bool b] 24)).alloc (.cells #[.string ⟨#[]⟩, .bool false] 24))) := (boxed_below w _).alloc (by simp) _
    rw [hm] at M
    have hn30 := (mayP_true.1 hm).1
    clear hm
    go_enter Tryd.func13, Tryd.ntmps13
    go_wp2_with fail
    refine (M.out _).mono ?_
    rintro e w1 ⟨rfl, k1⟩
    have pO := O1.out.below k1
    have p0 := pO.cell 0 (by simp)
    have pf0 := pO.frozen 0
    have p1 := pO.cell 1 (by simp)
    have pf1 := pO.frozen 1
    simp only [Nat.zero_add, List.getD_cons_zero, List.getD_cons_succ] at p0 p1
    clear pO
    have qO := O2.out.below k1
    have q0 := qO.cell 0 (by simp)
    have qf0 := qO.frozen 0
    have q1 := qO.cell 1 (by simp)
    have qf1 := qO.frozen 1
    simp only [Nat.zero_add, List.getD_cons_zero, List.getD_cons_succ] at q0 q1
    clear qO
    have kk := KW.out.trans (k1.mono KW.out.size)
    have hz := (O2.out.below k1).lt
    have hz0 : w.heap.size < w1.heap.size := by omega
    have m1 : ¬ w1.heap.size = w.heap.size + 1 := by omega
    have m2 : ¬ w.heap.size + 1 = w1.heap.size := by omega
    have r1 := set_same
    have r2 := set_off
    have r3 := set_blk
    clear k1 M O1 O2 KW
    go_wp2_with (go_at_call 26; refine (KeyDigit_any _ _).mono ?_; rintro e w' ⟨rfl, rfl⟩)
    go_region_held3 (fun w' => w'.cell? ⟨w.heap.size, 0, none⟩ = some (.string D) ∧ w'.cell? ⟨w.heap.size, 1, none⟩ = some (.bool b)) (first | go_keep | (go_split_ands; refine ⟨?_, ?_⟩ <;> assumption)) (fail)
    all_goals
      go_wp2
      exact bodyPost_ret (v := T3 (padV (D.extract 0 (D.size - 1)) b) (.slice none 0 0) (I 0)) (by simp [results, Tryd.results13, go_sem, *]; try omega) rfl (⟨_, rfl, Sl.nil _ _, (by repeat first | with_reducible assumption | with_reducible exact Below.refl _ _ | with_reducible refine Below.setCell ?_ (by first | exact Nat.le_refl _ | exact Below.size (by assumption) | (simp; done) | (simp; omega) | omega) _ | with_reducible refine Below.alloc ?_ (by first | exact Nat.le_refl _ | exact Below.size (by assumption) | (simp; done) | (simp; omega) | omega) _ | with_reducible refine drewN_below ?_ _ | with_reducible refine Below.drew ?_)⟩)
theorem Pressed_bad (D : ByteArray) (w : World) (hm : mayP D = true) : Calls Tryd.prog 13 #[padV D true, .int .i32 35] w (EntP ⟨#[]⟩ false [⟨⟨#[]⟩, 3⟩] 0 w) := by
  obtain ⟨b, hb⟩ : ∃ b, b = true := ⟨_, rfl⟩
  rw [← hb]
  have HB := Lib.hid hb
  have M := Lib.hid (fun W => PadMay_any D b W)
  have O1 := Lib.hid ((Own.new (w := w) rfl [.string D, .bool b] 24).alloc (.cells #[.string ⟨#[]⟩, .bool false] 24))
  have O2 := Lib.hid (Own.new (w := w.alloc (.cells #[.string D, .bool b] 24)) (g := w.heap.size + 1) (by simp) [.string ⟨#[]⟩, .bool false] 24)
  have KW : Hid (Below w.heap.size w ((w.alloc (.cells #[.string D, .bool b] 24)).alloc (.cells #[.string ⟨#[]⟩, .bool false] 24))) := (boxed_below w _).alloc (by simp) _
  rw [hm] at M
  have hn30 := (mayP_true.1 hm).1
  clear hm
  subst hb
  go_enter Tryd.func13, Tryd.ntmps13
  go_wp2_with fail
  refine (M.out _).mono ?_
  rintro e w1 ⟨rfl, k1⟩
  have pO := O1.out.below k1
  have p0 := pO.cell 0 (by simp)
  have pf0 := pO.frozen 0
  have p1 := pO.cell 1 (by simp)
  have pf1 := pO.frozen 1
  simp only [Nat.zero_add, List.getD_cons_zero, List.getD_cons_succ] at p0 p1
  clear pO
  have qO := O2.out.below k1
  have q0 := qO.cell 0 (by simp)
  have qf0 := qO.frozen 0
  have q1 := qO.cell 1 (by simp)
  have qf1 := qO.frozen 1
  simp only [Nat.zero_add, List.getD_cons_zero, List.getD_cons_succ] at q0 q1
  clear qO
  have kk := KW.out.trans (k1.mono KW.out.size)
  have hz := (O2.out.below k1).lt
  have hz0 : w.heap.size < w1.heap.size := by omega
  have m1 : ¬ w1.heap.size = w.heap.size + 1 := by omega
  have m2 : ¬ w.heap.size + 1 = w1.heap.size := by omega
  have r1 := set_same
  have r2 := set_off
  have r3 := set_blk
  clear k1 M O1 O2 KW
  go_wp2_with (go_at_call 26; refine (KeyDigit_any _ _).mono ?_; rintro e w' ⟨rfl, rfl⟩)
  refine bodyPost_ret (v := T3 (padV ⟨#[]⟩ false) (.slice (some ⟨w1.heap.size, 0, none⟩) 1 1) (I 0)) (by simp [results, Tryd.results13, go_sem, *]; try omega) rfl ⟨_, rfl, ?_, ?_⟩
  · have hnew : ∀ V : World, V.heap.size = w1.heap.size → Own (V.alloc (.cells #[.string ⟨#[]⟩, I 3] 50)) w1.heap.size [.string ⟨#[]⟩, I 3] := fun V h => Own.new h.symm [.string ⟨#[]⟩, I 3] 50
    exact (hnew _ (by simp)).sl (by decide) (by decide) rfl
  · exact (by repeat first | with_reducible assumption | with_reducible exact Below.refl _ _ | with_reducible refine Below.setCell ?_ (by first | exact Nat.le_refl _ | exact Below.size (by assumption) | (simp; done) | (simp; omega) | omega) _ | with_reducible refine Below.alloc ?_ (by first | exact Nat.le_refl _ | exact Below.size (by assumption) | (simp; done) | (simp; omega) | omega) _ | with_reducible refine drewN_below ?_ _ | with_reducible refine Below.drew ?_)
theorem Pressed_nil (D : ByteArray) (w : World) (h0 : D.size = 0) : Calls Tryd.prog 13 #[padV D false, .int .i32 35] w (EntP ⟨#[]⟩ false [] 0 w) := by
  have he : D = ⟨#[]⟩ := by
    cases D with | mk d => have : d = #[] := Array.eq_empty_of_size_eq_zero h0; rw [this]
  subst he
  have hm : mayP ⟨#[]⟩ = true := mayP_nil
  obtain ⟨D, hD⟩ : ∃ D, D = (⟨#[]⟩ : ByteArray) := ⟨_, rfl⟩
  obtain ⟨b, hb⟩ : ∃ b, b = false := ⟨_, rfl⟩
  subst hD
  subst hb
  have M := Lib.hid (fun W => PadMay_any ⟨#[]⟩ false W)
  rw [hm] at M
  have O1 := Lib.hid ((Own.new (w := w) rfl [.string ⟨#[]⟩, .bool false] 24).alloc (.cells #[.string ⟨#[]⟩, .bool false] 24))
  have O2 := Lib.hid (Own.new (w := w.alloc (.cells #[.string ⟨#[]⟩, .bool false] 24)) (g := w.heap.size + 1) (by simp) [.string ⟨#[]⟩, .bool false] 24)
  have KW : Hid (Below w.heap.size w ((w.alloc (.cells #[.string ⟨#[]⟩, .bool false] 24)).alloc (.cells #[.string ⟨#[]⟩, .bool false] 24))) := (boxed_below w _).alloc (by simp) _
  clear hm
  go_enter Tryd.func13, Tryd.ntmps13
  go_wp2_with fail
  refine (M.out _).mono ?_
  rintro e w1 ⟨rfl, k1⟩
  have pO := O1.out.below k1
  have p0 := pO.cell 0 (by simp)
  have pf0 := pO.frozen 0
  have p1 := pO.cell 1 (by simp)
  have pf1 := pO.frozen 1
  simp only [Nat.zero_add, List.getD_cons_zero, List.getD_cons_succ] at p0 p1
  clear pO
  have qO := O2.out.below k1
  have q0 := qO.cell 0 (by simp)
  have qf0 := qO.frozen 0
  have q1 := qO.cell 1 (by simp)
  have qf1 := qO.frozen 1
  simp only [Nat.zero_add, List.getD_cons_zero, List.getD_cons_succ] at q0 q1
  clear qO
  have kk := KW.out.trans (k1.mono KW.out.size)
  have r1 := set_same
  have r2 := set_off
  have r3 := set_blk
  clear k1 M O1 O2 KW
  go_wp2_with (go_at_call 26; refine (KeyDigit_any _ _).mono ?_; rintro e w' ⟨rfl, rfl⟩)
  exact bodyPost_ret (v := T3 (padV ⟨#[]⟩ false) (.slice none 0 0) (I 0)) (by simp [results, Tryd.results13, go_sem, *]; try omega) rfl (⟨_, rfl, Sl.nil _ _, (by repeat first | with_reducible assumption | with_reducible exact Below.refl _ _ | with_reducible refine Below.setCell ?_ (by first | exact Nat.le_refl _ | exact Below.size (by assumption) | (simp; done) | (simp; omega) | omega) _ | with_reducible refine Below.alloc ?_ (by first | exact Nat.le_refl _ | exact Below.size (by assumption) | (simp; done) | (simp; omega) | omega) _ | with_reducible refine drewN_below ?_ _ | with_reducible refine Below.drew ?_)⟩)
theorem Pressed_done (D : ByteArray) (w : World) (hm : mayP D = true) (h0 : 0 < D.size) : Calls Tryd.prog 13 #[padV D false, .int .i32 35] w (EntP ⟨#[]⟩ false [⟨D, 0⟩] 0 w) := by
  have i2 : ¬ (D.size : Int) = 0 := by omega
  have i3 : ((D.size : Int) == 0) = false := by rw [beq_eq_false_iff_ne]; omega
  have M := Lib.hid (fun W => PadMay_any D false W)
  rw [hm] at M
  have O1 := Lib.hid ((Own.new (w := w) rfl [.string D, .bool false] 24).alloc (.cells #[.string ⟨#[]⟩, .bool false] 24))
  have O2 := Lib.hid (Own.new (w := w.alloc (.cells #[.string D, .bool false] 24)) (g := w.heap.size + 1) (by simp) [.string ⟨#[]⟩, .bool false] 24)
  have KW : Hid (Below w.heap.size w ((w.alloc (.cells #[.string D, .bool false] 24)).alloc (.cells #[.string ⟨#[]⟩, .bool false] 24))) := (boxed_below w _).alloc (by simp) _
  have hn30 := (mayP_true.1 hm).1
  clear hm h0
  go_enter Tryd.func13, Tryd.ntmps13
  go_wp2_with fail
  refine (M.out _).mono ?_
  rintro e w1 ⟨rfl, k1⟩
  have pO := O1.out.below k1
  have p0 := pO.cell 0 (by simp)
  have pf0 := pO.frozen 0
  have p1 := pO.cell 1 (by simp)
  have pf1 := pO.frozen 1
  simp only [Nat.zero_add, List.getD_cons_zero, List.getD_cons_succ] at p0 p1
  clear pO
  have qO := O2.out.below k1
  have q0 := qO.cell 0 (by simp)
  have qf0 := qO.frozen 0
  have q1 := qO.cell 1 (by simp)
  have qf1 := qO.frozen 1
  simp only [Nat.zero_add, List.getD_cons_zero, List.getD_cons_succ] at q0 q1
  clear qO
  have kk := KW.out.trans (k1.mono KW.out.size)
  have hz := (O2.out.below k1).lt
  have hz0 : w.heap.size < w1.heap.size := by omega
  have m1 : ¬ w1.heap.size = w.heap.size + 1 := by omega
  have m2 : ¬ w.heap.size + 1 = w1.heap.size := by omega
  have r1 := set_same
  have r2 := set_off
  have r3 := set_blk
  clear k1 M O1 O2 KW
  go_wp2_with (go_at_call 26; refine (KeyDigit_any _ _).mono ?_; rintro e w' ⟨rfl, rfl⟩)
  go_region_held3 (fun w' => w'.cell? ⟨w.heap.size, 0, none⟩ = some (.string D)) (first | go_keep | assumption) (fail)
  all_goals
    go_wp2
    refine bodyPost_ret (v := T3 (padV ⟨#[]⟩ false) (.slice (some ⟨w1.heap.size, 0, none⟩) 1 1) (I 0)) (by simp [results, Tryd.results13, go_sem, *]; try omega) rfl ⟨_, rfl, ?_, ?_⟩
    · have hnew : ∀ V : World, V.heap.size = w1.heap.size → Own (V.alloc (.cells #[.string D, I 0] 50)).drew w1.heap.size [.string D, I 0] := fun V h => Own.new h.symm [.string D, I 0] 50
      exact (hnew _ (by simp)).sl (by decide) (by decide) rfl
    · exact (by repeat first | with_reducible assumption | with_reducible exact Below.refl _ _ | with_reducible refine Below.setCell ?_ (by first | exact Nat.le_refl _ | exact Below.size (by assumption) | (simp; done) | (simp; omega) | omega) _ | with_reducible refine Below.alloc ?_ (by first | exact Nat.le_refl _ | exact Below.size (by assumption) | (simp; done) | (simp; omega) | omega) _ | with_reducible refine drewN_below ?_ _ | with_reducible refine Below.drew ?_)
set_option maxHeartbeats 1000000 in
theorem Pressed_wrong (D : ByteArray) (b : Bool) (r : Int) (w : World) (hm : mayP D = true) (h1 : ¬ (r = 32 ∨ r = 45 ∨ r = 160)) (h2 : ¬ r = 42) (h3 : ¬ r = 35) (h : keyDig r < 0 ∨ D.size = 30) : Calls Tryd.prog 13 #[padV D b, .int .i32 r] w (EntP D true [] 0 w) := by
  have n1 : ¬ r = 32 := fun e => h1 (.inl e)
  have n2 : ¬ r = 45 := fun e => h1 (.inr (.inl e))
  have n3 : ¬ r = 160 := fun e => h1 (.inr (.inr e))
  have g1 : (r == 32) = false := by rw [beq_eq_false_iff_ne]; exact n1
  have g2 : (r == 45) = false := by rw [beq_eq_false_iff_ne]; exact n2
  have g3 : (r == 160) = false := by rw [beq_eq_false_iff_ne]; exact n3
  have hKD := Lib.hid (fun W => KeyDigit_any r W)
  have h' : keyDig r < 0 ∨ ¬ keyDig r < 0 ∧ ¬ (D.size : Int) < 30 := by omega
  generalize keyDig r = d at *
  clear h h1
  rcases h' with h4 | ⟨h4, h5⟩
  all_goals
    have M := Lib.hid (fun W => PadMay_any D b W)
    have O1 := Lib.hid ((Own.new (w := w) rfl [.string D, .bool b] 24).alloc (.cells #[.string ⟨#[]⟩, .bool false] 24))
    have O2 := Lib.hid (Own.new (w := w.alloc (.cells #[.string D, .bool b] 24)) (g := w.heap.size + 1) (by simp) [.string ⟨#[]⟩, .bool false] 24)
    have KW : Hid (Below w.heap.size w ((w.alloc (.cells #[.string D, .bool b] 24)).alloc (.cells #[.string ⟨#[]⟩, .bool false] 24))) := (boxed_below w _).alloc (by simp) _
    rw [hm] at M
    clear hm
    go_enter Tryd.func13, Tryd.ntmps13
    go_wp2_with fail
    refine (M.out _).mono ?_
    rintro e w1 ⟨rfl, k1⟩
    have pO := O1.out.below k1
    have p0 := pO.cell 0 (by simp)
    have pf0 := pO.frozen 0
    have p1 := pO.cell 1 (by simp)
    have pf1 := pO.frozen 1
    simp only [Nat.zero_add, List.getD_cons_zero, List.getD_cons_succ] at p0 p1
    clear pO
    have qO := O2.out.below k1
    have q0 := qO.cell 0 (by simp)
    have qf0 := qO.frozen 0
    have q1 := qO.cell 1 (by simp)
    have qf1 := qO.frozen 1
    simp only [Nat.zero_add, List.getD_cons_zero, List.getD_cons_succ] at q0 q1
    clear qO
    have kk := KW.out.trans (k1.mono KW.out.size)
    have hz := (O2.out.below k1).lt
    have hz0 : w.heap.size < w1.heap.size := by omega
    have m1 : ¬ w1.heap.size = w.heap.size + 1 := by omega
    have m2 : ¬ w.heap.size + 1 = w1.heap.size := by omega
    have r1 := set_same
    have r2 := set_off
    have r3 := set_blk
    clear k1 M O1 O2 KW
    go_wp2_with (go_at_call 26; refine (hKD.out _).mono ?_; rintro e w' ⟨rfl, rfl⟩)
    exact bodyPost_ret (v := T3 (padV D true) (.slice none 0 0) (I 0)) (by simp [results, Tryd.results13, go_sem, *]; try omega) rfl (⟨_, rfl, Sl.nil _ _, (by repeat first | with_reducible assumption | with_reducible exact Below.refl _ _ | with_reducible refine Below.setCell ?_ (by first | exact Nat.le_refl _ | exact Below.size (by assumption) | (simp; done) | (simp; omega) | omega) _ | with_reducible refine Below.alloc ?_ (by first | exact Nat.le_refl _ | exact Below.size (by assumption) | (simp; done) | (simp; omega) | omega) _ | with_reducible refine drewN_below ?_ _ | with_reducible refine Below.drew ?_)⟩)
theorem Pressed_any (D : ByteArray) (b : Bool) (r : Int) (w : World) : Calls Tryd.prog 13 #[padV D b, .int .i32 r] w (KeyP (keyX D b r) (keyE D) w) := by
  cases hm : mayP D
  · have e1 : keyX D b r = (⟨#[]⟩, false, none) := by unfold keyX; rw [hm]; rfl
    have e2 : keyE D = 5 := by unfold keyE; rw [hm]; rfl
    rw [e1, e2]
    exact Pressed_no D b r w hm
  have e1 : keyX D b r = pressR D b r := by unfold keyX; rw [hm]; rfl
  have e2 : keyE D = 0 := by unfold keyE; rw [hm]; rfl
  rw [e1, e2]
  have hn30 := (mayP_true.1 hm).1
  unfold pressR
  by_cases h1 : r = 32 ∨ r = 45 ∨ r = 160
  · rw [if_pos h1]; exact Pressed_skip D b r w hm h1
  rw [if_neg h1]
  by_cases h2 : r = 42
  · rw [if_pos h2]; subst h2; exact Pressed_back D b w hm
  rw [if_neg h2]
  by_cases h3 : r = 35
  · rw [if_pos h3]
    subst h3
    cases b
    · rw [if_neg (by decide)]
      by_cases h0 : D.size = 0
      · rw [if_pos h0]; exact Pressed_nil D w h0
      · rw [if_neg h0]; exact Pressed_done D w hm (by omega)
    · rw [if_pos rfl]; exact Pressed_bad D w hm
  rw [if_neg h3]
  by_cases h4 : keyDig r < 0 ∨ D.size = 30
  · rw [if_pos h4]; exact Pressed_wrong D b r w hm h1 h2 h3 h4
  · rw [if_neg h4]
    exact Pressed_dig D b r w hm (by omega) (by omega)
end Go.Proofs.YtmciccnmpoijdaaDoor
