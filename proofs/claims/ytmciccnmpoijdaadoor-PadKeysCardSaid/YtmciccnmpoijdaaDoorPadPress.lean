/- keypad.press: one key -/
import Derived.Test.YtmciccnmpoijdaaDoorPad
import Derived.Deep.RegionHeld3
namespace Go.Proofs.YtmciccnmpoijdaaDoor
open Go.RowKit
set_option maxRecDepth 20000

theorem mayP_true {D : ByteArray} : mayP D = true ↔ D.size ≤ 30 ∧ allDig D D.size = true := by unfold mayP; simp
/-- what one key does -/
def pressR (D : ByteArray) (b : Bool) (r : Int) : ByteArray × Bool × Option (ByteArray × Int) :=
  if r = 32 ∨ r = 45 ∨ r = 160 then (D, b, none)
  else if r = 42 then (D.extract 0 (D.size - 1), b, none)
  else if r = 35 then (if b then (⟨#[]⟩, false, some (⟨#[]⟩, 3)) else if D.size = 0 then (⟨#[]⟩, false, none) else (⟨#[]⟩, false, some (D, 0)))
  else if keyDig r < 0 ∨ D.size = 30 then (D, true, none)
  else (D ++ decS (keyDig r).toNat, b, none)
def PrN (D : ByteArray) (b : Bool) (w : World) (e : Ending) (w' : World) : Prop := e = .returned (T2 (padV D b) (.pointer none)) ∧ Below w.heap.size w w'
def PrS (D : ByteArray) (b : Bool) (t : ByteArray) (c : Int) (w : World) (e : Ending) (w' : World) : Prop := ∃ g, e = .returned (T2 (padV D b) (.pointer (some ⟨g, 0, none⟩))) ∧ w.heap.size ≤ g ∧ Own w' g [.string t, I c] ∧ Below w.heap.size w w'
theorem dig_facts {r : Int} (h : 0 ≤ keyDig r) : ¬ r = 32 ∧ ¬ r = 45 ∧ ¬ r = 160 ∧ ¬ r = 42 ∧ ¬ r = 35 := by
  unfold keyDig at h
  refine ⟨?_, ?_, ?_, ?_, ?_⟩ <;> (rintro rfl; revert h; decide)
theorem last_some (s : ByteArray) (w : World) (h0 : 0 < s.size) (hs : s.size ≤ 30) (ha : bat s (s.size - 1) < 128) : Calls Tryd.prog 49 #[.string s] w (Pure (T2 (.int .i32 (bat s (s.size - 1))) (I 1)) w) := by
  have e1 : ((s.size : Int) - 1).toNat = s.size - 1 := by omega
  have g1 : s.size - 1 < s.size := by omega
  have i0 : (0 : Int) ≤ (s.size : Int) - 1 := by omega
  have i1 : (s.size : Int) - 1 < (s.size : Int) := by omega
  have b1 := bat_eq g1
  have h1 : ¬ (s.size : Int) = 0 := by omega
  have h2 : ((s.size : Int) == 0) = false := by rw [beq_eq_false_iff_ne]; omega
  have hx : ((bat s (s.size - 1) : Nat) : Int) < 128 := by omega
  clear ha
  go_enter Tryd.func49, Tryd.ntmps49
  go_wp2
  go_ret2
  exact Pure.intro rfl
theorem last_none (w : World) : Calls Tryd.prog 49 #[.string ⟨#[]⟩] w (Pure (T2 (.int .i32 65533) (I 0)) w) := by
  go_enter Tryd.func49, Tryd.ntmps49
  go_wp2
  go_ret2
  exact Pure.intro rfl
theorem press_skip (D : ByteArray) (b : Bool) (r : Int) (w : World) (h : r = 32 ∨ r = 45 ∨ r = 160) : Calls Tryd.prog 22 #[padV D b, .int .i32 r] w (PrN D b w) := by
  rcases h with rfl | rfl | rfl
  all_goals
    go_enter Tryd.func22, Tryd.ntmps22
    go_wp2
    exact bodyPost_ret (v := T2 (padV D b) (.pointer none)) (by simp [results, Tryd.results22, go_sem, *]; try omega) rfl (⟨rfl, (by repeat first | with_reducible assumption | with_reducible exact Below.refl _ _ | with_reducible refine Below.setCell ?_ (by first | exact Nat.le_refl _ | exact Below.size (by assumption) | (simp; done) | (simp; omega) | omega) _ | with_reducible refine Below.alloc ?_ (by first | exact Nat.le_refl _ | exact Below.size (by assumption) | (simp; done) | (simp; omega) | omega) _ | with_reducible refine drewN_below ?_ _ | with_reducible refine Below.drew ?_)⟩)
theorem press_back (D : ByteArray) (b : Bool) (w : World) (hm : mayP D = true) : Calls Tryd.prog 22 #[padV D b, .int .i32 42] w (PrN (D.extract 0 (D.size - 1)) b w) := by
  obtain ⟨h30, hall⟩ := mayP_true.1 hm
  by_cases h0 : D.size = 0
  · have he : D = ⟨#[]⟩ := by
      cases D with | mk d => have : d = #[] := Array.eq_empty_of_size_eq_zero h0; rw [this]
    subst he
    have L := Lib.hid (fun W => last_none W)
    go_enter Tryd.func22, Tryd.ntmps22
    go_wp2_with fail
    refine (L.out _).mono ?_
    rintro e w' ⟨rfl, rfl⟩
    go_wp2
    exact bodyPost_ret (v := T2 (padV ByteArray.empty b) (.pointer none)) (by simp [results, Tryd.results22, go_sem, *]; try omega) rfl (⟨rfl, (by repeat first | with_reducible assumption | with_reducible exact Below.refl _ _ | with_reducible refine Below.setCell ?_ (by first | exact Nat.le_refl _ | exact Below.size (by assumption) | (simp; done) | (simp; omega) | omega) _ | with_reducible refine Below.alloc ?_ (by first | exact Nat.le_refl _ | exact Below.size (by assumption) | (simp; done) | (simp; omega) | omega) _ | with_reducible refine drewN_below ?_ _ | with_reducible refine Below.drew ?_)⟩)
  · have ha : bat D (D.size - 1) < 128 := by
      have := digAt_true.1 (allDig_at hall (show D.size - 1 < D.size by omega))
      omega
    have L := Lib.hid (fun W => last_some D W (by omega) h30 ha)
    have e1 : ((D.size : Int) - 1).toNat = D.size - 1 := by omega
    have i0 : (0 : Int) ≤ (D.size : Int) - 1 := by omega
    have i1 : (D.size : Int) - 1 ≤ (D.size : Int) := by omega
    have i2 : (1 : Int) ≤ (D.size : Int) := by omega
    generalize bat D (D.size - 1) = c at *
    clear hm hall h0 ha
    go_enter Tryd.func22, Tryd.ntmps22
    go_wp2_with fail
    refine (L.out _).mono ?_
    rintro e w' ⟨rfl, rfl⟩
    go_wp2
    exact bodyPost_ret (v := T2 (padV (D.extract 0 (D.size - 1)) b) (.pointer none)) (by simp [results, Tryd.results22, go_sem, *]; try omega) rfl (⟨rfl, (by repeat first | with_reducible assumption | with_reducible exact Below.refl _ _ | with_reducible refine Below.setCell ?_ (by first | exact Nat.le_refl _ | exact Below.size (by assumption) | (simp; done) | (simp; omega) | omega) _ | with_reducible refine Below.alloc ?_ (by first | exact Nat.le_refl _ | exact Below.size (by assumption) | (simp; done) | (simp; omega) | omega) _ | with_reducible refine drewN_below ?_ _ | with_reducible refine Below.drew ?_)⟩)
theorem press_bad (D : ByteArray) (w : World) : Calls Tryd.prog 22 #[padV D true, .int .i32 35] w (PrS ⟨#[]⟩ false ⟨#[]⟩ 3 w) := by
  go_enter Tryd.func22, Tryd.ntmps22
  go_wp2
  exact bodyPost_ret (v := T2 (padV ⟨#[]⟩ false) (.pointer (some ⟨w.heap.size + 1 + 1, 0, none⟩))) (by simp [results, Tryd.results22, go_sem, *]; try omega) rfl (⟨_, rfl, by omega, Own.new (by simp) [.string ⟨#[]⟩, I 3] _, (by repeat first | with_reducible assumption | with_reducible exact Below.refl _ _ | with_reducible refine Below.setCell ?_ (by first | exact Nat.le_refl _ | exact Below.size (by assumption) | (simp; done) | (simp; omega) | omega) _ | with_reducible refine Below.alloc ?_ (by first | exact Nat.le_refl _ | exact Below.size (by assumption) | (simp; done) | (simp; omega) | omega) _ | with_reducible refine drewN_below ?_ _ | with_reducible refine Below.drew ?_)⟩)
theorem press_nil (D : ByteArray) (w : World) (h0 : D.size = 0) : Calls Tryd.prog 22 #[padV D false, .int .i32 35] w (PrN ⟨#[]⟩ false w) := by
  have he : D = ⟨#[]⟩ := by
    cases D with | mk d => have : d = #[] := Array.eq_empty_of_size_eq_zero h0; rw [this]
  subst he
  go_enter Tryd.func22, Tryd.ntmps22
  go_wp2
  exact bodyPost_ret (v := T2 (padV ⟨#[]⟩ false) (.pointer none)) (by simp [results, Tryd.results22, go_sem, *]; try omega) rfl (⟨rfl, (by repeat first | with_reducible assumption | with_reducible exact Below.refl _ _ | with_reducible refine Below.setCell ?_ (by first | exact Nat.le_refl _ | exact Below.size (by assumption) | (simp; done) | (simp; omega) | omega) _ | with_reducible refine Below.alloc ?_ (by first | exact Nat.le_refl _ | exact Below.size (by assumption) | (simp; done) | (simp; omega) | omega) _ | with_reducible refine drewN_below ?_ _ | with_reducible refine Below.drew ?_)⟩)
theorem press_done (D : ByteArray) (w : World) (h0 : 0 < D.size) : Calls Tryd.prog 22 #[padV D false, .int .i32 35] w (PrS ⟨#[]⟩ false D 0 w) := by
  have hne := empty_toList h0
  go_enter Tryd.func22, Tryd.ntmps22
  have O1 := Lib.hid ((Own.new (w := w) rfl [.string D, .bool false] 24).alloc (.cells #[.string ⟨#[]⟩, .bool false] 24))
  have O2 := Lib.hid (Own.new (w := w.alloc (.cells #[.string D, .bool false] 24)) (g := w.heap.size + 1) (by simp) [.string ⟨#[]⟩, .bool false] 24)
  have KW : Hid (Below w.heap.size w ((w.alloc (.cells #[.string D, .bool false] 24)).alloc (.cells #[.string ⟨#[]⟩, .bool false] 24))) := (boxed_below w _).alloc (by simp) _
  go_wp2
  generalize (w.alloc (.cells #[.string D, .bool false] 24)).alloc (.cells #[.string ⟨#[]⟩, .bool false] 24) = W at *
  have pO := O1.out
  have p0 := pO.cell 0 (by simp)
  have pf0 := pO.frozen 0
  have p1 := pO.cell 1 (by simp)
  have pf1 := pO.frozen 1
  simp only [Nat.zero_add, List.getD_cons_zero, List.getD_cons_succ] at p0 p1
  clear pO
  have qO := O2.out
  have q0 := qO.cell 0 (by simp)
  have qf0 := qO.frozen 0
  have q1 := qO.cell 1 (by simp)
  have qf1 := qO.frozen 1
  simp only [Nat.zero_add, List.getD_cons_zero, List.getD_cons_succ] at q0 q1
  clear qO
  have hz1 := O1.out.lt
  have hz2 := O2.out.lt
  have kW := KW.out
  have m1 : ¬ W.heap.size = w.heap.size + 1 := by omega
  have m2 : ¬ w.heap.size + 1 = W.heap.size := by omega
  have r1 := set_same
  have r2 := set_off
  have r3 := set_blk
  go_region_held3 (fun w' => w'.cell? ⟨w.heap.size, 0, none⟩ = some (.string D)) (first | go_keep | assumption) (fail)
  all_goals
    go_wp2
    refine bodyPost_ret (v := T2 (padV ⟨#[]⟩ false) (.pointer (some ⟨W.heap.size, 0, none⟩))) (by simp [results, Tryd.results22, go_sem, *]; try omega) rfl ⟨_, rfl, by omega, ?_, ?_⟩
    · have hnew : ∀ V : World, V.heap.size = W.heap.size → Own (V.alloc (.cells #[.string D, I 0] 50)).drew W.heap.size [.string D, I 0] := fun V h => Own.new h.symm [.string D, I 0] 50
      exact hnew _ (by simp)
    · exact (by repeat first | with_reducible assumption | with_reducible exact Below.refl _ _ | with_reducible refine Below.setCell ?_ (by first | exact Nat.le_refl _ | exact Below.size (by assumption) | (simp; done) | (simp; omega) | omega) _ | with_reducible refine Below.alloc ?_ (by first | exact Nat.le_refl _ | exact Below.size (by assumption) | (simp; done) | (simp; omega) | omega) _ | with_reducible refine drewN_below ?_ _ | with_reducible refine Below.drew ?_)
theorem press_wrong (D : ByteArray) (b : Bool) (r : Int) (w : World) (h1 : ¬ (r = 32 ∨ r = 45 ∨ r = 160)) (h2 : ¬ r = 42) (h3 : ¬ r = 35) (h : keyDig r < 0 ∨ D.size = 30) : Calls Tryd.prog 22 #[padV D b, .int .i32 r] w (PrN D true w) := by
  have V := Lib.hid (fun W => value_any r W)
  have n1 : ¬ r = 32 := fun e => h1 (.inl e)
  have n2 : ¬ r = 45 := fun e => h1 (.inr (.inl e))
  have n3 : ¬ r = 160 := fun e => h1 (.inr (.inr e))
  have h' : keyDig r < 0 ∨ ¬ keyDig r < 0 ∧ (D.size : Int) = 30 := by omega
  generalize keyDig r = d at *
  clear h h1
  rcases h' with h4 | ⟨h4, h5⟩
  all_goals
    go_enter Tryd.func22, Tryd.ntmps22
    go_wp2_with fail
    refine (V.out _).mono ?_
    rintro e w1 ⟨rfl, k1⟩
    have pO := ((Own.new (w := w) rfl [.string D, .bool b] 24).alloc (.cells #[.string ⟨#[]⟩, .bool false] 24)).below k1
    have p0 := pO.cell 0 (by simp)
    have pf0 := pO.frozen 0
    have p1 := pO.cell 1 (by simp)
    have pf1 := pO.frozen 1
    simp only [Nat.zero_add, List.getD_cons_zero, List.getD_cons_succ] at p0 p1
    clear pO
    have qO := (Own.new (w := w.alloc (.cells #[.string D, .bool b] 24)) (g := w.heap.size + 1) (by simp) [.string ⟨#[]⟩, .bool false] 24).below k1
    have q0 := qO.cell 0 (by simp)
    have qf0 := qO.frozen 0
    have q1 := qO.cell 1 (by simp)
    have qf1 := qO.frozen 1
    simp only [Nat.zero_add, List.getD_cons_zero, List.getD_cons_succ] at q0 q1
    clear qO
    have kk := below_box (below_box k1)
    have r1 := set_same
    have r2 := set_off
    have r3 := set_blk
    clear k1
    go_wp2
    exact bodyPost_ret (v := T2 (padV D true) (.pointer none)) (by simp [results, Tryd.results22, go_sem, *]; try omega) rfl (⟨rfl, (by repeat first | with_reducible assumption | with_reducible exact Below.refl _ _ | with_reducible refine Below.setCell ?_ (by first | exact Nat.le_refl _ | exact Below.size (by assumption) | (simp; done) | (simp; omega) | omega) _ | with_reducible refine Below.alloc ?_ (by first | exact Nat.le_refl _ | exact Below.size (by assumption) | (simp; done) | (simp; omega) | omega) _ | with_reducible refine drewN_below ?_ _ | with_reducible refine Below.drew ?_)⟩)
theorem conv_dig (v : Nat) (hv : v < 10) (w : World) : (convert 21 9 (.int .i32 (48 + (v : Int)))).run Tryd.prog w = .ok (.string (decS v)) w := by
  rw [decS_small hv]
  have h0 : (convert 21 9 (.int .i32 48)).run Tryd.prog w = .ok (.string ⟨#[48]⟩) w := by kernel_rfl
  have h1 : (convert 21 9 (.int .i32 49)).run Tryd.prog w = .ok (.string ⟨#[49]⟩) w := by kernel_rfl
  have h2 : (convert 21 9 (.int .i32 50)).run Tryd.prog w = .ok (.string ⟨#[50]⟩) w := by kernel_rfl
  have h3 : (convert 21 9 (.int .i32 51)).run Tryd.prog w = .ok (.string ⟨#[51]⟩) w := by kernel_rfl
  have h4 : (convert 21 9 (.int .i32 52)).run Tryd.prog w = .ok (.string ⟨#[52]⟩) w := by kernel_rfl
  have h5 : (convert 21 9 (.int .i32 53)).run Tryd.prog w = .ok (.string ⟨#[53]⟩) w := by kernel_rfl
  have h6 : (convert 21 9 (.int .i32 54)).run Tryd.prog w = .ok (.string ⟨#[54]⟩) w := by kernel_rfl
  have h7 : (convert 21 9 (.int .i32 55)).run Tryd.prog w = .ok (.string ⟨#[55]⟩) w := by kernel_rfl
  have h8 : (convert 21 9 (.int .i32 56)).run Tryd.prog w = .ok (.string ⟨#[56]⟩) w := by kernel_rfl
  have h9 : (convert 21 9 (.int .i32 57)).run Tryd.prog w = .ok (.string ⟨#[57]⟩) w := by kernel_rfl
  match v, hv with
  | 0, _ => exact h0
  | 1, _ => exact h1
  | 2, _ => exact h2
  | 3, _ => exact h3
  | 4, _ => exact h4
  | 5, _ => exact h5
  | 6, _ => exact h6
  | 7, _ => exact h7
  | 8, _ => exact h8
  | 9, _ => exact h9
theorem press_dig (D : ByteArray) (b : Bool) (r : Int) (w : World) (h : 0 ≤ keyDig r) (h30 : D.size < 30) : Calls Tryd.prog 22 #[padV D b, .int .i32 r] w (PrN (D ++ decS (keyDig r).toNat) b w) := by
  have V := Lib.hid (fun W => value_any r W)
  obtain ⟨n1, n2, n3, n4, n5⟩ := dig_facts h
  have hb := keyDig_bd r
  obtain ⟨v, hv⟩ := Int.eq_ofNat_of_zero_le h
  rw [hv] at V hb ⊢
  rw [Int.toNat_natCast]
  have hv9 : v < 10 := by omega
  have hcv := fun W => conv_dig v hv9 W
  have hsz := decS_size (n := v) (k := 1) (by omega) (by decide)
  generalize decS v = dv at *
  have h1 : ¬ (v : Int) < 0 := by omega
  have h2 : ¬ (D.size : Int) = 30 := by omega
  have h2b : ((D.size : Int) == 30) = false := by rw [beq_eq_false_iff_ne]; omega
  have q1 : IntKind.i32.wrap (48 + (v : Int)) = 48 + (v : Int) := by simp [IntKind.wrap, IntKind.bits, IntKind.signed]; omega
  have q2 : (0 : Int) ≤ (v : Int) := by omega
  have q3 : (v : Int) < 10 := by omega
  have hov : ¬ 9223372036854775807 < D.size + dv.size := by omega
  clear hv h hb
  go_enter Tryd.func22, Tryd.ntmps22
  go_wp2_with fail
  refine (V.out _).mono ?_
  rintro e w1 ⟨rfl, k1⟩
  have pO := ((Own.new (w := w) rfl [.string D, .bool b] 24).alloc (.cells #[.string ⟨#[]⟩, .bool false] 24)).below k1
  have p0 := pO.cell 0 (by simp)
  have pf0 := pO.frozen 0
  have p1 := pO.cell 1 (by simp)
  have pf1 := pO.frozen 1
  simp only [Nat.zero_add, List.getD_cons_zero, List.getD_cons_succ] at p0 p1
  clear pO
  have qO := (Own.new (w := w.alloc (.cells #[.string D, .bool b] 24)) (g := w.heap.size + 1) (by simp) [.string ⟨#[]⟩, .bool false] 24).below k1
  have q0 := qO.cell 0 (by simp)
  have qf0 := qO.frozen 0
  have q1 := qO.cell 1 (by simp)
  have qf1 := qO.frozen 1
  simp only [Nat.zero_add, List.getD_cons_zero, List.getD_cons_succ] at q0 q1
  clear qO
  have kk := below_box (below_box k1)
  have r1 := set_same
  have r2 := set_off
  have r3 := set_blk
  clear k1
  go_wp2
  exact bodyPost_ret (v := T2 (padV (D ++ dv) b) (.pointer none)) (by simp [results, Tryd.results22, go_sem, *]; try omega) rfl (⟨rfl, (by repeat first | with_reducible assumption | with_reducible exact Below.refl _ _ | with_reducible refine Below.setCell ?_ (by first | exact Nat.le_refl _ | exact Below.size (by assumption) | (simp; done) | (simp; omega) | omega) _ | with_reducible refine Below.alloc ?_ (by first | exact Nat.le_refl _ | exact Below.size (by assumption) | (simp; done) | (simp; omega) | omega) _ | with_reducible refine drewN_below ?_ _ | with_reducible refine Below.drew ?_)⟩)
def PrP (x : ByteArray × Bool × Option (ByteArray × Int)) (w : World) : Ending → World → Prop := match x with
  | (D, b, none) => PrN D b w
  | (D, b, some (t, c)) => PrS D b t c w
theorem press_any (D : ByteArray) (b : Bool) (r : Int) (w : World) (hm : mayP D = true) : Calls Tryd.prog 22 #[padV D b, .int .i32 r] w (PrP (pressR D b r) w) := by
  unfold pressR
  by_cases h1 : r = 32 ∨ r = 45 ∨ r = 160
  · rw [if_pos h1]; exact press_skip D b r w h1
  rw [if_neg h1]
  by_cases h2 : r = 42
  · rw [if_pos h2]; subst h2; exact press_back D b w hm
  rw [if_neg h2]
  by_cases h3 : r = 35
  · rw [if_pos h3]
    subst h3
    cases b
    · rw [if_neg (by decide)]
      by_cases h0 : D.size = 0
      · rw [if_pos h0]; exact press_nil D w h0
      · rw [if_neg h0]; exact press_done D w (by omega)
    · rw [if_pos rfl]; exact press_bad D w
  rw [if_neg h3]
  by_cases h4 : keyDig r < 0 ∨ D.size = 30
  · rw [if_pos h4]; exact press_wrong D b r w h1 h2 h3 h4
  · rw [if_neg h4]
    have := (mayP_true.1 hm).1
    exact press_dig D b r w (by omega) (by omega)
/-- what a pad holds stays digits -/
theorem decS_digit {v : Nat} (hv : v < 10) : (decS v).size = 1 ∧ bat (decS v) 0 = 48 + v := by
  rw [decS_small hv]
  refine ⟨rfl, ?_⟩
  show (UInt8.ofNat (48 + v)).toNat = _
  simp
  omega
theorem mayP_push {D : ByteArray} {v : Nat} (hm : mayP D = true) (h30 : D.size < 30) (hv : v < 10) : mayP (D ++ decS v) = true := by
  obtain ⟨h1, h2⟩ := mayP_true.1 hm
  obtain ⟨z1, z2⟩ := decS_digit hv
  rw [mayP_true]
  have hz : (D ++ decS v).size = D.size + 1 := by rw [ByteArray.size_append, z1]
  refine ⟨by omega, ?_⟩
  unfold allDig
  rw [List.all_eq_true]
  intro j hj
  have hj := List.mem_range.1 hj
  unfold digAt
  rw [bat_append]
  by_cases hlt : j < D.size
  · rw [if_pos hlt]; exact allDig_at h2 hlt
  · rw [if_neg hlt, show j - D.size = 0 by omega, z2, inB_true]; omega
theorem mayP_cut {D : ByteArray} (hm : mayP D = true) : mayP (D.extract 0 (D.size - 1)) = true := by
  obtain ⟨h1, h2⟩ := mayP_true.1 hm
  rw [mayP_true]
  have hz : (D.extract 0 (D.size - 1)).size = D.size - 1 := size_extract D 0 (D.size - 1) (by omega)
  refine ⟨by omega, ?_⟩
  unfold allDig
  rw [List.all_eq_true]
  intro j hj
  have hj := List.mem_range.1 hj
  unfold digAt
  rw [bat_extract D 0 (D.size - 1) j (by omega) (by omega), Nat.zero_add]
  exact allDig_at h2 (by omega)
theorem mayP_nil : mayP ⟨#[]⟩ = true := rfl
theorem mayP_press {D : ByteArray} {b : Bool} {r : Int} (hm : mayP D = true) : mayP (pressR D b r).1 = true := by
  unfold pressR
  split
  · exact hm
  · split
    · exact mayP_cut hm
    · split
      · split
        · exact mayP_nil
        · split
          · exact mayP_nil
          · exact mayP_nil
      · split
        · exact hm
        · have hb := keyDig_bd r
          have := (mayP_true.1 hm).1
          exact mayP_push hm (by omega) (by omega)
end Go.Proofs.YtmciccnmpoijdaaDoor
