/- words.Cmp: slices.Reverse and slices.Compare at three words -/
import Derived.Test.YtgldppmkiieoaaaWordsUp
import Derived.Test.YtgldppmkiieoaaaEqWide
import Derived.Shelf.RegionOpenPlain
namespace Go.Proofs.Ytgldppmkiieoaaa
open Go.RowKit
set_option maxRecDepth 20000

/-- nothing came back; in block g lie these cells; of the rest nothing has turned -/
def Turned (g : Nat) (cs : List Value) (w : World) (e : Ending) (w' : World) : Prop := e = .returned (.tuple #[]) ∧ Own w' g cs ∧ Chg g w w'
set_option maxHeartbeats 2000000 in
theorem Rev3_any (g : Nat) (x y z : Nat) (w : World) (h : Own w g [U32 x, U32 y, U32 z]) : Calls Try.prog 49 #[.slice (some ⟨g, 0, none⟩) 3 3] w (Turned g [U32 z, U32 y, U32 x] w) := by
  have HO := Lib.hid h
  have cO := h
  have c0 := cO.cell 0 (by simp)
  have cf0 := cO.frozen 0
  have c1 := cO.cell 1 (by simp)
  have cf1 := cO.frozen 1
  have c2 := cO.cell 2 (by simp)
  have cf2 := cO.frozen 2
  simp only [Nat.zero_add, List.getD_cons_zero, List.getD_cons_succ] at c0 c1 c2
  clear cO
  clear h
  have mixed : Try.prog.follows .mixedOrders = true := by kernel_rfl
  go_enter Try.func49, Try.ntmps49
  go_wp2
  go_loopw [2, 3] (fun i j wr => (i = I 0 ∧ j = I 2 ∧ wr = w) ∨ (i = I 1 ∧ j = I 1 ∧ Hid (Own wr g [U32 z, U32 y, U32 x] ∧ Chg g w wr))) (fun i _ _ => (3 - intOf i).toNat)
  case atStart => exact .inl ⟨rfl, rfl, rfl⟩
  case round =>
    rcases hrel with ⟨rfl, rfl, rfl⟩ | ⟨rfl, rfl, hN⟩
    · have r1 := set_same
      have r2 := set_off
      go_wp2_with fail
      go_region_o
      go_wp2
      all_goals
        refine ⟨.inr ⟨rfl, rfl, ?_, ?_⟩, by decide⟩
        · first
            | exact ((HO.out.below (show Below _ _ _ from (by repeat first | exact Below.refl _ _ | assumption | refine drewN_below ?_ _ | refine Below.alloc ?_ (by first | exact Nat.le_refl _ | exact Below.size (by assumption) | (simp; done) | (simp; omega) | omega) _ | refine Below.setCell ?_ (by first | exact Nat.le_refl _ | (simp; done) | (simp; omega) | omega) _))).set 0 (U32 z)).set 2 (U32 x)
            | exact ((HO.out.below (show Below _ _ _ from (by repeat first | exact Below.refl _ _ | assumption | refine drewN_below ?_ _ | refine Below.alloc ?_ (by first | exact Nat.le_refl _ | exact Below.size (by assumption) | (simp; done) | (simp; omega) | omega) _ | refine Below.setCell ?_ (by first | exact Nat.le_refl _ | (simp; done) | (simp; omega) | omega) _))).set 2 (U32 x)).set 0 (U32 z)
        · first
            | exact (((Chg.refl g _).drewN _).set 0 (U32 z)).set 2 (U32 x)
            | exact (((Chg.refl g _).drewN _).set 2 (U32 x)).set 0 (U32 z)
    · go_wp2
      go_end0
      exact ⟨rfl, hN.out.1, hN.out.2⟩
theorem Compare32_any (x y : Nat) (w : World) : Calls Try.prog 76 #[U32 x, U32 y] w (Pure (I (cmpI x y)) w) := by
  rcases Nat.lt_trichotomy x y with h | h | h
  · rw [cmpI_lt h]
    have h1 : (x : Int) < (y : Int) := by omega
    go_enter Try.func76, Try.ntmps76
    go_wp2
    go_ret
    exact Pure.intro rfl
  · subst h
    rw [cmpI_eq rfl]
    have h1 : ¬ (x : Int) < (x : Int) := by omega
    go_enter Try.func76, Try.ntmps76
    go_wp2
    go_ret
    exact Pure.intro rfl
  · rw [cmpI_gt h]
    have h1 : ¬ (x : Int) < (y : Int) := by omega
    have h2 : (y : Int) < (x : Int) := by omega
    go_enter Try.func76, Try.ntmps76
    go_wp2
    go_ret
    exact Pure.intro rfl
/-- three words from the top down -/
def cmp3 (x y z x' y' z' : Nat) : Int := if cmpI x x' = 0 then (if cmpI y y' = 0 then cmpI z z' else cmpI y y') else cmpI x x'
theorem cmp3_val {a b c a' b' c' : Nat} (ha : a < 4294967296) (hb : b < 4294967296) (ha' : a' < 4294967296) (hb' : b' < 4294967296) : cmp3 c b a c' b' a' = cmpI (val [a, b, c]) (val [a', b', c']) := by
  unfold cmp3
  rw [val3, val3]
  rcases Nat.lt_trichotomy c c' with h | h | h
  · rw [cmpI_lt h, if_neg (by decide), cmpI_lt (by omega)]
  · subst h
    rw [cmpI_eq rfl, if_pos rfl]
    rcases Nat.lt_trichotomy b b' with h | h | h
    · rw [cmpI_lt h, if_neg (by decide), cmpI_lt (by omega)]
    · subst h
      rw [cmpI_eq rfl, if_pos rfl]
      rcases Nat.lt_trichotomy a a' with h | h | h
      · rw [cmpI_lt h, cmpI_lt (by omega)]
      · subst h; rw [cmpI_eq rfl, cmpI_eq rfl]
      · rw [cmpI_gt h, cmpI_gt (by omega)]
    · rw [cmpI_gt h, if_neg (by decide), cmpI_gt (by omega)]
  · rw [cmpI_gt h, if_neg (by decide), cmpI_gt (by omega)]
set_option maxHeartbeats 2000000 in
theorem Compare3_any (g g' : Nat) (x y z x' y' z' : Nat) (w : World) (h : Own w g [U32 x, U32 y, U32 z]) (h' : Own w g' [U32 x', U32 y', U32 z']) :
    Calls Try.prog 50 #[.slice (some ⟨g, 0, none⟩) 3 3, .slice (some ⟨g', 0, none⟩) 3 3] w (Pure (I (cmp3 x y z x' y' z')) w) := by
  have cO := h
  have c0 := cO.cell 0 (by simp)
  have cf0 := cO.frozen 0
  have c1 := cO.cell 1 (by simp)
  have cf1 := cO.frozen 1
  have c2 := cO.cell 2 (by simp)
  have cf2 := cO.frozen 2
  simp only [Nat.zero_add, List.getD_cons_zero, List.getD_cons_succ] at c0 c1 c2
  clear cO
  have dO := h'
  have d0 := dO.cell 0 (by simp)
  have df0 := dO.frozen 0
  have d1 := dO.cell 1 (by simp)
  have df1 := dO.frozen 1
  have d2 := dO.cell 2 (by simp)
  have df2 := dO.frozen 2
  simp only [Nat.zero_add, List.getD_cons_zero, List.getD_cons_succ] at d0 d1 d2
  clear dO
  clear h h'
  have C1 := Lib.hid (fun W => Compare32_any x x' W)
  have C2 := Lib.hid (fun W => Compare32_any y y' W)
  have C3 := Lib.hid (fun W => Compare32_any z z' W)
  have HD := Lib.hid (show cmp3 x y z x' y' z' = if cmpI x x' = 0 then (if cmpI y y' = 0 then cmpI z z' else cmpI y y') else cmpI x x' from rfl)
  generalize cmp3 x y z x' y' z' = r at *
  generalize cmpI x x' = r1 at *
  generalize cmpI y y' = r2 at *
  generalize cmpI z z' = r3 at *
  go_enter Try.func50, Try.ntmps50
  go_wp2
  go_loop [5, 6, 7, 8, 11] (fun _ _ _ _ i => i = I 0 ∨ (i = I 1 ∧ Hid (r1 = 0)) ∨ (i = I 2 ∧ Hid (r1 = 0 ∧ r2 = 0)) ∨ (i = I 3 ∧ Hid (r1 = 0 ∧ r2 = 0 ∧ r3 = 0))) (fun _ _ _ _ i => (3 - intOf i).toNat)
  case atStart => exact .inl rfl
  case round =>
    rcases hrel with rfl | ⟨rfl, e1⟩ | ⟨rfl, e1⟩ | ⟨rfl, e1⟩
    · go_wp2_with fail
      refine (C1.out _).mono ?_
      rintro e w' ⟨rfl, rfl⟩
      by_cases hz : r1 = 0
      · subst hz
        go_wp2
        go_round
        case rel => exact .inr (.inl ⟨rfl, by first | exact rfl | exact trivial⟩)
        case measure => decide
      · have hr : r = r1 := by rw [HD.out, if_neg hz]
        subst hr
        go_wp2
        go_ret
        exact Pure.intro rfl
    · go_wp2_with fail
      refine (C2.out _).mono ?_
      rintro e w' ⟨rfl, rfl⟩
      by_cases hz : r2 = 0
      · have hn := Lib.hid (And.intro e1.out hz)
        clear e1
        go_wp2
        go_round
        case rel => exact .inr (.inr (.inl ⟨rfl, hn⟩))
        case measure => decide
      · have hr : r = r2 := by rw [HD.out, if_pos e1.out, if_neg hz]
        clear e1
        go_wp2
        go_ret
        exact Pure.intro (eI (by first | rfl | exact hr.symm))
    · go_wp2_with fail
      refine (C3.out _).mono ?_
      rintro e w' ⟨rfl, rfl⟩
      by_cases hz : r3 = 0
      · have hn := Lib.hid (And.intro e1.out.1 (And.intro e1.out.2 hz))
        clear e1
        go_wp2
        go_round
        case rel => exact .inr (.inr (.inr ⟨rfl, hn⟩))
        case measure => decide
      · have hr : r = r3 := by rw [HD.out, if_pos e1.out.1, if_pos e1.out.2]
        clear e1
        go_wp2
        go_ret
        exact Pure.intro (eI (by first | rfl | exact hr.symm))
    · have hr : r = 0 := by rw [HD.out, if_pos e1.out.1, if_pos e1.out.2.1, e1.out.2.2]
      clear e1
      go_wp2
      go_ret
      exact Pure.intro (eI (by first | rfl | exact hr.symm))
theorem Own.row3 {w : World} {g : Nat} {x y z : Value} (h : Own w g [x, y, z]) : w.cell? ⟨g, 0, none⟩ = some x ∧ w.cell? ⟨g, 1, none⟩ = some y ∧ w.cell? ⟨g, 2, none⟩ = some z := by
  have h0 := h.cell 0 (by simp)
  have h1 := h.cell 1 (by simp)
  have h2 := h.cell 2 (by simp)
  simp only [Nat.zero_add, List.getD_cons_zero, List.getD_cons_succ] at h0 h1 h2
  exact ⟨h0, h1, h2⟩
theorem val3_inj {a b c a' b' c' : Nat} (ha : a < 4294967296) (hb : b < 4294967296) (ha' : a' < 4294967296) (hb' : b' < 4294967296) (h : val [a, b, c] = val [a', b', c']) : a = a' ∧ b = b' ∧ c = c' := by
  rw [val3, val3] at h; omega
theorem wide_ne {a b c a' b' c' : Nat} (h : ¬ (a = a' ∧ b = b' ∧ c = c')) (w : World) : (Op.equalIn 10000 24 (.agg #[U32 a, U32 b, U32 c]) (.agg #[U32 a', U32 b', U32 c'])).run Try.prog w = .ok false w := by
  rw [equalWide, decide_eq_false (by omega)]
set_option maxHeartbeats 2000000 in
theorem WCmp_any (a b c a' b' c' : Nat) (w : World) (ha : a < 4294967296) (hb : b < 4294967296) (ha' : a' < 4294967296) (hb' : b' < 4294967296) :
    Calls Try.prog 20 #[wideV a b c, wideV a' b' c'] w (Grew (I (cmpI (val [a, b, c]) (val [a', b', c']))) w) := by
  have hc3 := cmp3_val (c := c) (c' := c') ha hb ha' hb'
  have kA := boxed_below w (.cells #[U32 a, U32 b, U32 c] 24)
  have kB := kA.alloc kA.size (.cells #[U32 a', U32 b', U32 c'] 24)
  by_cases h : a = a' ∧ b = b' ∧ c = c'
  · obtain ⟨rfl, rfl, rfl⟩ := h
    rw [cmpI_eq rfl]
    have EQ := fun W => equalWide_same a b c W
    clear hc3
    go_enter Try.func20, Try.ntmps20
    go_wp2
    go_ret
    exact Grew.intro rfl kB
  · have EQ := fun W => wide_ne h W
    rw [← hc3]
    have o1 := (Own.new (w := w) rfl [U32 a, U32 b, U32 c] 24).alloc (.cells #[U32 a', U32 b', U32 c'] 24)
    have o2 := Own.new (w := w.alloc (.cells #[U32 a, U32 b, U32 c] 24)) (g := w.heap.size + 1) (by simp) [U32 a', U32 b', U32 c'] 24
    clear hc3
    go_enter Try.func20, Try.ntmps20
    go_wp2
    go_quiet (fail)
    go_wp2_with fail
    refine (Rev3_any _ _ _ _ _ (o1.below (by repeat first | with_reducible assumption | with_reducible exact Below.refl _ _ | with_reducible refine Below.setCell ?_ (by first | exact Nat.le_refl _ | exact Below.size (by assumption) | (simp; done) | (simp; omega) | omega) _ | with_reducible refine Below.alloc ?_ (by first | exact Nat.le_refl _ | exact Below.size (by assumption) | (simp; done) | (simp; omega) | omega) _ | with_reducible refine drewN_below ?_ _ | with_reducible refine Below.drew ?_))).mono ?_
    rintro e w1 ⟨rfl, p1, c1⟩
    have p2 := (o2.below (show Below _ _ _ from (by repeat first | with_reducible assumption | with_reducible exact Below.refl _ _ | with_reducible refine Below.setCell ?_ (by first | exact Nat.le_refl _ | exact Below.size (by assumption) | (simp; done) | (simp; omega) | omega) _ | with_reducible refine Below.alloc ?_ (by first | exact Nat.le_refl _ | exact Below.size (by assumption) | (simp; done) | (simp; omega) | omega) _ | with_reducible refine drewN_below ?_ _ | with_reducible refine Below.drew ?_))).chg c1 (by omega)
    have k1 := c1.below (show Below w.heap.size w _ from (by repeat first | with_reducible assumption | with_reducible exact Below.refl _ _ | with_reducible refine Below.setCell ?_ (by first | exact Nat.le_refl _ | exact Below.size (by assumption) | (simp; done) | (simp; omega) | omega) _ | with_reducible refine Below.alloc ?_ (by first | exact Nat.le_refl _ | exact Below.size (by assumption) | (simp; done) | (simp; omega) | omega) _ | with_reducible refine drewN_below ?_ _ | with_reducible refine Below.drew ?_)) (Nat.le_refl _) (by simp; omega)
    clear o1 o2 c1 kA kB
    go_wp2_with fail
    refine (Rev3_any _ _ _ _ _ p2).mono ?_
    rintro e w2 ⟨rfl, q2, c2⟩
    have q1 := p1.chg c2 (by omega)
    have k2 := c2.below k1 (by omega) k1.size
    clear p1 p2 c2 k1
    go_wp2_with fail
    refine (Compare3_any _ _ _ _ _ _ _ _ _ q1 q2).mono ?_
    rintro e w' ⟨rfl, rfl⟩
    go_wp2
    go_ret
    exact Grew.intro rfl k2
set_option maxHeartbeats 4000000 in
theorem Compared_any (a b c a' b' c' : Nat) (w : World) (ha : a < 4294967296) (hb : b < 4294967296) (hc : c < 4294967296) (ha' : a' < 4294967296) (hb' : b' < 4294967296) (hc' : c' < 4294967296) :
    Calls Try.prog 21 #[wideV a b c, wideV a' b' c'] w (Grew (I (cmpI (val [a, b, c]) (val [a', b', c']))) w) := by
  have B := Lib.hid (fun W => big96_any a b c W ha hb hc)
  have B' := Lib.hid (fun W => big96_any a' b' c' W ha' hb' hc')
  have C := Lib.hid (fun x y W hx hy => Cmp_any x y (val [a, b, c]) (val [a', b', c']) W hx hy)
  generalize cmpI (val [a, b, c]) (val [a', b', c']) = r at *
  generalize val [a, b, c] = n at *
  generalize val [a', b', c'] = m at *
  have kA := boxed_below w (.cells #[U32 a, U32 b, U32 c] 24)
  have kB := kA.alloc kA.size (.cells #[U32 a', U32 b', U32 c'] 24)
  have o2 := Own.new (w := w.alloc (.cells #[U32 a, U32 b, U32 c] 24)) (g := w.heap.size + 1) (by simp) [U32 a', U32 b', U32 c'] 24
  have six := Lib.hid (fun W k => (o2.below (w' := W) k).row3)
  have KW := Lib.hid (fun W (k : Below ((w.alloc (.cells #[U32 a, U32 b, U32 c] 24)).alloc (.cells #[U32 a', U32 b', U32 c'] 24)).heap.size ((w.alloc (.cells #[U32 a, U32 b, U32 c] 24)).alloc (.cells #[U32 a', U32 b', U32 c'] 24)) W) => kB.trans (k.mono kB.size))
  clear o2 kA
  go_enter Try.func21, Try.ntmps21
  go_wp2
  go_region_with (first
    | ((with_reducible refine (B.out _).mono ?_); rintro e w1 ⟨x, rfl, hx, hxl, k1⟩; obtain ⟨g0, g1, g2⟩ := six.out w1 ⟨k1.os, k1.tape, k1.output, k1.size, k1.block⟩; have k1' := KW.out w1 ⟨k1.os, k1.tape, k1.output, k1.size, k1.block⟩)
    | ((with_reducible refine (B'.out _).mono ?_); rintro e w2 ⟨y, rfl, hy, hyl, k2⟩)
    | ((with_reducible refine (C.out _ _ _ ?_ ?_).mono ?_); (first | exact hx.below k2); (first | exact hy); rintro e w3 ⟨rfl, k3⟩))
  all_goals
    have k2' := k1'.trans (k2.mono k1'.size)
    have k3' := k2'.trans (k3.mono k2'.size)
    go_wp2
    go_ret
    exact Grew.intro rfl k3'
end Go.Proofs.Ytgldppmkiieoaaa
