/- keypad.may, ref.PadMay; keypad.Press -/
import Derived.Test.YtmciccnmpoijdaaDoorPadPress
namespace Go.Proofs.YtmciccnmpoijdaaDoor
open Go.RowKit
set_option maxRecDepth 20000

def MRel (D : ByteArray) (W : World) (k : Nat) (wr : World) : Prop := allDig D k = true ∧ wr.heap[W.heap.size + 1]? = some (.stringIter D k) ∧ Below W.heap.size W wr
theorem MRel.start {D : ByteArray} {b : Bool} {W : World} : MRel D W 0 ((W.alloc (.cells #[.string D, .bool b] 24)).iter D 0) := by
  have h := World.iter_heap (W.alloc (.cells #[.string D, .bool b] 24)) D 0
  rw [World.size_alloc] at h
  exact ⟨rfl, h, (boxed_below W _).trans ((iter_below _ _ _).mono (boxed_below W _).size)⟩
set_option maxHeartbeats 1000000 in
theorem pmay_any (D : ByteArray) (b : Bool) (w : World) : Calls Tryd.prog 24 #[padV D b] w (Grew (.bool (mayP D)) w) := by
  by_cases h30 : 30 < D.size
  · have hE : mayP D = false := by unfold mayP; simp; omega
    rw [hE]
    have h1 : (30 : Int) < (D.size : Int) := by omega
    clear hE h30
    go_enter Tryd.func24, Tryd.ntmps24
    go_wp2
    go_ret
    exact ⟨rfl, (by repeat first | exact Below.refl _ _ | assumption | refine drewN_below ?_ _ | refine Below.alloc ?_ (by first | exact Nat.le_refl _ | exact Below.size (by assumption) | (simp; done) | (simp; omega) | omega) _ | refine Below.setCell ?_ (by first | exact Nat.le_refl _ | (simp; done) | (simp; omega) | omega) _)⟩
  · have HE := Lib.hid (show mayP D = allDig D D.size by unfold mayP; simp; omega)
    have h1 : ¬ (30 : Int) < (D.size : Int) := by omega
    clear h30
    generalize mayP D = m at *
    go_enter Tryd.func24, Tryd.ntmps24
    go_wp2
    go_loopw [4] (fun _ wr => ∃ k : Nat, k ≤ D.size ∧ Hid (MRel D w k wr)) (fun _ wr => D.size - wr.iterPos (w.heap.size + 1))
    case atStart => exact ⟨0, Nat.zero_le _, MRel.start⟩
    case round =>
      obtain ⟨k, hk, hR⟩ := hrel
      obtain ⟨hall, hit, kk⟩ := hR.out
      have HALL := Lib.hid hall
      clear hall
      by_cases hlt : k < D.size
      · have hb := bat_lt D k
        by_cases ha : bat D k < 128
        · have hnx := next_ascii_at (P := Tryd.prog) hit hlt ha
          have hp0 := Lib.hid (iter_pos hit)
          have hp1 := Lib.hid (iterTo_pos (q := k + 1) hit)
          have hk1 : Below w.heap.size w (iterTo wr (w.heap.size + 1) D (k + 1)) := iterTo_below kk (by omega) _ _
          cases hd : digAt D k
          · have hA := Lib.hid (HE.out.trans (allDig_no hlt hd))
            have hd' := Lib.hid hd
            have hq : bat D k < 48 ∨ ¬ bat D k < 48 ∧ 57 < bat D k := by
              have := hd'.out; rw [← Bool.not_eq_true, digAt_true] at this; omega
            clear hd hR HALL hb ha
            generalize bat D k = c at *
            rcases hq with hq | ⟨hq1, hq2⟩
            all_goals
              go_wp2
              go_ret
              exact ⟨by rw [hA.out]; rfl, hk1⟩
          · obtain ⟨d0, d1⟩ := digAt_true.1 hd
            have hN : Hid (MRel D w (k + 1) (iterTo wr (w.heap.size + 1) D (k + 1))) := ⟨allDig_succ HALL.out hd, iterTo_at hit, hk1⟩
            have q1 : ¬ ((bat D k : Nat) : Int) < 48 := by omega
            have q2 : ¬ (57 : Int) < ((bat D k : Nat) : Int) := by omega
            clear hd hb ha hR
            generalize bat D k = c at *
            go_wp2
            exact ⟨⟨k + 1, by omega, hN⟩, by rw [hp1.out, hp0.out]; omega⟩
        · obtain ⟨r, q, r0, r1', hnx⟩ := next_high_at (P := Tryd.prog) hit hlt ha
          have hd : digAt D k = false := by rw [← Bool.not_eq_true, digAt_true]; omega
          have hA := Lib.hid (HE.out.trans (allDig_no hlt hd))
          have hk1 : Below w.heap.size w (iterTo wr (w.heap.size + 1) D q) := iterTo_below kk (by omega) _ _
          have q1 : ¬ (r : Int) < 48 := by omega
          have q2 : (57 : Int) < (r : Int) := by omega
          clear hd hR HALL hb ha
          go_wp2
          go_ret
          exact ⟨by rw [hA.out]; rfl, hk1⟩
      · have hnx : ∀ ty, (Instr.next (.pointer (some ⟨w.heap.size + 1, 0, none⟩)) true ty).run Tryd.prog wr = _ := fun ty => next_end_at hit hlt ty
        have hks : k = D.size := by omega
        have hA := Lib.hid (HE.out.trans (by rw [← hks]; exact HALL.out : allDig D D.size = true))
        clear hR HALL hks
        go_wp2
        go_ret
        exact ⟨by rw [hA.out]; rfl, kk⟩
set_option maxHeartbeats 1000000 in
theorem PadMay_any (D : ByteArray) (b : Bool) (w : World) : Calls Tryd.prog 25 #[padV D b] w (Grew (.bool (mayP D)) w) := by
  by_cases h30 : 30 < D.size
  · have hE : mayP D = false := by unfold mayP; simp; omega
    rw [hE]
    have h1 : (30 : Int) < (D.size : Int) := by omega
    clear hE h30
    go_enter Tryd.func25, Tryd.ntmps25
    go_wp2
    go_ret
    exact ⟨rfl, (by repeat first | exact Below.refl _ _ | assumption | refine drewN_below ?_ _ | refine Below.alloc ?_ (by first | exact Nat.le_refl _ | exact Below.size (by assumption) | (simp; done) | (simp; omega) | omega) _ | refine Below.setCell ?_ (by first | exact Nat.le_refl _ | (simp; done) | (simp; omega) | omega) _)⟩
  · have HE := Lib.hid (show mayP D = allDig D D.size by unfold mayP; simp; omega)
    have h1 : ¬ (30 : Int) < (D.size : Int) := by omega
    clear h30
    generalize mayP D = m at *
    go_enter Tryd.func25, Tryd.ntmps25
    go_wp2
    go_loop [3] (fun i => ∃ k : Nat, k ≤ D.size ∧ i = I k ∧ Hid (allDig D k = true)) (fun i => D.size - (intOf i).toNat)
    case atStart => exact ⟨0, Nat.zero_le _, rfl, rfl⟩
    case round =>
      obtain ⟨k, hk, rfl, hall⟩ := hrel
      by_cases hlt : k < D.size
      · have hi1 : (k : Int) < (D.size : Int) := by omega
        have hb := bat_eq hlt
        have hdf : digAt D k = inB ((bat D k : Nat) : Int) 48 57 := rfl
        cases hd : digAt D k
        · have hA := Lib.hid (HE.out.trans (allDig_no hlt hd))
          have hdf' := (hdf.symm.trans hd)
          clear hd hdf hall
          generalize bat D k = c at *
          go_wp2_with (go_at_call 40; refine (Digit_any _ _).mono ?_; rintro e w' ⟨rfl, rfl⟩)
          go_ret
          exact ⟨by rw [hA.out]; rfl, (by repeat first | exact Below.refl _ _ | assumption | refine drewN_below ?_ _ | refine Below.alloc ?_ (by first | exact Nat.le_refl _ | exact Below.size (by assumption) | (simp; done) | (simp; omega) | omega) _ | refine Below.setCell ?_ (by first | exact Nat.le_refl _ | (simp; done) | (simp; omega) | omega) _)⟩
        · have hA := Lib.hid (allDig_succ hall.out hd)
          have hdf' := (hdf.symm.trans hd)
          clear hd hdf hall
          generalize bat D k = c at *
          go_wp2_with (go_at_call 40; refine (Digit_any _ _).mono ?_; rintro e w' ⟨rfl, rfl⟩)
          exact ⟨⟨k + 1, by omega, by go_num, hA⟩, by simp [intOf]; omega⟩
      · have hks : k = D.size := by omega
        have hA := Lib.hid (HE.out.trans (by rw [← hks]; exact hall.out : allDig D D.size = true))
        have hi1 : ¬ (k : Int) < (D.size : Int) := by omega
        clear hks hall
        go_wp2
        go_ret
        exact ⟨by rw [hA.out]; rfl, (by repeat first | exact Below.refl _ _ | assumption | refine drewN_below ?_ _ | refine Below.alloc ?_ (by first | exact Nat.le_refl _ | exact Below.size (by assumption) | (simp; done) | (simp; omega) | omega) _ | refine Below.setCell ?_ (by first | exact Nat.le_refl _ | (simp; done) | (simp; omega) | omega) _)⟩
/-- what Press answers -/
def entL : Option (ByteArray × Int) → List AEntry
  | none => []
  | some (t, c) => [⟨t, c⟩]
def keyX (D : ByteArray) (b : Bool) (r : Int) : ByteArray × Bool × Option (ByteArray × Int) := if mayP D then pressR D b r else (⟨#[]⟩, false, none)
def keyE (D : ByteArray) : Int := if mayP D then 0 else 5
def EntP (D : ByteArray) (b : Bool) (L : List AEntry) (er : Int) (w : World) (e : Ending) (w' : World) : Prop := ∃ v, e = .returned (T3 (padV D b) v (I er)) ∧ Sl w' v 2 L.length (L.flatMap AEntry.cells) ∧ Below w.heap.size w w'
def KeyP (x : ByteArray × Bool × Option (ByteArray × Int)) (er : Int) (w : World) : Ending → World → Prop := EntP x.1 x.2.1 (entL x.2.2) er w
set_option maxHeartbeats 2000000 in
theorem Press_any (D : ByteArray) (b : Bool) (r : Int) (w : World) : Calls Tryd.prog 12 #[padV D b, .int .i32 r] w (KeyP (keyX D b r) (keyE D) w) := by
  have M := Lib.hid (fun W => pmay_any D b W)
  have O1 := Lib.hid ((Own.new (w := w) rfl [.string D, .bool b] 24).alloc (.cells #[.string ⟨#[]⟩, .bool false] 24))
  have O2 := Lib.hid (Own.new (w := w.alloc (.cells #[.string D, .bool b] 24)) (g := w.heap.size + 1) (by simp) [.string ⟨#[]⟩, .bool false] 24)
  have KW : Hid (Below w.heap.size w ((w.alloc (.cells #[.string D, .bool b] 24)).alloc (.cells #[.string ⟨#[]⟩, .bool false] 24))) := (boxed_below w _).alloc (by simp) _
  cases hm : mayP D
  · have e1 : keyX D b r = (⟨#[]⟩, false, none) := by unfold keyX; rw [hm]; rfl
    have e2 : keyE D = 5 := by unfold keyE; rw [hm]; rfl
    rw [hm] at M
    rw [e1, e2]
    clear e1 e2 hm
    go_enter Tryd.func12, Tryd.ntmps12
    go_wp2_with fail
    refine (M.out _).mono ?_
    rintro e w1 ⟨rfl, k1⟩
    have qO := O2.out.below k1
    have q0 := qO.cell 0 (by simp)
    have qf0 := qO.frozen 0
    have q1 := qO.cell 1 (by simp)
    have qf1 := qO.frozen 1
    simp only [Nat.zero_add, List.getD_cons_zero, List.getD_cons_succ] at q0 q1
    clear qO
    have kk := KW.out.trans (k1.mono KW.out.size)
    have r1 := set_same
    have r2 := set_off
    clear k1 M O1 O2 KW
    go_wp2
    exact bodyPost_ret (v := T3 (padV ⟨#[]⟩ false) (.slice none 0 0) (I 5)) (by simp [results, Tryd.results12, go_sem, *]; try omega) rfl (⟨_, rfl, Sl.nil _ _, (by repeat first | with_reducible assumption | with_reducible exact Below.refl _ _ | with_reducible refine Below.setCell ?_ (by first | exact Nat.le_refl _ | exact Below.size (by assumption) | (simp; done) | (simp; omega) | omega) _ | with_reducible refine Below.alloc ?_ (by first | exact Nat.le_refl _ | exact Below.size (by assumption) | (simp; done) | (simp; omega) | omega) _ | with_reducible refine drewN_below ?_ _ | with_reducible refine Below.drew ?_)⟩)
  · have e1 : keyX D b r = pressR D b r := by unfold keyX; rw [hm]; rfl
    have e2 : keyE D = 0 := by unfold keyE; rw [hm]; rfl
    have P := Lib.hid (fun W => press_any D b r W hm)
    rw [hm] at M
    rw [e1, e2]
    generalize pressR D b r = x at *
    clear e1 e2 hm
    obtain ⟨D', b', ent⟩ := x
    go_enter Tryd.func12, Tryd.ntmps12
    go_wp2_with fail
    refine (M.out _).mono ?_
    rintro e w1 ⟨rfl, k1⟩
    have pO := O1.out.below k1
    have p0 := pO.cell 0 (by simp)
    have pf0 := pO.frozen 0
    have p1 := pO.cell 1 (by simp)
    have pf1 := pO.frozen 1
    simp only [Nat.zero_add, List.getD_cons_zero, List.getD_cons_succ] at p0 p1
    clear pO
    have o2 := O2.out.below k1
    have kk := KW.out.trans (k1.mono KW.out.size)
    clear k1 M O1 O2 KW
    go_wp2_with fail
    cases ent with
    | none =>
      refine (P.out _).mono ?_
      rintro e w2 ⟨rfl, k2⟩
      have qO := o2.below k2
      have q0 := qO.cell 0 (by simp)
      have qf0 := qO.frozen 0
      have q1 := qO.cell 1 (by simp)
      have qf1 := qO.frozen 1
      simp only [Nat.zero_add, List.getD_cons_zero, List.getD_cons_succ] at q0 q1
      clear qO
      have hz := (o2.below k2).lt
      have m1 : ¬ w2.heap.size = w.heap.size + 1 := by omega
      have m2 : ¬ w.heap.size + 1 = w2.heap.size := by omega
      have kk2 := kk.trans (k2.mono kk.size)
      have r1 := set_same
      have r2 := set_off
      have r3 := set_blk
      clear k2 kk o2 p0 p1 pf0 pf1
      go_wp2
      exact bodyPost_ret (v := T3 (padV D' b') (.slice none 0 0) (I 0)) (by simp [results, Tryd.results12, go_sem, *]; try omega) rfl (⟨_, rfl, Sl.nil _ _, (by repeat first | with_reducible assumption | with_reducible exact Below.refl _ _ | with_reducible refine Below.setCell ?_ (by first | exact Nat.le_refl _ | exact Below.size (by assumption) | (simp; done) | (simp; omega) | omega) _ | with_reducible refine Below.alloc ?_ (by first | exact Nat.le_refl _ | exact Below.size (by assumption) | (simp; done) | (simp; omega) | omega) _ | with_reducible refine drewN_below ?_ _ | with_reducible refine Below.drew ?_)⟩)
    | some y =>
      obtain ⟨t, c⟩ := y
      refine (P.out _).mono ?_
      rintro e w2 ⟨g, rfl, hg, oE, k2⟩
      have qO := o2.below k2
      have q0 := qO.cell 0 (by simp)
      have qf0 := qO.frozen 0
      have q1 := qO.cell 1 (by simp)
      have qf1 := qO.frozen 1
      simp only [Nat.zero_add, List.getD_cons_zero, List.getD_cons_succ] at q0 q1
      clear qO
      have O2q := Lib.hid (o2.below k2)
      have HG0 := Lib.hid (show w.heap.size + 1 < g by have := o2.lt; omega)
      have dO := oE
      have d0 := dO.cell 0 (by simp)
      have df0 := dO.frozen 0
      have d1 := dO.cell 1 (by simp)
      have df1 := dO.frozen 1
      simp only [Nat.zero_add, List.getD_cons_zero, List.getD_cons_succ] at d0 d1
      clear dO
      have hz := (o2.below k2).lt
      have hgl := oE.lt
      have kk2 := kk.trans (k2.mono kk.size)
      clear k2 kk o2 p0 p1 pf0 pf1
      have O7 := Lib.hid (Own.new (w := w2) rfl [.string D', .bool b'] 24)
      have OE := Lib.hid (oE.alloc (.cells #[.string D', .bool b'] 24))
      have OQ := Lib.hid ((O2q.out).alloc (.cells #[.string D', .bool b'] 24))
      have KW := Lib.hid (kk2.alloc kk2.size (.cells #[.string D', .bool b'] 24))
      have hgn : ¬ g = w2.heap.size := by omega
      have hgn2 : ¬ w2.heap.size = g := by omega
      clear d0 d1 df0 df1 q0 q1 qf0 qf1 oE kk2 O2q
      go_wp2
      generalize w2.alloc (.cells #[.string D', .bool b'] 24) = W at *
      have hzW := O7.out.lt
      generalize w2.heap.size = z7 at *
      have xO := O7.out
      have x0 := xO.cell 0 (by simp)
      have xf0 := xO.frozen 0
      have x1 := xO.cell 1 (by simp)
      have xf1 := xO.frozen 1
      simp only [Nat.zero_add, List.getD_cons_zero, List.getD_cons_succ] at x0 x1
      clear xO
      have dO := OE.out
      have d0 := dO.cell 0 (by simp)
      have df0 := dO.frozen 0
      have d1 := dO.cell 1 (by simp)
      have df1 := dO.frozen 1
      simp only [Nat.zero_add, List.getD_cons_zero, List.getD_cons_succ] at d0 d1
      clear dO
      have qO := OQ.out
      have q0 := qO.cell 0 (by simp)
      have qf0 := qO.frozen 0
      have q1 := qO.cell 1 (by simp)
      have qf1 := qO.frozen 1
      simp only [Nat.zero_add, List.getD_cons_zero, List.getD_cons_succ] at q0 q1
      clear qO
      have hqW : w.heap.size + 1 < W.heap.size := by omega
      have hgW : g < W.heap.size := by omega
      have m1 : ¬ W.heap.size = w.heap.size + 1 := by omega
      have m2 : ¬ w.heap.size + 1 = W.heap.size := by omega
      have m3 : ¬ w.heap.size + 1 = z7 := by omega
      have m4 : ¬ z7 = w.heap.size + 1 := by omega
      have hg0 := HG0.out
      have m5 : ¬ g = w.heap.size + 1 := by omega
      have m6 : ¬ w.heap.size + 1 = g := by omega
      have kW := KW.out
      have r1 := set_same
      have r2 := set_off
      have r3 := set_blk
      clear O7 OE OQ KW P
      go_region_held3 (fun w' => w'.cell? ⟨z7, 0, none⟩ = some (.string D') ∧ w'.cell? ⟨z7, 1, none⟩ = some (.bool b') ∧ w'.cell? ⟨g, 0, none⟩ = some (.string t) ∧ w'.cell? ⟨g, 1, none⟩ = some (I c)) (first | go_keep | (go_split_ands; refine ⟨?_, ?_, ?_, ?_⟩ <;> assumption)) (fail)
      all_goals
        go_wp2
        refine bodyPost_ret (v := T3 (padV D' b') (.slice (some ⟨W.heap.size, 0, none⟩) 1 1) (I 0)) (by simp [results, Tryd.results12, go_sem, *]; try omega) rfl ⟨_, rfl, ?_, ?_⟩
        · have hnew : ∀ V : World, V.heap.size = W.heap.size → Own (V.alloc (.cells #[.string t, I c] 50)).drew W.heap.size [.string t, I c] := fun V h => Own.new h.symm [.string t, I c] 50
          exact (hnew _ (by simp)).sl (by decide) (by decide) rfl
        · exact (by repeat first | with_reducible assumption | with_reducible exact Below.refl _ _ | with_reducible refine Below.setCell ?_ (by first | exact Nat.le_refl _ | exact Below.size (by assumption) | (simp; done) | (simp; omega) | omega) _ | with_reducible refine Below.alloc ?_ (by first | exact Nat.le_refl _ | exact Below.size (by assumption) | (simp; done) | (simp; omega) | omega) _ | with_reducible refine drewN_below ?_ _ | with_reducible refine Below.drew ?_)
end Go.Proofs.YtmciccnmpoijdaaDoor
