/- ref.Issued -/
import Derived.Test.YtclfbpgfnhjfcaaIssueA
import Derived.Deep.AppendLies
import Derived.Deep.RegionHeld3
namespace Go.Proofs.Ytclfbpgfnhjfcaa
open Go Go.RowKit
set_option maxRecDepth 20000

theorem owns_below' {w w' : World} {b e sz n : Nat} {v : Value} {cs : List Value} (h : w.ownsRow b e sz v n cs) (hb : Below w.heap.size w w') : w'.ownsRow b e sz v n cs := by
  obtain ⟨hl, h⟩ := h
  refine ⟨hl, h.imp id ?_⟩
  rintro ⟨g, cap, cur, hv, hg, hh, r⟩
  exact ⟨g, cap, cur, hv, hg, (hb.block g (Array.getElem?_eq_some_iff.1 hh).1).trans hh, r⟩
set_option maxHeartbeats 4000000 in
theorem Issued_any (v : Value) (ps : List APair) (x y z d : Int) (w : World) (h : Sl w v 4 ps.length (ps.flatMap APair.cells)) :
    Calls Try.prog 20 #[.agg #[v], I x, I y, I z, I d] w (GrewIs (issL ps x y z d) (issN ps x y z d) (issE ps x y z d) w) := by
  obtain ⟨i0, hi, hz0, hz1, hz2⟩ := info_parts infoPair
  have hS := h
  obtain ⟨a, cap, rfl, -, -, -, hr⟩ := h
  have kb := boxed_below w (.cells #[.slice a ps.length cap] 24)
  have kB := kb.alloc kb.size (.cells #[.slice none 0 0] 24)
  have ob := (Own.new (w := w) rfl [.slice a ps.length cap] 24).alloc (.cells #[.slice none 0 0] 24)
  have oz := Own.new (w := w.alloc (.cells #[.slice a ps.length cap] 24)) (g := w.heap.size + 1) (by simp) [.slice none 0 0] 24
  have h2s : w.heap.size + 2 ≤ ((w.alloc (.cells #[.slice a ps.length cap] 24)).alloc (.cells #[.slice none 0 0] 24)).heap.size := by simp
  have K := Lib.hid (OracleMay_any _ ps _ (hS.below kB))
  have HS := Lib.hid hS
  have HR := Lib.hid hr
  have r1 := set_same
  clear kb hS hr
  go_enter Try.func20, Try.ntmps20
  go_wp2_with fail
  refine K.out.mono ?_
  rintro e w1 ⟨rfl, k1⟩
  have k := kB.trans (k1.mono kB.size)
  have h3s : w.heap.size + 2 ≤ w1.heap.size := Nat.le_trans h2s k1.size
  have ob1 := ob.below k1
  have oz1 := oz.below k1
  clear k1 K kB ob oz h2s
  cases hm : mayO ps
  · have hE := Lib.hid (iss_state (x := x) (y := y) (z := z) (d := d) hm)
    have cO := oz1
    have c0 := cO.cell 0 (by simp)
    have cf0 := cO.frozen 0
    simp only [Nat.zero_add, List.getD_cons_zero, List.getD_cons_succ] at c0
    clear cO
    clear hm HS HR ob1 oz1
    go_wp2
    exact bodyPost_ret (v := T3 (.agg #[.slice none 0 0]) (I 0) (I 5)) (by simp [results, Try.results20, go_sem, *]; try omega) rfl (GrewIs.bad hE.out (by decide) (k.setCell (p := ⟨w.heap.size + 1, 0, none⟩) (Nat.le_succ _) _))
  · have HM := Lib.hid hm
    have hm5 := mayO_len hm
    have kk := k.alloc k.size (.cells #[I x, I y, I z, I d] 73)
    have ob2 := ob1.alloc (.cells #[I x, I y, I z, I d] 73)
    have oz2 := oz1.alloc (.cells #[I x, I y, I z, I d] 73)
    have op2 := Own.new (w := w1) rfl [I x, I y, I z, I d] 73
    clear hm k ob1 oz1
    go_wp2_with fail
    refine (PairMay_any ⟨x, y, z, d⟩ _).mono ?_
    rintro e w2 ⟨rfl, k2⟩
    have k := kk.trans (k2.mono kk.size)
    have h4s : w1.heap.size < w2.heap.size := by have := k2.size; simp at this; omega
    have ob1 := ob2.below k2
    have oz1 := oz2.below k2
    have op1 := op2.below k2
    clear k2 kk ob2 oz2 op2
    cases hp : pairMay ⟨x, y, z, d⟩
    · have hE := Lib.hid (iss_range HM.out hp)
      have cO := oz1
      have c0 := cO.cell 0 (by simp)
      have cf0 := cO.frozen 0
      simp only [Nat.zero_add, List.getD_cons_zero, List.getD_cons_succ] at c0
      clear cO
      clear hp HS HR ob1 oz1 op1 HM
      go_wp2
      exact bodyPost_ret (v := T3 (.agg #[.slice none 0 0]) (I 0) (I 2)) (by simp [results, Try.results20, go_sem, *]; try omega) rfl (GrewIs.bad hE.out (by decide) (k.setCell (p := ⟨w.heap.size + 1, 0, none⟩) (Nat.le_succ _) _))
    · have HP := Lib.hid hp
      have oO := ob1
      have o0 := oO.cell 0 (by simp)
      have of0 := oO.frozen 0
      simp only [Nat.zero_add, List.getD_cons_zero, List.getD_cons_succ] at o0
      clear oO
      clear hp
      go_wp2_with fail
      refine (OracleCopy_own _ ps _ (HS.out.below k) hm5).mono ?_
      rintro e w3 ⟨u, rfl, hu, k3⟩
      clear o0 of0
      obtain ⟨sa, sc, rfl⟩ : ∃ sa sc, u = .slice sa ps.length sc := by
        rcases owns_cases hu with ⟨q1, q2⟩ | ⟨g, c, q1, _⟩
        · exact ⟨none, 0, by rw [q1, q2]⟩
        · exact ⟨_, _, q1⟩
      have kk := (k.trans (k3.mono k.size))
      have h5s : w2.heap.size ≤ w3.heap.size := k3.size
      have kN := kk.alloc kk.size (.cells #[.slice sa ps.length sc] 24)
      have ob3 := (ob1.below k3).alloc (.cells #[.slice sa ps.length sc] 24)
      have oz3 := (oz1.below k3).alloc (.cells #[.slice sa ps.length sc] 24)
      have op3 := (op1.below k3).alloc (.cells #[.slice sa ps.length sc] 24)
      have on3 := Own.new (w := w3) rfl [.slice sa ps.length sc] 24
      have hur := hu.alloc (.cells #[.slice sa ps.length sc] 24)
      have hub : ∀ g, (Value.slice sa ps.length sc).ownBlock = some g → w2.heap.size + 2 ≤ g ∧ g < w3.heap.size := fun g hg => hu.lt g hg
      have n1 : ¬ w.heap.size + 1 = w3.heap.size := by omega
      have n2 : ¬ w1.heap.size = w3.heap.size := by omega
      have n3 : ¬ w3.heap.size = w.heap.size + 1 := by omega
      have oO := ob3
      have o0 := oO.cell 0 (by simp)
      have of0 := oO.frozen 0
      simp only [Nat.zero_add, List.getD_cons_zero, List.getD_cons_succ] at o0
      clear oO
      clear ob1 oz1 op1 k3 k hu kk
      go_wp2_with fail
      refine (tagged_any _ ps x y z _ (HS.out.below kN)).mono ?_
      rintro e w4 ⟨rfl, k4⟩
      have kM := kN.trans (k4.mono kN.size)
      have h6s : w3.heap.size < w4.heap.size := by have := k4.size; simp at this; omega
      have HB4 := ob3.below k4
      have HZ4 := oz3.below k4
      have HP4 := op3.below k4
      have HN4 := on3.below k4
      have hu4 := owns_below' hur k4
      have hcs := tagI_cases ps x y z
      generalize tagI ps x y z = ti at *
      clear o0 of0 ob3 oz3 op3 on3 hur k4 kN
      have kE := fun X => kM.setCell (p := ⟨w.heap.size + 1, 0, none⟩) (Nat.le_succ _) X
      rcases hcs with ⟨rfl, hh⟩ | ⟨j, hj, rfl, hh, htag⟩
      · by_cases h5 : ps.length = 500
        · have hE := Lib.hid (iss_full HM.out HP.out hh h5)
          have h5' : ((ps.length : Int) == 500) = true := by simp; omega
          have cO := HZ4
          have c0 := cO.cell 0 (by simp)
          have cf0 := cO.frozen 0
          simp only [Nat.zero_add, List.getD_cons_zero, List.getD_cons_succ] at c0
          clear cO
          have mO := HN4
          have m0 := mO.cell 0 (by simp)
          have mf0 := mO.frozen 0
          simp only [Nat.zero_add, List.getD_cons_zero, List.getD_cons_succ] at m0
          clear mO
          clear hh h5 HM HP HS HR HB4 HZ4 HP4 HN4 hu4 hub
          go_wp2
          exact bodyPost_ret (v := T3 (.agg #[.slice none 0 0]) (I 0) (I 16)) (by simp [results, Try.results20, go_sem, *]; try omega) rfl (GrewIs.bad hE.out (by decide) (kE _))
        · have hE := Lib.hid (iss_new HM.out HP.out hh h5)
          have h5' : ((ps.length : Int) == 500) = false := by simp; omega
          have hF : Hid (∀ (gg cap2 : Nat) (W : World), W.ownsRow (w2.heap.size + 2) 73 4 (.slice (some ⟨gg, 0, none⟩) (ps.length + 1) cap2) (ps.length + 1) (ps.flatMap APair.cells ++ [I x, I y, I z, I d]) → gg ≠ w3.heap.size → ∀ X Y, Sl ((W.setCell ⟨w3.heap.size, 0, none⟩ X).setCell ⟨w.heap.size + 1, 0, none⟩ Y) (.slice (some ⟨gg, 0, none⟩) (ps.length + 1) cap2) 4 (ps ++ [(⟨x, y, z, d⟩ : APair)]).length ((ps ++ [(⟨x, y, z, d⟩ : APair)]).flatMap APair.cells)) := by
            intro gg cap2 W ho hne X Y
            have hg := (ho.lt gg rfl).1
            have := ((Sl.of_owns ho (by omega)).set (j := 0) (Far.lit hne) X).set (z := w.heap.size + 1) (j := 0) (Far.lit (by omega)) Y
            rw [List.length_append, List.flatMap_append]
            exact this
          have r3 := set_blk
          have hrow := hu4
          have Z4 := HZ4
          have N4 := HN4
          have pO := HP4
          have p0 := pO.cell 0 (by simp)
          have pf0 := pO.frozen 0
          have p1 := pO.cell 1 (by simp)
          have pf1 := pO.frozen 1
          have p2 := pO.cell 2 (by simp)
          have pf2 := pO.frozen 2
          have p3 := pO.cell 3 (by simp)
          have pf3 := pO.frozen 3
          simp only [Nat.zero_add, List.getD_cons_zero, List.getD_cons_succ] at p0 p1 p2 p3
          clear pO
          have mO := HN4
          have m0 := mO.cell 0 (by simp)
          have mf0 := mO.frozen 0
          simp only [Nat.zero_add, List.getD_cons_zero, List.getD_cons_succ] at m0
          clear mO
          clear hh h5 HM HP HS HR HB4 HP4 kE
          go_wp2_with
            (at_builtin
             refine wpList_append_lies _ rfl _ _ 22 rfl (w2.heap.size + 2) 73 i0 (.agg #[.int .i64 0, .int .i64 0, .int .i64 0, .int .i64 0]) 4 32 Try.underlying22 hi hz0 hz1 hz2 rfl (by decide) _ _ (ps.flatMap APair.cells) rfl (hrow.alloc _) ⟨w4.heap.size, 0, none⟩ 1 1 [I x, I y, I z, I d] rfl rfl (news_lit _ _ _) (oneCells_lit rfl) (by omega) (by unfold maxLen; omega) (by omega) (by simp; omega) _ rfl ?_
             intro gg cap2 w5 hown' hgrow hat hlt1
             have hne : gg ≠ w3.heap.size := by
               rcases hat with hat | hat
               · have := (hub _ hat).2; omega
               · simp at hat; omega
             have kG := (kM.alloc kM.size (.cells #[I x, I y, I z, I d] 73)).grown hgrow (by simp; omega) (fun j hj => by have := (hub _ hj).1; omega)
             have on5 := (N4.alloc (.cells #[I x, I y, I z, I d] 73)).grown hgrow (fun e => by have := (hub _ e.symm).2; omega)
             have oz5 := (Z4.alloc (.cells #[I x, I y, I z, I d] 73)).grown hgrow (fun e => by have := (hub _ e.symm).1; omega)
             have HSl := Lib.hid (hF.out gg cap2 w5 hown' hne)
             have kE := fun X Y => (kG.setCell (p := ⟨w3.heap.size, 0, none⟩) (by show w.heap.size ≤ w3.heap.size; omega) X).setCell (p := ⟨w.heap.size + 1, 0, none⟩) (Nat.le_succ _) Y
             have q0 := on5.cell 0 (by simp)
             have qf0 := on5.frozen 0
             have s0 := oz5.cell 0 (by simp)
             have sf0 := oz5.frozen 0
             simp only [Nat.zero_add, List.getD_cons_zero] at q0 s0
             clear hown' hgrow hat hF hrow hub kG on5 oz5 hu4 HZ4 HN4 Z4 N4 kM m0 mf0 p0 p1 p2 p3 pf0 pf1 pf2 pf3)
          exact bodyPost_ret (v := T3 (.agg #[.slice (some ⟨gg, 0, none⟩) (ps.length + 1) cap2]) (I d) (I 0)) (by simp [results, Try.results20, go_sem, *]; try omega) rfl (GrewIs.good hE.out (HSl.out _ _) (kE _ _))
      · have hE := Lib.hid (iss_known HM.out HP.out hh)
        obtain ⟨b, off, rfl, hb, hc⟩ := HR.out.resolve_left (by omega)
        obtain ⟨-, -, -, e3⟩ := elPair hb hc kM j hj
        have hi0 : (0 : Int) ≤ (j : Int) := by omega
        have hi1 : (j : Int) < (ps.length : Int) := by omega
        have HSl := Lib.hid (fun X => Sl.of_owns (ownsRow_setCell_below hu4 (a := ⟨w.heap.size + 1, 0, none⟩) (by show w.heap.size + 1 < w2.heap.size + 2; omega) X) (by omega))
        rw [htag] at hE
        have oO := HB4
        have o0 := oO.cell 0 (by simp)
        have of0 := oO.frozen 0
        simp only [Nat.zero_add, List.getD_cons_zero, List.getD_cons_succ] at o0
        clear oO
        have cO := HZ4
        have c0 := cO.cell 0 (by simp)
        have cf0 := cO.frozen 0
        simp only [Nat.zero_add, List.getD_cons_zero, List.getD_cons_succ] at c0
        clear cO
        have mO := HN4
        have m0 := mO.cell 0 (by simp)
        have mf0 := mO.frozen 0
        simp only [Nat.zero_add, List.getD_cons_zero, List.getD_cons_succ] at m0
        clear mO
        clear hh htag hc HR HM HP HS HB4 HZ4 HP4 HN4 hu4 hub
        generalize ps.getD j default = p at *
        obtain ⟨p1, p2, p3, p4⟩ := p
        simp only at e3 hE
        go_wp2
        go_region
        all_goals
          go_wp2
          exact bodyPost_ret (v := T3 (.agg #[.slice sa ps.length sc]) (I p4) (I 0)) (by simp [results, Try.results20, go_sem, *]; try omega) rfl (GrewIs.good hE.out (HSl.out _) (drewN_below (kE _) 1))
end Go.Proofs.Ytclfbpgfnhjfcaa
