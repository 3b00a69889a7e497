/- oracle.Issue -/
import Derived.Test.YtclfbpgfnhjfcaaIssue
import Derived.Deep.AppendLies
namespace Go.Proofs.Ytclfbpgfnhjfcaa
open Go Go.RowKit
set_option maxRecDepth 20000

theorem size_alloc1 (w : World) (c : Obj) : w.heap.size + 1 = (w.alloc c).heap.size := by show _ = (w.heap.push c).size; simp
theorem news_at {n : Nat} (w : World) (h : n = w.heap.size) (cs : List Value) (e : TypeId) : ∀ (j : Nat) (u : Value), cs[j]? = some u → (w.alloc (.cells cs.toArray e)).cell? ((⟨n, 0, none⟩ : Addr).add j) = some u := by
  subst h; exact news_lit w cs e
set_option maxHeartbeats 4000000 in
theorem Issue_any (v : Value) (ps : List APair) (x y z d : Int) (w : World) (h : Sl w v 4 ps.length (ps.flatMap APair.cells)) (hw : ∀ p ∈ ps, p.wf) (hx : I64 x) (hy : I64 y) (hz : I64 z) :
    Calls Try.prog 19 #[.agg #[v], I x, I y, I z, I d] w (GrewIs (issL ps x y z d) (issN ps x y z d) (issE ps x y z d) w) := by
  obtain ⟨i0, hi, hz0, hz1, hz2⟩ := info_parts infoPair
  have hS := h
  obtain ⟨a, cap, rfl, -⟩ := id h
  have kb := boxed_below w (.cells #[.slice a ps.length cap] 24)
  have kB := kb.alloc kb.size (.cells #[.slice none 0 0] 24)
  have ob := (Own.new (w := w) rfl [.slice a ps.length cap] 24).alloc (.cells #[.slice none 0 0] 24)
  have oz := Own.new (w := w.alloc (.cells #[.slice a ps.length cap] 24)) (g := w.heap.size + 1) (by simp) [.slice none 0 0] 24
  have K := Lib.hid (known_any _ ps _ (hS.below kB) hw)
  have HX := Lib.hid (And.intro hx (And.intro hy hz))
  have HS := Lib.hid hS
  have r1 := set_same
  clear hx hy hz kb h hS hw
  go_enter Try.func19, Try.ntmps19
  go_wp2_with fail
  refine K.out.mono ?_
  rintro e w1 (⟨hm, b, rfl, hb, hM, k1⟩ | ⟨hm, rfl, k1⟩)
  · have k := kB.trans (k1.mono kB.size)
    have h2s : w.heap.size + 2 ≤ w1.heap.size := by have := k1.size; simp at this; omega
    have ob1 := (ob.below k1).alloc (.cells #[I x, I y, I z] 78)
    have oz1 := (oz.below k1).alloc (.cells #[I x, I y, I z] 78)
    have om1 := hM.alloc (.cells #[I x, I y, I z] 78)
    have ow1 := Own.new (w := w1) rfl [I x, I y, I z] 78
    have kk := k.alloc k.size (.cells #[I x, I y, I z] 78)
    have hm5 := mayO_len hm
    have HM := Lib.hid hm
    clear hm k1 hM K kB ob oz k hb
    go_wp2_with fail
    refine (wmay_any x y z _).mono ?_
    rintro e w2 ⟨rfl, k2⟩
    have k := kk.trans (k2.mono kk.size)
    have h3s : w1.heap.size < w2.heap.size := by have := k2.size; simp at this; omega
    have ob2 := ob1.below k2
    have oz2 := oz1.below k2
    have om2 := om1.below k2
    have ow2 := ow1.below k2
    have hsp := pairMay_split ⟨x, y, z, d⟩
    simp only at hsp
    clear ob1 oz1 om1 ow1 k2 kk
    cases hwm : whatMay x y z
    · have hE := Lib.hid (iss_range HM.out (show pairMay ⟨x, y, z, d⟩ = false by rw [hsp, hwm]; rfl))
      have cO := oz2
      have c0 := cO.cell 0 (by simp)
      have cf0 := cO.frozen 0
      simp only [Nat.zero_add, List.getD_cons_zero, List.getD_cons_succ] at c0
      clear cO
      clear ob2 oz2 om2 ow2 hsp hwm HM HX HS
      go_wp2
      exact bodyPost_ret (v := T3 (.agg #[.slice none 0 0]) (I 0) (I 2)) (by simp [results, Try.results19, go_sem, *]; try omega) rfl (GrewIs.bad hE.out (by decide) (k.setCell (p := ⟨w.heap.size + 1, 0, none⟩) (Nat.le_succ _) _))
    · rw [hwm, Bool.true_and] at hsp
      cases hdt : inB d 0 65535
      · have hE := Lib.hid (iss_range HM.out (show pairMay ⟨x, y, z, d⟩ = false by rw [hsp, hdt]))
        have hn : ¬ (0 ≤ d ∧ d ≤ 65535) := by rw [← inB_true, hdt]; simp
        have cO := oz2
        have c0 := cO.cell 0 (by simp)
        have cf0 := cO.frozen 0
        simp only [Nat.zero_add, List.getD_cons_zero, List.getD_cons_succ] at c0
        clear cO
        clear ob2 oz2 om2 ow2 hsp hwm HM HX HS hdt
        by_cases hneg : d < 0
        · clear hn
          go_wp2
          exact bodyPost_ret (v := T3 (.agg #[.slice none 0 0]) (I 0) (I 2)) (by simp [results, Try.results19, go_sem, *]; try omega) rfl (GrewIs.bad hE.out (by decide) (k.setCell (p := ⟨w.heap.size + 1, 0, none⟩) (Nat.le_succ _) _))
        · have hbig : 65535 < d := by omega
          clear hn
          go_wp2
          exact bodyPost_ret (v := T3 (.agg #[.slice none 0 0]) (I 0) (I 2)) (by simp [results, Try.results19, go_sem, *]; try omega) rfl (GrewIs.bad hE.out (by decide) (k.setCell (p := ⟨w.heap.size + 1, 0, none⟩) (Nat.le_succ _) _))
      · rw [hdt] at hsp
        obtain ⟨d0, d1⟩ := inB_true.1 hdt
        have hneg : ¬ d < 0 := by omega
        have hbig : ¬ 65535 < d := by omega
        have HP := Lib.hid hsp
        have oO := ob2
        have o0 := oO.cell 0 (by simp)
        have of0 := oO.frozen 0
        simp only [Nat.zero_add, List.getD_cons_zero, List.getD_cons_succ] at o0
        clear oO
        clear hsp hwm hdt
        go_wp2_with fail
        refine (clone_own _ ps _ (HS.out.below k) hm5).mono ?_
        rintro e w3 ⟨u, rfl, hu, k3⟩
        clear o0 of0
        obtain ⟨sa, sc, rfl⟩ : ∃ sa sc, u = .slice sa ps.length sc := by
          rcases owns_cases hu with ⟨q1, q2⟩ | ⟨g, c, q1, _⟩
          · exact ⟨none, 0, by rw [q1, q2]⟩
          · exact ⟨_, _, q1⟩
        have kk := (k.trans (k3.mono k.size))
        have h4s : w2.heap.size ≤ w3.heap.size := k3.size
        have kN := kk.alloc kk.size (.cells #[.slice sa ps.length sc] 24)
        have oz3 := (oz2.below k3).alloc (.cells #[.slice sa ps.length sc] 24)
        have ow3 := (ow2.below k3).alloc (.cells #[.slice sa ps.length sc] 24)
        have om3 := (om2.below k3).alloc (.cells #[.slice sa ps.length sc] 24)
        have on3 := Own.new (w := w3) rfl [.slice sa ps.length sc] 24
        have hL := run_look om3 HX.out.1 HX.out.2.1 HX.out.2.2
        have hur := hu.alloc (.cells #[.slice sa ps.length sc] 24)
        have n1 : ¬ w.heap.size + 1 = w3.heap.size := by omega
        have n2 : ¬ w1.heap.size = w3.heap.size := by omega
        have n3 : ¬ w3.heap.size = w.heap.size + 1 := by omega
        have cO := oz3
        have c0 := cO.cell 0 (by simp)
        have cf0 := cO.frozen 0
        simp only [Nat.zero_add, List.getD_cons_zero, List.getD_cons_succ] at c0
        clear cO
        have pO := ow3
        have p0 := pO.cell 0 (by simp)
        have pf0 := pO.frozen 0
        have p1 := pO.cell 1 (by simp)
        have pf1 := pO.frozen 1
        have p2 := pO.cell 2 (by simp)
        have pf2 := pO.frozen 2
        simp only [Nat.zero_add, List.getD_cons_zero, List.getD_cons_succ] at p0 p1 p2
        clear pO
        clear ob2 oz2 om2 ow2 k3 om3 k ow3
        have kE := fun X => kN.setCell (p := ⟨w.heap.size + 1, 0, none⟩) (Nat.le_succ _) X
        cases hh : hasKey ps x y z
        · rw [hh] at hL
          by_cases h5 : ps.length = 500
          · have hE := Lib.hid (iss_full HM.out HP.out hh h5)
            have h5' : ((ps.length : Int) == 500) = true := by simp; omega
            clear hh h5 hu hur HM HP on3 HX HS
            generalize tagOf ps x y z = tg at *
            go_wp2
            exact bodyPost_ret (v := T3 (.agg #[.slice none 0 0]) (I 0) (I 16)) (by simp [results, Try.results19, go_sem, *]; try omega) rfl (GrewIs.bad hE.out (by decide) (kE _))
          · have hE := Lib.hid (iss_new HM.out HP.out hh h5)
            have h5' : ((ps.length : Int) == 500) = false := by simp; omega
            have hF : Hid (∀ (gg cap2 : Nat) (W : World), W.ownsRow w2.heap.size 73 4 (.slice (some ⟨gg, 0, none⟩) (ps.length + 1) cap2) (ps.length + 1) (ps.flatMap APair.cells ++ [I x, I y, I z, I d]) → gg ≠ w3.heap.size → ∀ X Y, Sl ((W.setCell ⟨w3.heap.size, 0, none⟩ X).setCell ⟨w.heap.size + 1, 0, none⟩ Y) (.slice (some ⟨gg, 0, none⟩) (ps.length + 1) cap2) 4 (ps ++ [(⟨x, y, z, d⟩ : APair)]).length ((ps ++ [(⟨x, y, z, d⟩ : APair)]).flatMap APair.cells)) := by
              intro gg cap2 W ho hne X Y
              have hg := (ho.lt gg rfl).1
              have := ((Sl.of_owns ho (by omega)).set (j := 0) (Far.lit hne) X).set (z := w.heap.size + 1) (j := 0) (Far.lit (by omega)) Y
              rw [List.length_append, List.flatMap_append]
              exact this
            have hrow := hur
            have hub : ∀ g, (Value.slice sa ps.length sc).ownBlock = some g → w2.heap.size ≤ g ∧ g < w3.heap.size := fun g hg => hu.lt g hg
            have r3 := set_blk
            clear hh h5 hu HM HP HX HS
            generalize tagOf ps x y z = tg at *
            go_wp2_with
              (at_builtin
               refine wpList_append_lies _ rfl _ _ 22 rfl w2.heap.size 73 i0 (.agg #[.int .i64 0, .int .i64 0, .int .i64 0, .int .i64 0]) 4 32 Try.underlying22 hi hz0 hz1 hz2 rfl (by decide) _ _ (ps.flatMap APair.cells) rfl (hrow.alloc _) ⟨w3.heap.size + 1, 0, none⟩ 1 1 [I x, I y, I z, I d] rfl rfl (news_at _ (size_alloc1 _ _) [I x, I y, I z, I d] _) (oneCells_lit rfl) (by omega) (by unfold maxLen; omega) (by omega) (by simp; omega) _ rfl ?_
               intro gg cap2 w5 hown' hgrow hat hlt1
               have hne : gg ≠ w3.heap.size := by
                 rcases hat with hat | hat
                 · have := (hub _ hat).2; omega
                 · simp at hat; omega
               have kG := (kN.alloc kN.size (.cells #[I x, I y, I z, I d] 73)).grown hgrow (by simp; omega) (fun j hj => by have := (hub _ hj).1; omega)
               have on5 := (on3.alloc (.cells #[I x, I y, I z, I d] 73)).grown hgrow (fun e => by have := (hub _ e.symm).2; omega)
               have oz5 := (oz3.alloc (.cells #[I x, I y, I z, I d] 73)).grown hgrow (fun e => by have := (hub _ e.symm).1; omega)
               have HSl := Lib.hid (hF.out gg cap2 w5 hown' hne)
               have kE := fun X Y => (kG.setCell (p := ⟨w3.heap.size, 0, none⟩) (by show w.heap.size ≤ w3.heap.size; omega) X).setCell (p := ⟨w.heap.size + 1, 0, none⟩) (Nat.le_succ _) Y
               have m0 := on5.cell 0 (by simp)
               have mf0 := on5.frozen 0
               have q0 := oz5.cell 0 (by simp)
               have qf0 := oz5.frozen 0
               simp only [Nat.zero_add, List.getD_cons_zero] at m0 q0
               clear hown' hgrow hat hF hrow hub kG on5 oz5 on3 oz3 hur c0 cf0 p0 p1 p2 pf0 pf1 pf2 kN kk hL)
            exact bodyPost_ret (v := T3 (.agg #[.slice (some ⟨gg, 0, none⟩) (ps.length + 1) cap2]) (I d) (I 0)) (by simp [results, Try.results19, go_sem, *]; try omega) rfl (GrewIs.good hE.out (HSl.out _ _) (kE _ _))
        · rw [hh] at hL
          have hE := Lib.hid (iss_known HM.out HP.out hh)
          have HSl := Lib.hid (fun X => Sl.of_owns (ownsRow_setCell_below hur (a := ⟨w.heap.size + 1, 0, none⟩) (by show w.heap.size + 1 < w2.heap.size; omega) X) (by omega))
          clear hh hu hur HM HP on3 HX HS
          generalize tagOf ps x y z = tg at *
          go_wp2
          exact bodyPost_ret (v := T3 (.agg #[.slice sa ps.length sc]) (I tg) (I 0)) (by simp [results, Try.results19, go_sem, *]; try omega) rfl (GrewIs.good hE.out (HSl.out _) (kE _))
  · have k := kB.trans (k1.mono kB.size)
    have hE := Lib.hid (iss_state (x := x) (y := y) (z := z) (d := d) hm)
    have cO := oz.below k1
    have c0 := cO.cell 0 (by simp)
    have cf0 := cO.frozen 0
    simp only [Nat.zero_add, List.getD_cons_zero, List.getD_cons_succ] at c0
    clear cO
    clear hm k1 K kB ob oz HX HS
    go_wp2
    exact bodyPost_ret (v := T3 (.agg #[.slice none 0 0]) (I 0) (I 5)) (by simp [results, Try.results19, go_sem, *]; try omega) rfl (GrewIs.bad hE.out (by decide) (k.setCell (p := ⟨w.heap.size + 1, 0, none⟩) (Nat.le_succ _) _))
end Go.Proofs.Ytclfbpgfnhjfcaa
