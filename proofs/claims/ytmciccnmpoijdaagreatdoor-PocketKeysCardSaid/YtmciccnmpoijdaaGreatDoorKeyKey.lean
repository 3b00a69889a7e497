/- meter.Key -/
import Derived.Test.YtmciccnmpoijdaaGreatDoorPk18
import Derived.Test.YtmciccnmpoijdaaGreatDoorTok
namespace Go.Proofs.YtmciccnmpoijdaaGreatDoor
open Go Go.RowKit
set_option maxRecDepth 20000

def zM : MM := ⟨0, 0, 0, 0, 0, 0, 0⟩
def keyOk (m : MM) (ps : List APair) : Bool := m.ok && mayO ps
def keyK (m : MM) (ps : List APair) (t : AToken) : Int := sellK m.me m.rev (bodyV t) t.tag ps
def keyGo (m : MM) (t : AToken) : Bool := decide (tokFault t = 0 ∧ ¬ 0 < m.lk ∧ t.class_ ≠ 3)
/-- what meter.Key gives -/
def keyE (m : MM) (ps : List APair) (t : AToken) : Int := if keyOk m ps then (if tokFault t = 0 then (if 0 < m.lk then 10 else if t.class_ = 3 then 0 else if keyK m ps t = 0 then takeE m t.class_ t.id t.amount else soldE (keyK m ps t)) else tokFault t) else 5
def keyM (m : MM) (ps : List APair) (t : AToken) : MM := if keyOk m ps then (if keyGo m t then (if keyK m ps t = 0 then takeM m t.class_ t.id t.amount else soldM m (keyK m ps t)) else m) else zM
def keyA (m : MM) (ps : List APair) (t : AToken) : Int := if keyOk m ps then (if keyGo m t then (if keyK m ps t = 0 then takeA m 0 t.class_ t.id t.amount else 0) else 0) else 0
theorem tok_bounds {x : AToken} (h : tokFault x = 0) : 0 ≤ x.amount ∧ x.amount ≤ 2097151 := by
  unfold tokFault at h
  split at h
  · split at h
    · rename_i h1 h2
      simp only [Bool.and_eq_true, amtOk] at h2
      have h3 := h2.2
      split at h3
      · have := inB_true.1 h3; omega
      · split at h3
        · have := inB_true.1 h3; omega
        · simp at h3; omega
    · simp at h
  · simp at h
theorem keyOff {m : MM} {ps : List APair} {t : AToken} (h : keyOk m ps = false) : keyE m ps t = 5 ∧ keyM m ps t = zM ∧ keyA m ps t = 0 := by simp [keyE, keyM, keyA, h]
theorem keyNo {m : MM} {ps : List APair} {t : AToken} (h : keyOk m ps = true) (hg : keyGo m t = false) : keyM m ps t = m ∧ keyA m ps t = 0 := by simp [keyM, keyA, h, hg]
theorem keySold {m : MM} {ps : List APair} {t : AToken} (h : keyOk m ps = true) (hg : keyGo m t = true) (hk : keyK m ps t ≠ 0) : keyE m ps t = soldE (keyK m ps t) ∧ keyM m ps t = soldM m (keyK m ps t) ∧ keyA m ps t = 0 := by
  have := of_decide_eq_true hg
  simp [keyE, keyM, keyA, h, hg, hk, this]
theorem keyTake {m : MM} {ps : List APair} {t : AToken} (h : keyOk m ps = true) (hg : keyGo m t = true) (hk : keyK m ps t = 0) : keyE m ps t = takeE m t.class_ t.id t.amount ∧ keyM m ps t = takeM m t.class_ t.id t.amount ∧ keyA m ps t = takeA m 0 t.class_ t.id t.amount := by
  have := of_decide_eq_true hg
  simp [keyE, keyM, keyA, h, hg, hk, this]
theorem soldE_ne {k : Int} (h : k ≠ 0) : soldE k ≠ 0 := by
  unfold soldE
  split
  · contradiction
  · split <;> simp

set_option maxHeartbeats 8000000 in
theorem Key_any (me rev cr hh : Int) (bb : Nat) (bad lk : Int) (v : Value) (ps : List APair) (c ti n tag : Int) (w : World) (h : Sl w v 4 ps.length (ps.flatMap APair.cells)) (hw : ∀ p ∈ ps, p.wf) (hb : bb < 18446744073709551616) (hI : I64 (bodyV ⟨c, ti, n, tag⟩)) :
    Calls Tryz.prog 13 #[(MM.mk me rev cr hh bb bad lk).v, .agg #[v], .agg #[I c, I ti, I n, I tag]] w (Grew (T3 (keyM ⟨me, rev, cr, hh, bb, bad, lk⟩ ps ⟨c, ti, n, tag⟩).v (I (keyA ⟨me, rev, cr, hh, bb, bad, lk⟩ ps ⟨c, ti, n, tag⟩)) (I (keyE ⟨me, rev, cr, hh, bb, bad, lk⟩ ps ⟨c, ti, n, tag⟩))) w) := by
  have M := Lib.hid (fun W => may_meter me rev cr hh bb bad lk W hb)
  have O := Lib.hid (fun u W hW => May_any u ps W hW hw)
  have B := Lib.hid (fun W => Body_any ⟨c, ti, n, tag⟩ W)
  have S := Lib.hid (fun g u w hO h hm hme hrev hbad => sold_any g me rev cr hh bb bad lk 0 u ps (bodyV ⟨c, ti, n, tag⟩) tag w hO h hw hm hme hrev hI hbad)
  have T := Lib.hid (fun g w hO hcr hn => take_any g me rev cr hh bb bad lk 0 c ti n tag w hO hb hcr hn)
  have Off := Lib.hid (fun hh2 => keyOff (m := ⟨me, rev, cr, hh, bb, bad, lk⟩) (ps := ps) (t := ⟨c, ti, n, tag⟩) hh2)
  have No := Lib.hid (fun hh2 hg => keyNo (m := ⟨me, rev, cr, hh, bb, bad, lk⟩) (ps := ps) (t := ⟨c, ti, n, tag⟩) hh2 hg)
  have Sd := Lib.hid (fun hh2 hg hk => keySold (m := ⟨me, rev, cr, hh, bb, bad, lk⟩) (ps := ps) (t := ⟨c, ti, n, tag⟩) hh2 hg hk)
  have Tk := Lib.hid (fun hh2 hg hk => keyTake (m := ⟨me, rev, cr, hh, bb, bad, lk⟩) (ps := ps) (t := ⟨c, ti, n, tag⟩) hh2 hg hk)
  cases hm : mayM me rev cr hh bb bad lk
  · obtain ⟨e1, e2, e3⟩ := Off.out (by simp [keyOk, MM.ok, hm])
    rw [e1, e2, e3]
    rw [hm] at M
    clear e1 e2 e3 hm hw hI
    obtain ⟨a, cap, rfl, -⟩ := id h
    have kb := boxed_below w (.cells #[I me, I rev, I cr, I hh, .int .u64 bb, I bad, I lk] 40)
    have kb := kb.alloc kb.size (.cells #[.slice a ps.length cap] 25)
    have kb := kb.alloc kb.size (.cells #[I c, I ti, I n, I tag] 44)
    have kb := kb.alloc kb.size (.cells #[I 0, I 0, I 0, I 0, .int .u64 0, I 0, I 0] 40)
    have om := (((Own.new (w := w) rfl [I me, I rev, I cr, I hh, .int .u64 bb, I bad, I lk] 40).alloc (.cells #[.slice a ps.length cap] 25)).alloc (.cells #[I c, I ti, I n, I tag] 44)).alloc (.cells #[I 0, I 0, I 0, I 0, .int .u64 0, I 0, I 0] 40)
    have oo := ((Own.new (w := w.alloc (.cells #[I me, I rev, I cr, I hh, .int .u64 bb, I bad, I lk] 40)) (g := w.heap.size + 1) (by simp) [.slice a ps.length cap] 25).alloc (.cells #[I c, I ti, I n, I tag] 44)).alloc (.cells #[I 0, I 0, I 0, I 0, .int .u64 0, I 0, I 0] 40)
    have ot := (Own.new (w := (w.alloc (.cells #[I me, I rev, I cr, I hh, .int .u64 bb, I bad, I lk] 40)).alloc (.cells #[.slice a ps.length cap] 25)) (g := w.heap.size + 2) (by simp) [I c, I ti, I n, I tag] 44).alloc (.cells #[I 0, I 0, I 0, I 0, .int .u64 0, I 0, I 0] 40)
    have oz := Own.new (w := ((w.alloc (.cells #[I me, I rev, I cr, I hh, .int .u64 bb, I bad, I lk] 40)).alloc (.cells #[.slice a ps.length cap] 25)).alloc (.cells #[I c, I ti, I n, I tag] 44)) (g := w.heap.size + 3) (by simp) [I 0, I 0, I 0, I 0, .int .u64 0, I 0, I 0] 40
    have hz4 : w.heap.size + 4 ≤ ((((w.alloc (.cells #[I me, I rev, I cr, I hh, .int .u64 bb, I bad, I lk] 40)).alloc (.cells #[.slice a ps.length cap] 25)).alloc (.cells #[I c, I ti, I n, I tag] 44)).alloc (.cells #[I 0, I 0, I 0, I 0, .int .u64 0, I 0, I 0] 40)).heap.size := by simp
    go_enter Tryz.func13, Tryz.ntmps13
    go_wp2_with fail
    refine (M.out _).mono ?_
    rintro e w1 ⟨rfl, k1⟩
    have kb := kb.trans (k1.mono kb.size)
    have om := om.below k1
    have oo := oo.below k1
    have ot := ot.below k1
    have oz := oz.below k1
    have hz4 := Nat.le_trans hz4 k1.size
    clear k1
    have cO := om
    have c0 := cO.cell 0 (by simp)
    have cf0 := cO.frozen 0
    have c1 := cO.cell 1 (by simp)
    have cf1 := cO.frozen 1
    have c2 := cO.cell 2 (by simp)
    have cf2 := cO.frozen 2
    have c3 := cO.cell 3 (by simp)
    have cf3 := cO.frozen 3
    have c4 := cO.cell 4 (by simp)
    have cf4 := cO.frozen 4
    have c5 := cO.cell 5 (by simp)
    have cf5 := cO.frozen 5
    have c6 := cO.cell 6 (by simp)
    have cf6 := cO.frozen 6
    simp only [Nat.zero_add, List.getD_cons_zero, List.getD_cons_succ] at c0 c1 c2 c3 c4 c5 c6
    clear cO
    have tO := ot
    have t0 := tO.cell 0 (by simp)
    have tf0 := tO.frozen 0
    have t1 := tO.cell 1 (by simp)
    have tf1 := tO.frozen 1
    have t2 := tO.cell 2 (by simp)
    have tf2 := tO.frozen 2
    have t3 := tO.cell 3 (by simp)
    have tf3 := tO.frozen 3
    simp only [Nat.zero_add, List.getD_cons_zero, List.getD_cons_succ] at t0 t1 t2 t3
    clear tO
    have zO := oz
    have z0 := zO.cell 0 (by simp)
    have zf0 := zO.frozen 0
    have z1 := zO.cell 1 (by simp)
    have zf1 := zO.frozen 1
    have z2 := zO.cell 2 (by simp)
    have zf2 := zO.frozen 2
    have z3 := zO.cell 3 (by simp)
    have zf3 := zO.frozen 3
    have z4 := zO.cell 4 (by simp)
    have zf4 := zO.frozen 4
    have z5 := zO.cell 5 (by simp)
    have zf5 := zO.frozen 5
    have z6 := zO.cell 6 (by simp)
    have zf6 := zO.frozen 6
    simp only [Nat.zero_add, List.getD_cons_zero, List.getD_cons_succ] at z0 z1 z2 z3 z4 z5 z6
    clear zO
    have r1 := set_same
    have r2 := set_off
    have r3 := set_blk
    clear om oo ot oz h
    go_wp2
    exact bodyPost_ret (v := T3 (MM.mk 0 0 0 0 0 0 0).v (I 0) (I 5)) (by simp [results, Tryz.results13, go_sem, *]; try omega) rfl (Grew.intro rfl (by repeat first | with_reducible assumption | with_reducible exact Below.refl _ _ | with_reducible refine Below.setCell ?_ (by first | exact Nat.le_refl _ | exact Below.size (by assumption) | (simp; done) | (simp; omega) | omega) _ | with_reducible refine Below.alloc ?_ (by first | exact Nat.le_refl _ | exact Below.size (by assumption) | (simp; done) | (simp; omega) | omega) _ | with_reducible refine drewN_below ?_ _ | with_reducible refine Below.drew ?_))
  · obtain ⟨⟨a1, a2, a3, a4, a5, a6, a7, a8, -⟩, -⟩ := mayM_true.1 hm
    rw [hm] at M
    cases hmo : mayO ps
    · obtain ⟨e1, e2, e3⟩ := Off.out (by simp [keyOk, hmo])
      rw [e1, e2, e3]
      rw [hmo] at O
      clear e1 e2 e3 hm hmo hw hI a1 a2 a3 a4 a5 a6 a7 a8
      obtain ⟨a, cap, rfl, -⟩ := id h
      have kb := boxed_below w (.cells #[I me, I rev, I cr, I hh, .int .u64 bb, I bad, I lk] 40)
      have kb := kb.alloc kb.size (.cells #[.slice a ps.length cap] 25)
      have kb := kb.alloc kb.size (.cells #[I c, I ti, I n, I tag] 44)
      have kb := kb.alloc kb.size (.cells #[I 0, I 0, I 0, I 0, .int .u64 0, I 0, I 0] 40)
      have om := (((Own.new (w := w) rfl [I me, I rev, I cr, I hh, .int .u64 bb, I bad, I lk] 40).alloc (.cells #[.slice a ps.length cap] 25)).alloc (.cells #[I c, I ti, I n, I tag] 44)).alloc (.cells #[I 0, I 0, I 0, I 0, .int .u64 0, I 0, I 0] 40)
      have oo := ((Own.new (w := w.alloc (.cells #[I me, I rev, I cr, I hh, .int .u64 bb, I bad, I lk] 40)) (g := w.heap.size + 1) (by simp) [.slice a ps.length cap] 25).alloc (.cells #[I c, I ti, I n, I tag] 44)).alloc (.cells #[I 0, I 0, I 0, I 0, .int .u64 0, I 0, I 0] 40)
      have ot := (Own.new (w := (w.alloc (.cells #[I me, I rev, I cr, I hh, .int .u64 bb, I bad, I lk] 40)).alloc (.cells #[.slice a ps.length cap] 25)) (g := w.heap.size + 2) (by simp) [I c, I ti, I n, I tag] 44).alloc (.cells #[I 0, I 0, I 0, I 0, .int .u64 0, I 0, I 0] 40)
      have oz := Own.new (w := ((w.alloc (.cells #[I me, I rev, I cr, I hh, .int .u64 bb, I bad, I lk] 40)).alloc (.cells #[.slice a ps.length cap] 25)).alloc (.cells #[I c, I ti, I n, I tag] 44)) (g := w.heap.size + 3) (by simp) [I 0, I 0, I 0, I 0, .int .u64 0, I 0, I 0] 40
      have hz4 : w.heap.size + 4 ≤ ((((w.alloc (.cells #[I me, I rev, I cr, I hh, .int .u64 bb, I bad, I lk] 40)).alloc (.cells #[.slice a ps.length cap] 25)).alloc (.cells #[I c, I ti, I n, I tag] 44)).alloc (.cells #[I 0, I 0, I 0, I 0, .int .u64 0, I 0, I 0] 40)).heap.size := by simp
      go_enter Tryz.func13, Tryz.ntmps13
      go_wp2_with fail
      refine (M.out _).mono ?_
      rintro e w1 ⟨rfl, k1⟩
      have kb := kb.trans (k1.mono kb.size)
      have om := om.below k1
      have oo := oo.below k1
      have ot := ot.below k1
      have oz := oz.below k1
      have hz4 := Nat.le_trans hz4 k1.size
      clear k1
      have oO := oo
      have o0 := oO.cell 0 (by simp)
      have of0 := oO.frozen 0
      simp only [Nat.zero_add, List.getD_cons_zero] at o0
      clear oO
      go_wp2_with fail
      refine (O.out _ _ (h.below kb)).mono ?_
      rintro e w2 ⟨rfl, k1⟩
      clear o0 of0
      have kb := kb.trans (k1.mono kb.size)
      have om := om.below k1
      have oo := oo.below k1
      have ot := ot.below k1
      have oz := oz.below k1
      have hz4 := Nat.le_trans hz4 k1.size
      clear k1
      have cO := om
      have c0 := cO.cell 0 (by simp)
      have cf0 := cO.frozen 0
      have c1 := cO.cell 1 (by simp)
      have cf1 := cO.frozen 1
      have c2 := cO.cell 2 (by simp)
      have cf2 := cO.frozen 2
      have c3 := cO.cell 3 (by simp)
      have cf3 := cO.frozen 3
      have c4 := cO.cell 4 (by simp)
      have cf4 := cO.frozen 4
      have c5 := cO.cell 5 (by simp)
      have cf5 := cO.frozen 5
      have c6 := cO.cell 6 (by simp)
      have cf6 := cO.frozen 6
      simp only [Nat.zero_add, List.getD_cons_zero, List.getD_cons_succ] at c0 c1 c2 c3 c4 c5 c6
      clear cO
      have tO := ot
      have t0 := tO.cell 0 (by simp)
      have tf0 := tO.frozen 0
      have t1 := tO.cell 1 (by simp)
      have tf1 := tO.frozen 1
      have t2 := tO.cell 2 (by simp)
      have tf2 := tO.frozen 2
      have t3 := tO.cell 3 (by simp)
      have tf3 := tO.frozen 3
      simp only [Nat.zero_add, List.getD_cons_zero, List.getD_cons_succ] at t0 t1 t2 t3
      clear tO
      have zO := oz
      have z0 := zO.cell 0 (by simp)
      have zf0 := zO.frozen 0
      have z1 := zO.cell 1 (by simp)
      have zf1 := zO.frozen 1
      have z2 := zO.cell 2 (by simp)
      have zf2 := zO.frozen 2
      have z3 := zO.cell 3 (by simp)
      have zf3 := zO.frozen 3
      have z4 := zO.cell 4 (by simp)
      have zf4 := zO.frozen 4
      have z5 := zO.cell 5 (by simp)
      have zf5 := zO.frozen 5
      have z6 := zO.cell 6 (by simp)
      have zf6 := zO.frozen 6
      simp only [Nat.zero_add, List.getD_cons_zero, List.getD_cons_succ] at z0 z1 z2 z3 z4 z5 z6
      clear zO
      have r1 := set_same
      have r2 := set_off
      have r3 := set_blk
      clear om oo ot oz h
      go_wp2
      exact bodyPost_ret (v := T3 (MM.mk 0 0 0 0 0 0 0).v (I 0) (I 5)) (by simp [results, Tryz.results13, go_sem, *]; try omega) rfl (Grew.intro rfl (by repeat first | with_reducible assumption | with_reducible exact Below.refl _ _ | with_reducible refine Below.setCell ?_ (by first | exact Nat.le_refl _ | exact Below.size (by assumption) | (simp; done) | (simp; omega) | omega) _ | with_reducible refine Below.alloc ?_ (by first | exact Nat.le_refl _ | exact Below.size (by assumption) | (simp; done) | (simp; omega) | omega) _ | with_reducible refine drewN_below ?_ _ | with_reducible refine Below.drew ?_))
    · have hko : keyOk ⟨me, rev, cr, hh, bb, bad, lk⟩ ps = true := by simp [keyOk, MM.ok, hm, hmo]
      have hMo := Lib.hid hmo
      rw [hmo] at O
      clear Off hw hm hmo
      obtain ⟨a, cap, rfl, -⟩ := id h
      have kb := boxed_below w (.cells #[I me, I rev, I cr, I hh, .int .u64 bb, I bad, I lk] 40)
      have kb := kb.alloc kb.size (.cells #[.slice a ps.length cap] 25)
      have kb := kb.alloc kb.size (.cells #[I c, I ti, I n, I tag] 44)
      have kb := kb.alloc kb.size (.cells #[I 0, I 0, I 0, I 0, .int .u64 0, I 0, I 0] 40)
      have om := (((Own.new (w := w) rfl [I me, I rev, I cr, I hh, .int .u64 bb, I bad, I lk] 40).alloc (.cells #[.slice a ps.length cap] 25)).alloc (.cells #[I c, I ti, I n, I tag] 44)).alloc (.cells #[I 0, I 0, I 0, I 0, .int .u64 0, I 0, I 0] 40)
      have oo := ((Own.new (w := w.alloc (.cells #[I me, I rev, I cr, I hh, .int .u64 bb, I bad, I lk] 40)) (g := w.heap.size + 1) (by simp) [.slice a ps.length cap] 25).alloc (.cells #[I c, I ti, I n, I tag] 44)).alloc (.cells #[I 0, I 0, I 0, I 0, .int .u64 0, I 0, I 0] 40)
      have ot := (Own.new (w := (w.alloc (.cells #[I me, I rev, I cr, I hh, .int .u64 bb, I bad, I lk] 40)).alloc (.cells #[.slice a ps.length cap] 25)) (g := w.heap.size + 2) (by simp) [I c, I ti, I n, I tag] 44).alloc (.cells #[I 0, I 0, I 0, I 0, .int .u64 0, I 0, I 0] 40)
      have oz := Own.new (w := ((w.alloc (.cells #[I me, I rev, I cr, I hh, .int .u64 bb, I bad, I lk] 40)).alloc (.cells #[.slice a ps.length cap] 25)).alloc (.cells #[I c, I ti, I n, I tag] 44)) (g := w.heap.size + 3) (by simp) [I 0, I 0, I 0, I 0, .int .u64 0, I 0, I 0] 40
      have hz4 : w.heap.size + 4 ≤ ((((w.alloc (.cells #[I me, I rev, I cr, I hh, .int .u64 bb, I bad, I lk] 40)).alloc (.cells #[.slice a ps.length cap] 25)).alloc (.cells #[I c, I ti, I n, I tag] 44)).alloc (.cells #[I 0, I 0, I 0, I 0, .int .u64 0, I 0, I 0] 40)).heap.size := by simp
      by_cases hf : tokFault ⟨c, ti, n, tag⟩ = 0
      · have hb0 := Lib.hid (tok_bounds hf)
        rw [hf] at B
        by_cases hl : 0 < lk
        · have hg : keyGo ⟨me, rev, cr, hh, bb, bad, lk⟩ ⟨c, ti, n, tag⟩ = false := by simp [keyGo, hl]
          obtain ⟨e2, e3⟩ := No.out hko hg
          rw [e2, e3, show keyE ⟨me, rev, cr, hh, bb, bad, lk⟩ ps ⟨c, ti, n, tag⟩ = 10 by simp [keyE, hko, hf, hl]]
          clear e2 e3 hko hf hg
          go_enter Tryz.func13, Tryz.ntmps13
          go_wp2_with fail
          refine (M.out _).mono ?_
          rintro e w1 ⟨rfl, k1⟩
          have kb := kb.trans (k1.mono kb.size)
          have om := om.below k1
          have oo := oo.below k1
          have ot := ot.below k1
          have oz := oz.below k1
          have hz4 := Nat.le_trans hz4 k1.size
          clear k1
          have oO := oo
          have o0 := oO.cell 0 (by simp)
          have of0 := oO.frozen 0
          simp only [Nat.zero_add, List.getD_cons_zero] at o0
          clear oO
          go_wp2_with fail
          refine (O.out _ _ (h.below kb)).mono ?_
          rintro e w2 ⟨rfl, k1⟩
          clear o0 of0
          have kb := kb.trans (k1.mono kb.size)
          have om := om.below k1
          have oo := oo.below k1
          have ot := ot.below k1
          have oz := oz.below k1
          have hz4 := Nat.le_trans hz4 k1.size
          clear k1
          have tO := ot
          have t0 := tO.cell 0 (by simp)
          have tf0 := tO.frozen 0
          have t1 := tO.cell 1 (by simp)
          have tf1 := tO.frozen 1
          have t2 := tO.cell 2 (by simp)
          have tf2 := tO.frozen 2
          have t3 := tO.cell 3 (by simp)
          have tf3 := tO.frozen 3
          simp only [Nat.zero_add, List.getD_cons_zero, List.getD_cons_succ] at t0 t1 t2 t3
          clear tO
          go_wp2_with fail
          refine (B.out _).mono ?_
          rintro e w3 ⟨rfl, k1⟩
          clear t0 t1 t2 t3 tf0 tf1 tf2 tf3 M O B
          have kb := kb.trans (k1.mono kb.size)
          have om := om.below k1
          have oo := oo.below k1
          have ot := ot.below k1
          have oz := oz.below k1
          have hz4 := Nat.le_trans hz4 k1.size
          clear k1
          have cO := om
          have c0 := cO.cell 0 (by simp)
          have cf0 := cO.frozen 0
          have c1 := cO.cell 1 (by simp)
          have cf1 := cO.frozen 1
          have c2 := cO.cell 2 (by simp)
          have cf2 := cO.frozen 2
          have c3 := cO.cell 3 (by simp)
          have cf3 := cO.frozen 3
          have c4 := cO.cell 4 (by simp)
          have cf4 := cO.frozen 4
          have c5 := cO.cell 5 (by simp)
          have cf5 := cO.frozen 5
          have c6 := cO.cell 6 (by simp)
          have cf6 := cO.frozen 6
          simp only [Nat.zero_add, List.getD_cons_zero, List.getD_cons_succ] at c0 c1 c2 c3 c4 c5 c6
          clear cO
          have tO := ot
          have t0 := tO.cell 0 (by simp)
          have tf0 := tO.frozen 0
          have t1 := tO.cell 1 (by simp)
          have tf1 := tO.frozen 1
          have t2 := tO.cell 2 (by simp)
          have tf2 := tO.frozen 2
          have t3 := tO.cell 3 (by simp)
          have tf3 := tO.frozen 3
          simp only [Nat.zero_add, List.getD_cons_zero, List.getD_cons_succ] at t0 t1 t2 t3
          clear tO
          have zO := oz
          have z0 := zO.cell 0 (by simp)
          have zf0 := zO.frozen 0
          have z1 := zO.cell 1 (by simp)
          have zf1 := zO.frozen 1
          have z2 := zO.cell 2 (by simp)
          have zf2 := zO.frozen 2
          have z3 := zO.cell 3 (by simp)
          have zf3 := zO.frozen 3
          have z4 := zO.cell 4 (by simp)
          have zf4 := zO.frozen 4
          have z5 := zO.cell 5 (by simp)
          have zf5 := zO.frozen 5
          have z6 := zO.cell 6 (by simp)
          have zf6 := zO.frozen 6
          simp only [Nat.zero_add, List.getD_cons_zero, List.getD_cons_succ] at z0 z1 z2 z3 z4 z5 z6
          clear zO
          have r1 := set_same
          have r2 := set_off
          have r3 := set_blk
          clear om oo ot oz h
          go_wp2
          exact bodyPost_ret (v := T3 (MM.mk me rev cr hh bb bad lk).v (I 0) (I 10)) (by simp [results, Tryz.results13, go_sem, *]; try omega) rfl (Grew.intro rfl (by repeat first | with_reducible assumption | with_reducible exact Below.refl _ _ | with_reducible refine Below.setCell ?_ (by first | exact Nat.le_refl _ | exact Below.size (by assumption) | (simp; done) | (simp; omega) | omega) _ | with_reducible refine Below.alloc ?_ (by first | exact Nat.le_refl _ | exact Below.size (by assumption) | (simp; done) | (simp; omega) | omega) _ | with_reducible refine drewN_below ?_ _ | with_reducible refine Below.drew ?_))
        · by_cases hc : c = 3
          · subst hc
            have hg : keyGo ⟨me, rev, cr, hh, bb, bad, lk⟩ ⟨3, ti, n, tag⟩ = false := by simp [keyGo]
            obtain ⟨e2, e3⟩ := No.out hko hg
            rw [e2, e3, show keyE ⟨me, rev, cr, hh, bb, bad, lk⟩ ps ⟨3, ti, n, tag⟩ = 0 by simp [keyE, hko, hf, hl]]
            clear e2 e3 hko hf hg
            go_enter Tryz.func13, Tryz.ntmps13
            go_wp2_with fail
            refine (M.out _).mono ?_
            rintro e w1 ⟨rfl, k1⟩
            have kb := kb.trans (k1.mono kb.size)
            have om := om.below k1
            have oo := oo.below k1
            have ot := ot.below k1
            have oz := oz.below k1
            have hz4 := Nat.le_trans hz4 k1.size
            clear k1
            have oO := oo
            have o0 := oO.cell 0 (by simp)
            have of0 := oO.frozen 0
            simp only [Nat.zero_add, List.getD_cons_zero] at o0
            clear oO
            go_wp2_with fail
            refine (O.out _ _ (h.below kb)).mono ?_
            rintro e w2 ⟨rfl, k1⟩
            clear o0 of0
            have kb := kb.trans (k1.mono kb.size)
            have om := om.below k1
            have oo := oo.below k1
            have ot := ot.below k1
            have oz := oz.below k1
            have hz4 := Nat.le_trans hz4 k1.size
            clear k1
            have tO := ot
            have t0 := tO.cell 0 (by simp)
            have tf0 := tO.frozen 0
            have t1 := tO.cell 1 (by simp)
            have tf1 := tO.frozen 1
            have t2 := tO.cell 2 (by simp)
            have tf2 := tO.frozen 2
            have t3 := tO.cell 3 (by simp)
            have tf3 := tO.frozen 3
            simp only [Nat.zero_add, List.getD_cons_zero, List.getD_cons_succ] at t0 t1 t2 t3
            clear tO
            go_wp2_with fail
            refine (B.out _).mono ?_
            rintro e w3 ⟨rfl, k1⟩
            clear t0 t1 t2 t3 tf0 tf1 tf2 tf3 M O B
            have kb := kb.trans (k1.mono kb.size)
            have om := om.below k1
            have oo := oo.below k1
            have ot := ot.below k1
            have oz := oz.below k1
            have hz4 := Nat.le_trans hz4 k1.size
            clear k1
            have cO := om
            have c0 := cO.cell 0 (by simp)
            have cf0 := cO.frozen 0
            have c1 := cO.cell 1 (by simp)
            have cf1 := cO.frozen 1
            have c2 := cO.cell 2 (by simp)
            have cf2 := cO.frozen 2
            have c3 := cO.cell 3 (by simp)
            have cf3 := cO.frozen 3
            have c4 := cO.cell 4 (by simp)
            have cf4 := cO.frozen 4
            have c5 := cO.cell 5 (by simp)
            have cf5 := cO.frozen 5
            have c6 := cO.cell 6 (by simp)
            have cf6 := cO.frozen 6
            simp only [Nat.zero_add, List.getD_cons_zero, List.getD_cons_succ] at c0 c1 c2 c3 c4 c5 c6
            clear cO
            have tO := ot
            have t0 := tO.cell 0 (by simp)
            have tf0 := tO.frozen 0
            have t1 := tO.cell 1 (by simp)
            have tf1 := tO.frozen 1
            have t2 := tO.cell 2 (by simp)
            have tf2 := tO.frozen 2
            have t3 := tO.cell 3 (by simp)
            have tf3 := tO.frozen 3
            simp only [Nat.zero_add, List.getD_cons_zero, List.getD_cons_succ] at t0 t1 t2 t3
            clear tO
            have zO := oz
            have z0 := zO.cell 0 (by simp)
            have zf0 := zO.frozen 0
            have z1 := zO.cell 1 (by simp)
            have zf1 := zO.frozen 1
            have z2 := zO.cell 2 (by simp)
            have zf2 := zO.frozen 2
            have z3 := zO.cell 3 (by simp)
            have zf3 := zO.frozen 3
            have z4 := zO.cell 4 (by simp)
            have zf4 := zO.frozen 4
            have z5 := zO.cell 5 (by simp)
            have zf5 := zO.frozen 5
            have z6 := zO.cell 6 (by simp)
            have zf6 := zO.frozen 6
            simp only [Nat.zero_add, List.getD_cons_zero, List.getD_cons_succ] at z0 z1 z2 z3 z4 z5 z6
            clear zO
            have r1 := set_same
            have r2 := set_off
            have r3 := set_blk
            clear om oo ot oz h
            go_wp2
            exact bodyPost_ret (v := T3 (MM.mk me rev cr hh bb bad lk).v (I 0) (I 0)) (by simp [results, Tryz.results13, go_sem, *]; try omega) rfl (Grew.intro rfl (by repeat first | with_reducible assumption | with_reducible exact Below.refl _ _ | with_reducible refine Below.setCell ?_ (by first | exact Nat.le_refl _ | exact Below.size (by assumption) | (simp; done) | (simp; omega) | omega) _ | with_reducible refine Below.alloc ?_ (by first | exact Nat.le_refl _ | exact Below.size (by assumption) | (simp; done) | (simp; omega) | omega) _ | with_reducible refine drewN_below ?_ _ | with_reducible refine Below.drew ?_))
          · have hg : keyGo ⟨me, rev, cr, hh, bb, bad, lk⟩ ⟨c, ti, n, tag⟩ = true := by simp [keyGo, hf, hl, hc]
            have hcb : (c == 3) = false := by simp [hc]
            have Sd2 := Lib.hid (fun hk => Sd.out hko hg hk)
            have Tk2 := Lib.hid (fun hk => Tk.out hko hg hk)
            have HK := Lib.hid (show keyK ⟨me, rev, cr, hh, bb, bad, lk⟩ ps ⟨c, ti, n, tag⟩ = sellK me rev (bodyV ⟨c, ti, n, tag⟩) tag ps from rfl)
            clear Sd Tk No hko hf hg hc
            go_enter Tryz.func13, Tryz.ntmps13
            go_wp2_with fail
            refine (M.out _).mono ?_
            rintro e w1 ⟨rfl, k1⟩
            have kb := kb.trans (k1.mono kb.size)
            have om := om.below k1
            have oo := oo.below k1
            have ot := ot.below k1
            have oz := oz.below k1
            have hz4 := Nat.le_trans hz4 k1.size
            clear k1
            have oO := oo
            have o0 := oO.cell 0 (by simp)
            have of0 := oO.frozen 0
            simp only [Nat.zero_add, List.getD_cons_zero] at o0
            clear oO
            go_wp2_with fail
            refine (O.out _ _ (h.below kb)).mono ?_
            rintro e w2 ⟨rfl, k1⟩
            clear o0 of0
            have kb := kb.trans (k1.mono kb.size)
            have om := om.below k1
            have oo := oo.below k1
            have ot := ot.below k1
            have oz := oz.below k1
            have hz4 := Nat.le_trans hz4 k1.size
            clear k1
            have tO := ot
            have t0 := tO.cell 0 (by simp)
            have tf0 := tO.frozen 0
            have t1 := tO.cell 1 (by simp)
            have tf1 := tO.frozen 1
            have t2 := tO.cell 2 (by simp)
            have tf2 := tO.frozen 2
            have t3 := tO.cell 3 (by simp)
            have tf3 := tO.frozen 3
            simp only [Nat.zero_add, List.getD_cons_zero, List.getD_cons_succ] at t0 t1 t2 t3
            clear tO
            go_wp2_with fail
            refine (B.out _).mono ?_
            rintro e w3 ⟨rfl, k1⟩
            clear t0 t1 t2 t3 tf0 tf1 tf2 tf3 M O B
            have kb := kb.trans (k1.mono kb.size)
            have om := om.below k1
            have oo := oo.below k1
            have ot := ot.below k1
            have oz := oz.below k1
            have hz4 := Nat.le_trans hz4 k1.size
            clear k1
            have cO := om
            have c0 := cO.cell 0 (by simp)
            have cf0 := cO.frozen 0
            have c1 := cO.cell 1 (by simp)
            have cf1 := cO.frozen 1
            have c2 := cO.cell 2 (by simp)
            have cf2 := cO.frozen 2
            have c3 := cO.cell 3 (by simp)
            have cf3 := cO.frozen 3
            have c4 := cO.cell 4 (by simp)
            have cf4 := cO.frozen 4
            have c5 := cO.cell 5 (by simp)
            have cf5 := cO.frozen 5
            have c6 := cO.cell 6 (by simp)
            have cf6 := cO.frozen 6
            simp only [Nat.zero_add, List.getD_cons_zero, List.getD_cons_succ] at c0 c1 c2 c3 c4 c5 c6
            clear cO
            have ks := boxed_below w3 (.cells #[I me, I rev, I cr, I hh, .int .u64 bb, I bad, I lk, I 0] 75)
            have os : Own (w3.alloc (.cells #[I me, I rev, I cr, I hh, .int .u64 bb, I bad, I lk, I 0] 75)) w3.heap.size (stL ⟨me, rev, cr, hh, bb, bad, lk⟩ 0) := Own.new rfl [I me, I rev, I cr, I hh, .int .u64 bb, I bad, I lk, I 0] 75
            have qO := ot
            have q0 := qO.cell 0 (by simp)
            have qf0 := qO.frozen 0
            have q1 := qO.cell 1 (by simp)
            have qf1 := qO.frozen 1
            have q2 := qO.cell 2 (by simp)
            have qf2 := qO.frozen 2
            have q3 := qO.cell 3 (by simp)
            have qf3 := qO.frozen 3
            simp only [Nat.zero_add, List.getD_cons_zero, List.getD_cons_succ] at q0 q1 q2 q3
            clear qO
            have oo := oo.below ks
            have ot := ot.below ks
            have oz := oz.below ks
            have kb2 := kb.trans (ks.mono kb.size)
            have hlt : w.heap.size + 4 ≤ w3.heap.size := hz4
            have tO := ot
            have t0 := tO.cell 0 (by simp)
            have tf0 := tO.frozen 0
            have t1 := tO.cell 1 (by simp)
            have tf1 := tO.frozen 1
            have t2 := tO.cell 2 (by simp)
            have tf2 := tO.frozen 2
            have t3 := tO.cell 3 (by simp)
            have tf3 := tO.frozen 3
            simp only [Nat.zero_add, List.getD_cons_zero, List.getD_cons_succ] at t0 t1 t2 t3
            clear tO
            have oO := oo
            have o0 := oO.cell 0 (by simp)
            have of0 := oO.frozen 0
            simp only [Nat.zero_add, List.getD_cons_zero] at o0
            clear oO
            go_wp2_with fail
            refine (S.out _ _ _ os (h.below kb2) hMo.out (by unfold I64; omega) ⟨a3, a4⟩ ⟨a7, a8⟩).mono ?_
            rintro e w4 ⟨rfl, os2, C2⟩
            clear q0 q1 q2 q3 qf0 qf1 qf2 qf3 c0 c1 c2 c3 c4 c5 c6 cf0 cf1 cf2 cf3 cf4 cf5 cf6 t0 t1 t2 t3 tf0 tf1 tf2 tf3 o0 of0 os
            have ot := ot.chg C2 (by omega)
            have oz := oz.chg C2 (by omega)
            have kb4 := Chg.below kb2 kb.size C2 kb2.size
            have h34 : w3.heap.size + 1 ≤ w4.heap.size := by have := C2.size; simp at this; omega
            by_cases hk : sellK me rev (bodyV ⟨c, ti, n, tag⟩) tag ps = 0
            · obtain ⟨e1, e2, e3⟩ := Tk2.out hk
              have HR := Lib.hid (show T3 (takeM ⟨me, rev, cr, hh, bb, bad, lk⟩ c ti n).v (I (takeA ⟨me, rev, cr, hh, bb, bad, lk⟩ 0 c ti n)) (I (takeE ⟨me, rev, cr, hh, bb, bad, lk⟩ c ti n)) = T3 (keyM ⟨me, rev, cr, hh, bb, bad, lk⟩ ps ⟨c, ti, n, tag⟩).v (I (keyA ⟨me, rev, cr, hh, bb, bad, lk⟩ ps ⟨c, ti, n, tag⟩)) (I (keyE ⟨me, rev, cr, hh, bb, bad, lk⟩ ps ⟨c, ti, n, tag⟩)) by rw [e1, e2, e3])
              rw [hk] at os2 ⊢
              have os3 : Own w4 w3.heap.size (stL ⟨me, rev, cr, hh, bb, bad, lk⟩ 0) := os2
              have hE0 : Hid (soldE 0 = 0) := Lib.hid rfl
              clear e1 e2 e3 hk os2 Sd2 Tk2 HK S
              have tO := ot
              have t0 := tO.cell 0 (by simp)
              have tf0 := tO.frozen 0
              have t1 := tO.cell 1 (by simp)
              have tf1 := tO.frozen 1
              have t2 := tO.cell 2 (by simp)
              have tf2 := tO.frozen 2
              have t3 := tO.cell 3 (by simp)
              have tf3 := tO.frozen 3
              simp only [Nat.zero_add, List.getD_cons_zero, List.getD_cons_succ] at t0 t1 t2 t3
              clear tO
              rw [hE0.out]
              go_wp2_with fail
              refine (T.out _ _ os3 ⟨a5, a6⟩ hb0.out).mono ?_
              rintro e w5 ⟨rfl, os2, C3⟩
              have oz := oz.chg C3 (by omega)
              have kb5 := Chg.below kb4 kb.size C3 kb4.size
              clear t0 t1 t2 t3 tf0 tf1 tf2 tf3 T os3
              generalize takeM ⟨me, rev, cr, hh, bb, bad, lk⟩ c ti n = M2 at *
              generalize takeA ⟨me, rev, cr, hh, bb, bad, lk⟩ 0 c ti n = A2 at *
              generalize takeE ⟨me, rev, cr, hh, bb, bad, lk⟩ c ti n = E2 at *
              obtain ⟨y1, y2, y3, y4, y5, y6, y7⟩ := M2
              unfold stL at os2
              have sO := os2
              have s0 := sO.cell 0 (by simp)
              have sf0 := sO.frozen 0
              have s1 := sO.cell 1 (by simp)
              have sf1 := sO.frozen 1
              have s2 := sO.cell 2 (by simp)
              have sf2 := sO.frozen 2
              have s3 := sO.cell 3 (by simp)
              have sf3 := sO.frozen 3
              have s4 := sO.cell 4 (by simp)
              have sf4 := sO.frozen 4
              have s5 := sO.cell 5 (by simp)
              have sf5 := sO.frozen 5
              have s6 := sO.cell 6 (by simp)
              have sf6 := sO.frozen 6
              have s7 := sO.cell 7 (by simp)
              have sf7 := sO.frozen 7
              simp only [Nat.zero_add, List.getD_cons_zero, List.getD_cons_succ] at s0 s1 s2 s3 s4 s5 s6 s7
              clear sO
              have zO := oz
              have z0 := zO.cell 0 (by simp)
              have zf0 := zO.frozen 0
              have z1 := zO.cell 1 (by simp)
              have zf1 := zO.frozen 1
              have z2 := zO.cell 2 (by simp)
              have zf2 := zO.frozen 2
              have z3 := zO.cell 3 (by simp)
              have zf3 := zO.frozen 3
              have z4 := zO.cell 4 (by simp)
              have zf4 := zO.frozen 4
              have z5 := zO.cell 5 (by simp)
              have zf5 := zO.frozen 5
              have z6 := zO.cell 6 (by simp)
              have zf6 := zO.frozen 6
              simp only [Nat.zero_add, List.getD_cons_zero, List.getD_cons_succ] at z0 z1 z2 z3 z4 z5 z6
              clear zO
              have r1 := set_same
              have r2 := set_off
              have r3 := set_blk
              have n1 : ¬ w.heap.size + 3 = w3.heap.size := by omega
              have n2 : ¬ w3.heap.size = w.heap.size + 3 := by omega
              clear oo ot oz om h os2
              go_wp2
              go_region
              all_goals
                go_wp2
                exact bodyPost_ret (v := T3 (MM.mk y1 y2 y3 y4 y5 y6 y7).v (I A2) (I E2)) (by simp [results, Tryz.results13, go_sem, *]; try omega) rfl (Grew.intro HR.out (by repeat first | with_reducible assumption | with_reducible exact Below.refl _ _ | with_reducible refine Below.setCell ?_ (by first | exact Nat.le_refl _ | exact Below.size (by assumption) | (simp; done) | (simp; omega) | omega) _ | with_reducible refine Below.alloc ?_ (by first | exact Nat.le_refl _ | exact Below.size (by assumption) | (simp; done) | (simp; omega) | omega) _ | with_reducible refine drewN_below ?_ _ | with_reducible refine Below.drew ?_))
            · obtain ⟨e1, e2, e3⟩ := Sd2.out hk
              have hne := soldE_ne hk
              rw [HK.out] at e1 e2
              have HR := Lib.hid (show T3 (soldM ⟨me, rev, cr, hh, bb, bad, lk⟩ (sellK me rev (bodyV ⟨c, ti, n, tag⟩) tag ps)).v (I 0) (I (soldE (sellK me rev (bodyV ⟨c, ti, n, tag⟩) tag ps))) = T3 (keyM ⟨me, rev, cr, hh, bb, bad, lk⟩ ps ⟨c, ti, n, tag⟩).v (I (keyA ⟨me, rev, cr, hh, bb, bad, lk⟩ ps ⟨c, ti, n, tag⟩)) (I (keyE ⟨me, rev, cr, hh, bb, bad, lk⟩ ps ⟨c, ti, n, tag⟩)) by rw [e1, e2, e3])
              clear e1 e2 e3 hk Sd2 Tk2 HK S T
              generalize soldM ⟨me, rev, cr, hh, bb, bad, lk⟩ (sellK me rev (bodyV ⟨c, ti, n, tag⟩) tag ps) = M2 at *
              generalize soldE (sellK me rev (bodyV ⟨c, ti, n, tag⟩) tag ps) = E2 at *
              obtain ⟨y1, y2, y3, y4, y5, y6, y7⟩ := M2
              unfold stL at os2
              have sO := os2
              have s0 := sO.cell 0 (by simp)
              have sf0 := sO.frozen 0
              have s1 := sO.cell 1 (by simp)
              have sf1 := sO.frozen 1
              have s2 := sO.cell 2 (by simp)
              have sf2 := sO.frozen 2
              have s3 := sO.cell 3 (by simp)
              have sf3 := sO.frozen 3
              have s4 := sO.cell 4 (by simp)
              have sf4 := sO.frozen 4
              have s5 := sO.cell 5 (by simp)
              have sf5 := sO.frozen 5
              have s6 := sO.cell 6 (by simp)
              have sf6 := sO.frozen 6
              have s7 := sO.cell 7 (by simp)
              have sf7 := sO.frozen 7
              simp only [Nat.zero_add, List.getD_cons_zero, List.getD_cons_succ] at s0 s1 s2 s3 s4 s5 s6 s7
              clear sO
              have zO := oz
              have z0 := zO.cell 0 (by simp)
              have zf0 := zO.frozen 0
              have z1 := zO.cell 1 (by simp)
              have zf1 := zO.frozen 1
              have z2 := zO.cell 2 (by simp)
              have zf2 := zO.frozen 2
              have z3 := zO.cell 3 (by simp)
              have zf3 := zO.frozen 3
              have z4 := zO.cell 4 (by simp)
              have zf4 := zO.frozen 4
              have z5 := zO.cell 5 (by simp)
              have zf5 := zO.frozen 5
              have z6 := zO.cell 6 (by simp)
              have zf6 := zO.frozen 6
              simp only [Nat.zero_add, List.getD_cons_zero, List.getD_cons_succ] at z0 z1 z2 z3 z4 z5 z6
              clear zO
              have r1 := set_same
              have r2 := set_off
              have r3 := set_blk
              have n1 : ¬ w.heap.size + 3 = w3.heap.size := by omega
              have n2 : ¬ w3.heap.size = w.heap.size + 3 := by omega
              have hnb : (E2 == 0) = false := by simp [hne]
              clear oo ot oz om h os2 hne
              go_wp2
              go_region
              all_goals
                go_wp2
                exact bodyPost_ret (v := T3 (MM.mk y1 y2 y3 y4 y5 y6 y7).v (I 0) (I E2)) (by simp [results, Tryz.results13, go_sem, *]; try omega) rfl (Grew.intro HR.out (by repeat first | with_reducible assumption | with_reducible exact Below.refl _ _ | with_reducible refine Below.setCell ?_ (by first | exact Nat.le_refl _ | exact Below.size (by assumption) | (simp; done) | (simp; omega) | omega) _ | with_reducible refine Below.alloc ?_ (by first | exact Nat.le_refl _ | exact Below.size (by assumption) | (simp; done) | (simp; omega) | omega) _ | with_reducible refine drewN_below ?_ _ | with_reducible refine Below.drew ?_))
      · have hg : keyGo ⟨me, rev, cr, hh, bb, bad, lk⟩ ⟨c, ti, n, tag⟩ = false := by simp [keyGo, hf]
        obtain ⟨e2, e3⟩ := No.out hko hg
        rw [e2, e3, show keyE ⟨me, rev, cr, hh, bb, bad, lk⟩ ps ⟨c, ti, n, tag⟩ = tokFault ⟨c, ti, n, tag⟩ by simp [keyE, hko, hf]]
        have hfb : (tokFault ⟨c, ti, n, tag⟩ != 0) = true := by simp [hf]
        generalize tokFault ⟨c, ti, n, tag⟩ = E at *
        clear e2 e3 hko hg hf
        go_enter Tryz.func13, Tryz.ntmps13
        go_wp2_with fail
        refine (M.out _).mono ?_
        rintro e w1 ⟨rfl, k1⟩
        have kb := kb.trans (k1.mono kb.size)
        have om := om.below k1
        have oo := oo.below k1
        have ot := ot.below k1
        have oz := oz.below k1
        have hz4 := Nat.le_trans hz4 k1.size
        clear k1
        have oO := oo
        have o0 := oO.cell 0 (by simp)
        have of0 := oO.frozen 0
        simp only [Nat.zero_add, List.getD_cons_zero] at o0
        clear oO
        go_wp2_with fail
        refine (O.out _ _ (h.below kb)).mono ?_
        rintro e w2 ⟨rfl, k1⟩
        clear o0 of0
        have kb := kb.trans (k1.mono kb.size)
        have om := om.below k1
        have oo := oo.below k1
        have ot := ot.below k1
        have oz := oz.below k1
        have hz4 := Nat.le_trans hz4 k1.size
        clear k1
        have tO := ot
        have t0 := tO.cell 0 (by simp)
        have tf0 := tO.frozen 0
        have t1 := tO.cell 1 (by simp)
        have tf1 := tO.frozen 1
        have t2 := tO.cell 2 (by simp)
        have tf2 := tO.frozen 2
        have t3 := tO.cell 3 (by simp)
        have tf3 := tO.frozen 3
        simp only [Nat.zero_add, List.getD_cons_zero, List.getD_cons_succ] at t0 t1 t2 t3
        clear tO
        go_wp2_with fail
        refine (B.out _).mono ?_
        rintro e w3 ⟨rfl, k1⟩
        clear t0 t1 t2 t3 tf0 tf1 tf2 tf3 M O B
        have kb := kb.trans (k1.mono kb.size)
        have om := om.below k1
        have oo := oo.below k1
        have ot := ot.below k1
        have oz := oz.below k1
        have hz4 := Nat.le_trans hz4 k1.size
        clear k1
        have cO := om
        have c0 := cO.cell 0 (by simp)
        have cf0 := cO.frozen 0
        have c1 := cO.cell 1 (by simp)
        have cf1 := cO.frozen 1
        have c2 := cO.cell 2 (by simp)
        have cf2 := cO.frozen 2
        have c3 := cO.cell 3 (by simp)
        have cf3 := cO.frozen 3
        have c4 := cO.cell 4 (by simp)
        have cf4 := cO.frozen 4
        have c5 := cO.cell 5 (by simp)
        have cf5 := cO.frozen 5
        have c6 := cO.cell 6 (by simp)
        have cf6 := cO.frozen 6
        simp only [Nat.zero_add, List.getD_cons_zero, List.getD_cons_succ] at c0 c1 c2 c3 c4 c5 c6
        clear cO
        have tO := ot
        have t0 := tO.cell 0 (by simp)
        have tf0 := tO.frozen 0
        have t1 := tO.cell 1 (by simp)
        have tf1 := tO.frozen 1
        have t2 := tO.cell 2 (by simp)
        have tf2 := tO.frozen 2
        have t3 := tO.cell 3 (by simp)
        have tf3 := tO.frozen 3
        simp only [Nat.zero_add, List.getD_cons_zero, List.getD_cons_succ] at t0 t1 t2 t3
        clear tO
        have zO := oz
        have z0 := zO.cell 0 (by simp)
        have zf0 := zO.frozen 0
        have z1 := zO.cell 1 (by simp)
        have zf1 := zO.frozen 1
        have z2 := zO.cell 2 (by simp)
        have zf2 := zO.frozen 2
        have z3 := zO.cell 3 (by simp)
        have zf3 := zO.frozen 3
        have z4 := zO.cell 4 (by simp)
        have zf4 := zO.frozen 4
        have z5 := zO.cell 5 (by simp)
        have zf5 := zO.frozen 5
        have z6 := zO.cell 6 (by simp)
        have zf6 := zO.frozen 6
        simp only [Nat.zero_add, List.getD_cons_zero, List.getD_cons_succ] at z0 z1 z2 z3 z4 z5 z6
        clear zO
        have r1 := set_same
        have r2 := set_off
        have r3 := set_blk
        clear om oo ot oz h
        go_wp2
        exact bodyPost_ret (v := T3 (MM.mk me rev cr hh bb bad lk).v (I 0) (I E)) (by simp [results, Tryz.results13, go_sem, *]; try omega) rfl (Grew.intro rfl (by repeat first | with_reducible assumption | with_reducible exact Below.refl _ _ | with_reducible refine Below.setCell ?_ (by first | exact Nat.le_refl _ | exact Below.size (by assumption) | (simp; done) | (simp; omega) | omega) _ | with_reducible refine Below.alloc ?_ (by first | exact Nat.le_refl _ | exact Below.size (by assumption) | (simp; done) | (simp; omega) | omega) _ | with_reducible refine drewN_below ?_ _ | with_reducible refine Below.drew ?_))
theorem sellK_cases (me rev body tag : Int) (ps : List APair) : sellK me rev body tag ps = 0 ∨ sellK me rev body tag ps = 1 ∨ sellK me rev body tag ps = 2 := by
  unfold sellK outK
  split
  · exact .inl rfl
  · split
    · exact .inr (.inl rfl)
    · exact .inr (.inr rfl)
theorem tok_class {x : AToken} (h : tokFault x = 0) (h3 : x.class_ ≠ 3) : x.class_ = 0 ∨ x.class_ = 1 ∨ x.class_ = 2 := by
  unfold tokFault at h
  split at h
  · rename_i h1
    have := inB_true.1 h1
    omega
  · simp at h
set_option maxHeartbeats 8000000 in
theorem MeterKeyed_any (me rev cr hh : Int) (bb : Nat) (bad lk : Int) (v : Value) (ps : List APair) (c ti n tag : Int) (w : World) (h : Sl w v 4 ps.length (ps.flatMap APair.cells)) (hb : bb < 18446744073709551616) :
    Calls Tryz.prog 18 #[(MM.mk me rev cr hh bb bad lk).v, .agg #[v], .agg #[I c, I ti, I n, I tag]] w (Grew (T3 (keyM ⟨me, rev, cr, hh, bb, bad, lk⟩ ps ⟨c, ti, n, tag⟩).v (I (keyA ⟨me, rev, cr, hh, bb, bad, lk⟩ ps ⟨c, ti, n, tag⟩)) (I (keyE ⟨me, rev, cr, hh, bb, bad, lk⟩ ps ⟨c, ti, n, tag⟩))) w) := by
  have M := Lib.hid (fun W => MeterMay_any me rev cr hh bb bad lk W hb)
  have O := Lib.hid (fun u W hW => OracleMay_any u ps W hW)
  have B := Lib.hid (fun W => BodyOf_any ⟨c, ti, n, tag⟩ W)
  have S := Lib.hid (fun u w h => sellKey_any me rev cr hh bb bad lk u ps (bodyV ⟨c, ti, n, tag⟩) tag w h)
  have T := Lib.hid (fun w => TakenBy_any hh bb ti w hb)
  have Off := Lib.hid (fun hh2 => keyOff (m := ⟨me, rev, cr, hh, bb, bad, lk⟩) (ps := ps) (t := ⟨c, ti, n, tag⟩) hh2)
  have No := Lib.hid (fun hh2 hg => keyNo (m := ⟨me, rev, cr, hh, bb, bad, lk⟩) (ps := ps) (t := ⟨c, ti, n, tag⟩) hh2 hg)
  have Sd := Lib.hid (fun hh2 hg hk => keySold (m := ⟨me, rev, cr, hh, bb, bad, lk⟩) (ps := ps) (t := ⟨c, ti, n, tag⟩) hh2 hg hk)
  have Tk := Lib.hid (fun hh2 hg hk => keyTake (m := ⟨me, rev, cr, hh, bb, bad, lk⟩) (ps := ps) (t := ⟨c, ti, n, tag⟩) hh2 hg hk)
  cases hm : mayM me rev cr hh bb bad lk
  · obtain ⟨e1, e2, e3⟩ := Off.out (by simp [keyOk, MM.ok, hm])
    rw [e1, e2, e3]
    rw [hm] at M
    clear e1 e2 e3 hm 
    obtain ⟨a, cap, rfl, -⟩ := id h
    have kb := boxed_below w (.cells #[I me, I rev, I cr, I hh, .int .u64 bb, I bad, I lk] 40)
    have kb := kb.alloc kb.size (.cells #[.slice a ps.length cap] 25)
    have kb := kb.alloc kb.size (.cells #[I c, I ti, I n, I tag] 44)
    have kb := kb.alloc kb.size (.cells #[I 0, I 0, I 0, I 0, .int .u64 0, I 0, I 0] 40)
    have om := (((Own.new (w := w) rfl [I me, I rev, I cr, I hh, .int .u64 bb, I bad, I lk] 40).alloc (.cells #[.slice a ps.length cap] 25)).alloc (.cells #[I c, I ti, I n, I tag] 44)).alloc (.cells #[I 0, I 0, I 0, I 0, .int .u64 0, I 0, I 0] 40)
    have oo := ((Own.new (w := w.alloc (.cells #[I me, I rev, I cr, I hh, .int .u64 bb, I bad, I lk] 40)) (g := w.heap.size + 1) (by simp) [.slice a ps.length cap] 25).alloc (.cells #[I c, I ti, I n, I tag] 44)).alloc (.cells #[I 0, I 0, I 0, I 0, .int .u64 0, I 0, I 0] 40)
    have ot := (Own.new (w := (w.alloc (.cells #[I me, I rev, I cr, I hh, .int .u64 bb, I bad, I lk] 40)).alloc (.cells #[.slice a ps.length cap] 25)) (g := w.heap.size + 2) (by simp) [I c, I ti, I n, I tag] 44).alloc (.cells #[I 0, I 0, I 0, I 0, .int .u64 0, I 0, I 0] 40)
    have oz := Own.new (w := ((w.alloc (.cells #[I me, I rev, I cr, I hh, .int .u64 bb, I bad, I lk] 40)).alloc (.cells #[.slice a ps.length cap] 25)).alloc (.cells #[I c, I ti, I n, I tag] 44)) (g := w.heap.size + 3) (by simp) [I 0, I 0, I 0, I 0, .int .u64 0, I 0, I 0] 40
    have hz4 : w.heap.size + 4 ≤ ((((w.alloc (.cells #[I me, I rev, I cr, I hh, .int .u64 bb, I bad, I lk] 40)).alloc (.cells #[.slice a ps.length cap] 25)).alloc (.cells #[I c, I ti, I n, I tag] 44)).alloc (.cells #[I 0, I 0, I 0, I 0, .int .u64 0, I 0, I 0] 40)).heap.size := by simp
    go_enter Tryz.func18, Tryz.ntmps18
    go_wp2_with fail
    refine (M.out _).mono ?_
    rintro e w1 ⟨rfl, k1⟩
    have kb := kb.trans (k1.mono kb.size)
    have om := om.below k1
    have oo := oo.below k1
    have ot := ot.below k1
    have oz := oz.below k1
    have hz4 := Nat.le_trans hz4 k1.size
    clear k1
    have cO := om
    have c0 := cO.cell 0 (by simp)
    have cf0 := cO.frozen 0
    have c1 := cO.cell 1 (by simp)
    have cf1 := cO.frozen 1
    have c2 := cO.cell 2 (by simp)
    have cf2 := cO.frozen 2
    have c3 := cO.cell 3 (by simp)
    have cf3 := cO.frozen 3
    have c4 := cO.cell 4 (by simp)
    have cf4 := cO.frozen 4
    have c5 := cO.cell 5 (by simp)
    have cf5 := cO.frozen 5
    have c6 := cO.cell 6 (by simp)
    have cf6 := cO.frozen 6
    simp only [Nat.zero_add, List.getD_cons_zero, List.getD_cons_succ] at c0 c1 c2 c3 c4 c5 c6
    clear cO
    have tO := ot
    have t0 := tO.cell 0 (by simp)
    have tf0 := tO.frozen 0
    have t1 := tO.cell 1 (by simp)
    have tf1 := tO.frozen 1
    have t2 := tO.cell 2 (by simp)
    have tf2 := tO.frozen 2
    have t3 := tO.cell 3 (by simp)
    have tf3 := tO.frozen 3
    simp only [Nat.zero_add, List.getD_cons_zero, List.getD_cons_succ] at t0 t1 t2 t3
    clear tO
    have zO := oz
    have z0 := zO.cell 0 (by simp)
    have zf0 := zO.frozen 0
    have z1 := zO.cell 1 (by simp)
    have zf1 := zO.frozen 1
    have z2 := zO.cell 2 (by simp)
    have zf2 := zO.frozen 2
    have z3 := zO.cell 3 (by simp)
    have zf3 := zO.frozen 3
    have z4 := zO.cell 4 (by simp)
    have zf4 := zO.frozen 4
    have z5 := zO.cell 5 (by simp)
    have zf5 := zO.frozen 5
    have z6 := zO.cell 6 (by simp)
    have zf6 := zO.frozen 6
    simp only [Nat.zero_add, List.getD_cons_zero, List.getD_cons_succ] at z0 z1 z2 z3 z4 z5 z6
    clear zO
    have r1 := set_same
    have r2 := set_off
    have r3 := set_blk
    clear om oo ot oz h
    go_wp2
    exact bodyPost_ret (v := T3 (MM.mk 0 0 0 0 0 0 0).v (I 0) (I 5)) (by simp [results, Tryz.results18, go_sem, *]; try omega) rfl (Grew.intro rfl (by repeat first | with_reducible assumption | with_reducible exact Below.refl _ _ | with_reducible refine Below.setCell ?_ (by first | exact Nat.le_refl _ | exact Below.size (by assumption) | (simp; done) | (simp; omega) | omega) _ | with_reducible refine Below.alloc ?_ (by first | exact Nat.le_refl _ | exact Below.size (by assumption) | (simp; done) | (simp; omega) | omega) _ | with_reducible refine drewN_below ?_ _ | with_reducible refine Below.drew ?_))
  · obtain ⟨⟨a1, a2, a3, a4, a5, a6, a7, a8, -⟩, -⟩ := mayM_true.1 hm
    rw [hm] at M
    cases hmo : mayO ps
    · obtain ⟨e1, e2, e3⟩ := Off.out (by simp [keyOk, hmo])
      rw [e1, e2, e3]
      rw [hmo] at O
      clear e1 e2 e3 hm hmo  a1 a2 a3 a4 a5 a6 a7 a8
      obtain ⟨a, cap, rfl, -⟩ := id h
      have kb := boxed_below w (.cells #[I me, I rev, I cr, I hh, .int .u64 bb, I bad, I lk] 40)
      have kb := kb.alloc kb.size (.cells #[.slice a ps.length cap] 25)
      have kb := kb.alloc kb.size (.cells #[I c, I ti, I n, I tag] 44)
      have kb := kb.alloc kb.size (.cells #[I 0, I 0, I 0, I 0, .int .u64 0, I 0, I 0] 40)
      have om := (((Own.new (w := w) rfl [I me, I rev, I cr, I hh, .int .u64 bb, I bad, I lk] 40).alloc (.cells #[.slice a ps.length cap] 25)).alloc (.cells #[I c, I ti, I n, I tag] 44)).alloc (.cells #[I 0, I 0, I 0, I 0, .int .u64 0, I 0, I 0] 40)
      have oo := ((Own.new (w := w.alloc (.cells #[I me, I rev, I cr, I hh, .int .u64 bb, I bad, I lk] 40)) (g := w.heap.size + 1) (by simp) [.slice a ps.length cap] 25).alloc (.cells #[I c, I ti, I n, I tag] 44)).alloc (.cells #[I 0, I 0, I 0, I 0, .int .u64 0, I 0, I 0] 40)
      have ot := (Own.new (w := (w.alloc (.cells #[I me, I rev, I cr, I hh, .int .u64 bb, I bad, I lk] 40)).alloc (.cells #[.slice a ps.length cap] 25)) (g := w.heap.size + 2) (by simp) [I c, I ti, I n, I tag] 44).alloc (.cells #[I 0, I 0, I 0, I 0, .int .u64 0, I 0, I 0] 40)
      have oz := Own.new (w := ((w.alloc (.cells #[I me, I rev, I cr, I hh, .int .u64 bb, I bad, I lk] 40)).alloc (.cells #[.slice a ps.length cap] 25)).alloc (.cells #[I c, I ti, I n, I tag] 44)) (g := w.heap.size + 3) (by simp) [I 0, I 0, I 0, I 0, .int .u64 0, I 0, I 0] 40
      have hz4 : w.heap.size + 4 ≤ ((((w.alloc (.cells #[I me, I rev, I cr, I hh, .int .u64 bb, I bad, I lk] 40)).alloc (.cells #[.slice a ps.length cap] 25)).alloc (.cells #[I c, I ti, I n, I tag] 44)).alloc (.cells #[I 0, I 0, I 0, I 0, .int .u64 0, I 0, I 0] 40)).heap.size := by simp
      go_enter Tryz.func18, Tryz.ntmps18
      go_wp2_with fail
      refine (M.out _).mono ?_
      rintro e w1 ⟨rfl, k1⟩
      have kb := kb.trans (k1.mono kb.size)
      have om := om.below k1
      have oo := oo.below k1
      have ot := ot.below k1
      have oz := oz.below k1
      have hz4 := Nat.le_trans hz4 k1.size
      clear k1
      have oO := oo
      have o0 := oO.cell 0 (by simp)
      have of0 := oO.frozen 0
      simp only [Nat.zero_add, List.getD_cons_zero] at o0
      clear oO
      go_wp2_with fail
      refine (O.out _ _ (h.below kb)).mono ?_
      rintro e w2 ⟨rfl, k1⟩
      clear o0 of0
      have kb := kb.trans (k1.mono kb.size)
      have om := om.below k1
      have oo := oo.below k1
      have ot := ot.below k1
      have oz := oz.below k1
      have hz4 := Nat.le_trans hz4 k1.size
      clear k1
      have cO := om
      have c0 := cO.cell 0 (by simp)
      have cf0 := cO.frozen 0
      have c1 := cO.cell 1 (by simp)
      have cf1 := cO.frozen 1
      have c2 := cO.cell 2 (by simp)
      have cf2 := cO.frozen 2
      have c3 := cO.cell 3 (by simp)
      have cf3 := cO.frozen 3
      have c4 := cO.cell 4 (by simp)
      have cf4 := cO.frozen 4
      have c5 := cO.cell 5 (by simp)
      have cf5 := cO.frozen 5
      have c6 := cO.cell 6 (by simp)
      have cf6 := cO.frozen 6
      simp only [Nat.zero_add, List.getD_cons_zero, List.getD_cons_succ] at c0 c1 c2 c3 c4 c5 c6
      clear cO
      have tO := ot
      have t0 := tO.cell 0 (by simp)
      have tf0 := tO.frozen 0
      have t1 := tO.cell 1 (by simp)
      have tf1 := tO.frozen 1
      have t2 := tO.cell 2 (by simp)
      have tf2 := tO.frozen 2
      have t3 := tO.cell 3 (by simp)
      have tf3 := tO.frozen 3
      simp only [Nat.zero_add, List.getD_cons_zero, List.getD_cons_succ] at t0 t1 t2 t3
      clear tO
      have zO := oz
      have z0 := zO.cell 0 (by simp)
      have zf0 := zO.frozen 0
      have z1 := zO.cell 1 (by simp)
      have zf1 := zO.frozen 1
      have z2 := zO.cell 2 (by simp)
      have zf2 := zO.frozen 2
      have z3 := zO.cell 3 (by simp)
      have zf3 := zO.frozen 3
      have z4 := zO.cell 4 (by simp)
      have zf4 := zO.frozen 4
      have z5 := zO.cell 5 (by simp)
      have zf5 := zO.frozen 5
      have z6 := zO.cell 6 (by simp)
      have zf6 := zO.frozen 6
      simp only [Nat.zero_add, List.getD_cons_zero, List.getD_cons_succ] at z0 z1 z2 z3 z4 z5 z6
      clear zO
      have r1 := set_same
      have r2 := set_off
      have r3 := set_blk
      clear om oo ot oz h
      go_wp2
      exact bodyPost_ret (v := T3 (MM.mk 0 0 0 0 0 0 0).v (I 0) (I 5)) (by simp [results, Tryz.results18, go_sem, *]; try omega) rfl (Grew.intro rfl (by repeat first | with_reducible assumption | with_reducible exact Below.refl _ _ | with_reducible refine Below.setCell ?_ (by first | exact Nat.le_refl _ | exact Below.size (by assumption) | (simp; done) | (simp; omega) | omega) _ | with_reducible refine Below.alloc ?_ (by first | exact Nat.le_refl _ | exact Below.size (by assumption) | (simp; done) | (simp; omega) | omega) _ | with_reducible refine drewN_below ?_ _ | with_reducible refine Below.drew ?_))
    · have hko : keyOk ⟨me, rev, cr, hh, bb, bad, lk⟩ ps = true := by simp [keyOk, MM.ok, hm, hmo]
      have hMo := Lib.hid hmo
      rw [hmo] at O
      clear Off hm hmo
      obtain ⟨a, cap, rfl, -⟩ := id h
      have kb := boxed_below w (.cells #[I me, I rev, I cr, I hh, .int .u64 bb, I bad, I lk] 40)
      have kb := kb.alloc kb.size (.cells #[.slice a ps.length cap] 25)
      have kb := kb.alloc kb.size (.cells #[I c, I ti, I n, I tag] 44)
      have kb := kb.alloc kb.size (.cells #[I 0, I 0, I 0, I 0, .int .u64 0, I 0, I 0] 40)
      have om := (((Own.new (w := w) rfl [I me, I rev, I cr, I hh, .int .u64 bb, I bad, I lk] 40).alloc (.cells #[.slice a ps.length cap] 25)).alloc (.cells #[I c, I ti, I n, I tag] 44)).alloc (.cells #[I 0, I 0, I 0, I 0, .int .u64 0, I 0, I 0] 40)
      have oo := ((Own.new (w := w.alloc (.cells #[I me, I rev, I cr, I hh, .int .u64 bb, I bad, I lk] 40)) (g := w.heap.size + 1) (by simp) [.slice a ps.length cap] 25).alloc (.cells #[I c, I ti, I n, I tag] 44)).alloc (.cells #[I 0, I 0, I 0, I 0, .int .u64 0, I 0, I 0] 40)
      have ot := (Own.new (w := (w.alloc (.cells #[I me, I rev, I cr, I hh, .int .u64 bb, I bad, I lk] 40)).alloc (.cells #[.slice a ps.length cap] 25)) (g := w.heap.size + 2) (by simp) [I c, I ti, I n, I tag] 44).alloc (.cells #[I 0, I 0, I 0, I 0, .int .u64 0, I 0, I 0] 40)
      have oz := Own.new (w := ((w.alloc (.cells #[I me, I rev, I cr, I hh, .int .u64 bb, I bad, I lk] 40)).alloc (.cells #[.slice a ps.length cap] 25)).alloc (.cells #[I c, I ti, I n, I tag] 44)) (g := w.heap.size + 3) (by simp) [I 0, I 0, I 0, I 0, .int .u64 0, I 0, I 0] 40
      have hz4 : w.heap.size + 4 ≤ ((((w.alloc (.cells #[I me, I rev, I cr, I hh, .int .u64 bb, I bad, I lk] 40)).alloc (.cells #[.slice a ps.length cap] 25)).alloc (.cells #[I c, I ti, I n, I tag] 44)).alloc (.cells #[I 0, I 0, I 0, I 0, .int .u64 0, I 0, I 0] 40)).heap.size := by simp
      by_cases hf : tokFault ⟨c, ti, n, tag⟩ = 0
      · have hb0 := Lib.hid (tok_bounds hf)
        rw [hf] at B
        by_cases hl : 0 < lk
        · have hg : keyGo ⟨me, rev, cr, hh, bb, bad, lk⟩ ⟨c, ti, n, tag⟩ = false := by simp [keyGo, hl]
          obtain ⟨e2, e3⟩ := No.out hko hg
          rw [e2, e3, show keyE ⟨me, rev, cr, hh, bb, bad, lk⟩ ps ⟨c, ti, n, tag⟩ = 10 by simp [keyE, hko, hf, hl]]
          clear e2 e3 hko hf hg
          go_enter Tryz.func18, Tryz.ntmps18
          go_wp2_with fail
          refine (M.out _).mono ?_
          rintro e w1 ⟨rfl, k1⟩
          have kb := kb.trans (k1.mono kb.size)
          have om := om.below k1
          have oo := oo.below k1
          have ot := ot.below k1
          have oz := oz.below k1
          have hz4 := Nat.le_trans hz4 k1.size
          clear k1
          have oO := oo
          have o0 := oO.cell 0 (by simp)
          have of0 := oO.frozen 0
          simp only [Nat.zero_add, List.getD_cons_zero] at o0
          clear oO
          go_wp2_with fail
          refine (O.out _ _ (h.below kb)).mono ?_
          rintro e w2 ⟨rfl, k1⟩
          clear o0 of0
          have kb := kb.trans (k1.mono kb.size)
          have om := om.below k1
          have oo := oo.below k1
          have ot := ot.below k1
          have oz := oz.below k1
          have hz4 := Nat.le_trans hz4 k1.size
          clear k1
          have tO := ot
          have t0 := tO.cell 0 (by simp)
          have tf0 := tO.frozen 0
          have t1 := tO.cell 1 (by simp)
          have tf1 := tO.frozen 1
          have t2 := tO.cell 2 (by simp)
          have tf2 := tO.frozen 2
          have t3 := tO.cell 3 (by simp)
          have tf3 := tO.frozen 3
          simp only [Nat.zero_add, List.getD_cons_zero, List.getD_cons_succ] at t0 t1 t2 t3
          clear tO
          go_wp2_with fail
          refine (B.out _).mono ?_
          rintro e w3 ⟨rfl, k1⟩
          clear t0 t1 t2 t3 tf0 tf1 tf2 tf3 M O B
          have kb := kb.trans (k1.mono kb.size)
          have om := om.below k1
          have oo := oo.below k1
          have ot := ot.below k1
          have oz := oz.below k1
          have hz4 := Nat.le_trans hz4 k1.size
          clear k1
          have cO := om
          have c0 := cO.cell 0 (by simp)
          have cf0 := cO.frozen 0
          have c1 := cO.cell 1 (by simp)
          have cf1 := cO.frozen 1
          have c2 := cO.cell 2 (by simp)
          have cf2 := cO.frozen 2
          have c3 := cO.cell 3 (by simp)
          have cf3 := cO.frozen 3
          have c4 := cO.cell 4 (by simp)
          have cf4 := cO.frozen 4
          have c5 := cO.cell 5 (by simp)
          have cf5 := cO.frozen 5
          have c6 := cO.cell 6 (by simp)
          have cf6 := cO.frozen 6
          simp only [Nat.zero_add, List.getD_cons_zero, List.getD_cons_succ] at c0 c1 c2 c3 c4 c5 c6
          clear cO
          have tO := ot
          have t0 := tO.cell 0 (by simp)
          have tf0 := tO.frozen 0
          have t1 := tO.cell 1 (by simp)
          have tf1 := tO.frozen 1
          have t2 := tO.cell 2 (by simp)
          have tf2 := tO.frozen 2
          have t3 := tO.cell 3 (by simp)
          have tf3 := tO.frozen 3
          simp only [Nat.zero_add, List.getD_cons_zero, List.getD_cons_succ] at t0 t1 t2 t3
          clear tO
          have zO := oz
          have z0 := zO.cell 0 (by simp)
          have zf0 := zO.frozen 0
          have z1 := zO.cell 1 (by simp)
          have zf1 := zO.frozen 1
          have z2 := zO.cell 2 (by simp)
          have zf2 := zO.frozen 2
          have z3 := zO.cell 3 (by simp)
          have zf3 := zO.frozen 3
          have z4 := zO.cell 4 (by simp)
          have zf4 := zO.frozen 4
          have z5 := zO.cell 5 (by simp)
          have zf5 := zO.frozen 5
          have z6 := zO.cell 6 (by simp)
          have zf6 := zO.frozen 6
          simp only [Nat.zero_add, List.getD_cons_zero, List.getD_cons_succ] at z0 z1 z2 z3 z4 z5 z6
          clear zO
          have r1 := set_same
          have r2 := set_off
          have r3 := set_blk
          clear om oo ot oz h
          go_wp2
          exact bodyPost_ret (v := T3 (MM.mk me rev cr hh bb bad lk).v (I 0) (I 10)) (by simp [results, Tryz.results18, go_sem, *]; try omega) rfl (Grew.intro rfl (by repeat first | with_reducible assumption | with_reducible exact Below.refl _ _ | with_reducible refine Below.setCell ?_ (by first | exact Nat.le_refl _ | exact Below.size (by assumption) | (simp; done) | (simp; omega) | omega) _ | with_reducible refine Below.alloc ?_ (by first | exact Nat.le_refl _ | exact Below.size (by assumption) | (simp; done) | (simp; omega) | omega) _ | with_reducible refine drewN_below ?_ _ | with_reducible refine Below.drew ?_))
        · by_cases hc : c = 3
          · subst hc
            have hg : keyGo ⟨me, rev, cr, hh, bb, bad, lk⟩ ⟨3, ti, n, tag⟩ = false := by simp [keyGo]
            obtain ⟨e2, e3⟩ := No.out hko hg
            rw [e2, e3, show keyE ⟨me, rev, cr, hh, bb, bad, lk⟩ ps ⟨3, ti, n, tag⟩ = 0 by simp [keyE, hko, hf, hl]]
            clear e2 e3 hko hf hg
            go_enter Tryz.func18, Tryz.ntmps18
            go_wp2_with fail
            refine (M.out _).mono ?_
            rintro e w1 ⟨rfl, k1⟩
            have kb := kb.trans (k1.mono kb.size)
            have om := om.below k1
            have oo := oo.below k1
            have ot := ot.below k1
            have oz := oz.below k1
            have hz4 := Nat.le_trans hz4 k1.size
            clear k1
            have oO := oo
            have o0 := oO.cell 0 (by simp)
            have of0 := oO.frozen 0
            simp only [Nat.zero_add, List.getD_cons_zero] at o0
            clear oO
            go_wp2_with fail
            refine (O.out _ _ (h.below kb)).mono ?_
            rintro e w2 ⟨rfl, k1⟩
            clear o0 of0
            have kb := kb.trans (k1.mono kb.size)
            have om := om.below k1
            have oo := oo.below k1
            have ot := ot.below k1
            have oz := oz.below k1
            have hz4 := Nat.le_trans hz4 k1.size
            clear k1
            have tO := ot
            have t0 := tO.cell 0 (by simp)
            have tf0 := tO.frozen 0
            have t1 := tO.cell 1 (by simp)
            have tf1 := tO.frozen 1
            have t2 := tO.cell 2 (by simp)
            have tf2 := tO.frozen 2
            have t3 := tO.cell 3 (by simp)
            have tf3 := tO.frozen 3
            simp only [Nat.zero_add, List.getD_cons_zero, List.getD_cons_succ] at t0 t1 t2 t3
            clear tO
            go_wp2_with fail
            refine (B.out _).mono ?_
            rintro e w3 ⟨rfl, k1⟩
            clear t0 t1 t2 t3 tf0 tf1 tf2 tf3 M O B
            have kb := kb.trans (k1.mono kb.size)
            have om := om.below k1
            have oo := oo.below k1
            have ot := ot.below k1
            have oz := oz.below k1
            have hz4 := Nat.le_trans hz4 k1.size
            clear k1
            have cO := om
            have c0 := cO.cell 0 (by simp)
            have cf0 := cO.frozen 0
            have c1 := cO.cell 1 (by simp)
            have cf1 := cO.frozen 1
            have c2 := cO.cell 2 (by simp)
            have cf2 := cO.frozen 2
            have c3 := cO.cell 3 (by simp)
            have cf3 := cO.frozen 3
            have c4 := cO.cell 4 (by simp)
            have cf4 := cO.frozen 4
            have c5 := cO.cell 5 (by simp)
            have cf5 := cO.frozen 5
            have c6 := cO.cell 6 (by simp)
            have cf6 := cO.frozen 6
            simp only [Nat.zero_add, List.getD_cons_zero, List.getD_cons_succ] at c0 c1 c2 c3 c4 c5 c6
            clear cO
            have tO := ot
            have t0 := tO.cell 0 (by simp)
            have tf0 := tO.frozen 0
            have t1 := tO.cell 1 (by simp)
            have tf1 := tO.frozen 1
            have t2 := tO.cell 2 (by simp)
            have tf2 := tO.frozen 2
            have t3 := tO.cell 3 (by simp)
            have tf3 := tO.frozen 3
            simp only [Nat.zero_add, List.getD_cons_zero, List.getD_cons_succ] at t0 t1 t2 t3
            clear tO
            have zO := oz
            have z0 := zO.cell 0 (by simp)
            have zf0 := zO.frozen 0
            have z1 := zO.cell 1 (by simp)
            have zf1 := zO.frozen 1
            have z2 := zO.cell 2 (by simp)
            have zf2 := zO.frozen 2
            have z3 := zO.cell 3 (by simp)
            have zf3 := zO.frozen 3
            have z4 := zO.cell 4 (by simp)
            have zf4 := zO.frozen 4
            have z5 := zO.cell 5 (by simp)
            have zf5 := zO.frozen 5
            have z6 := zO.cell 6 (by simp)
            have zf6 := zO.frozen 6
            simp only [Nat.zero_add, List.getD_cons_zero, List.getD_cons_succ] at z0 z1 z2 z3 z4 z5 z6
            clear zO
            have r1 := set_same
            have r2 := set_off
            have r3 := set_blk
            clear om oo ot oz h
            go_wp2
            exact bodyPost_ret (v := T3 (MM.mk me rev cr hh bb bad lk).v (I 0) (I 0)) (by simp [results, Tryz.results18, go_sem, *]; try omega) rfl (Grew.intro rfl (by repeat first | with_reducible assumption | with_reducible exact Below.refl _ _ | with_reducible refine Below.setCell ?_ (by first | exact Nat.le_refl _ | exact Below.size (by assumption) | (simp; done) | (simp; omega) | omega) _ | with_reducible refine Below.alloc ?_ (by first | exact Nat.le_refl _ | exact Below.size (by assumption) | (simp; done) | (simp; omega) | omega) _ | with_reducible refine drewN_below ?_ _ | with_reducible refine Below.drew ?_))
          · have hg : keyGo ⟨me, rev, cr, hh, bb, bad, lk⟩ ⟨c, ti, n, tag⟩ = true := by simp [keyGo, hf, hl, hc]
            have hcb : (c == 3) = false := by simp [hc]
            have Sd2 := Lib.hid (fun hk => Sd.out hko hg hk)
            have Tk2 := Lib.hid (fun hk => Tk.out hko hg hk)
            have HK := Lib.hid (show keyK ⟨me, rev, cr, hh, bb, bad, lk⟩ ps ⟨c, ti, n, tag⟩ = sellK me rev (bodyV ⟨c, ti, n, tag⟩) tag ps from rfl)
            have hcl : c = 0 ∨ c = 1 ∨ c = 2 := tok_class hf hc
            clear Sd Tk No hko hf hg hc
            go_enter Tryz.func18, Tryz.ntmps18
            go_wp2_with fail
            refine (M.out _).mono ?_
            rintro e w1 ⟨rfl, k1⟩
            have kb := kb.trans (k1.mono kb.size)
            have om := om.below k1
            have oo := oo.below k1
            have ot := ot.below k1
            have oz := oz.below k1
            have hz4 := Nat.le_trans hz4 k1.size
            clear k1
            have oO := oo
            have o0 := oO.cell 0 (by simp)
            have of0 := oO.frozen 0
            simp only [Nat.zero_add, List.getD_cons_zero] at o0
            clear oO
            go_wp2_with fail
            refine (O.out _ _ (h.below kb)).mono ?_
            rintro e w2 ⟨rfl, k1⟩
            clear o0 of0
            have kb := kb.trans (k1.mono kb.size)
            have om := om.below k1
            have oo := oo.below k1
            have ot := ot.below k1
            have oz := oz.below k1
            have hz4 := Nat.le_trans hz4 k1.size
            clear k1
            have tO := ot
            have t0 := tO.cell 0 (by simp)
            have tf0 := tO.frozen 0
            have t1 := tO.cell 1 (by simp)
            have tf1 := tO.frozen 1
            have t2 := tO.cell 2 (by simp)
            have tf2 := tO.frozen 2
            have t3 := tO.cell 3 (by simp)
            have tf3 := tO.frozen 3
            simp only [Nat.zero_add, List.getD_cons_zero, List.getD_cons_succ] at t0 t1 t2 t3
            clear tO
            go_wp2_with fail
            refine (B.out _).mono ?_
            rintro e w3 ⟨rfl, k1⟩
            clear t0 t1 t2 t3 tf0 tf1 tf2 tf3 M O B
            have kb := kb.trans (k1.mono kb.size)
            have om := om.below k1
            have oo := oo.below k1
            have ot := ot.below k1
            have oz := oz.below k1
            have hz4 := Nat.le_trans hz4 k1.size
            clear k1
            have cO := om
            have c0 := cO.cell 0 (by simp)
            have cf0 := cO.frozen 0
            have c1 := cO.cell 1 (by simp)
            have cf1 := cO.frozen 1
            have c2 := cO.cell 2 (by simp)
            have cf2 := cO.frozen 2
            have c3 := cO.cell 3 (by simp)
            have cf3 := cO.frozen 3
            have c4 := cO.cell 4 (by simp)
            have cf4 := cO.frozen 4
            have c5 := cO.cell 5 (by simp)
            have cf5 := cO.frozen 5
            have c6 := cO.cell 6 (by simp)
            have cf6 := cO.frozen 6
            simp only [Nat.zero_add, List.getD_cons_zero, List.getD_cons_succ] at c0 c1 c2 c3 c4 c5 c6
            clear cO
            have oO := oo
            have o0 := oO.cell 0 (by simp)
            have of0 := oO.frozen 0
            simp only [Nat.zero_add, List.getD_cons_zero] at o0
            clear oO
            have tO := ot
            have t0 := tO.cell 0 (by simp)
            have tf0 := tO.frozen 0
            have t1 := tO.cell 1 (by simp)
            have tf1 := tO.frozen 1
            have t2 := tO.cell 2 (by simp)
            have tf2 := tO.frozen 2
            have t3 := tO.cell 3 (by simp)
            have tf3 := tO.frozen 3
            simp only [Nat.zero_add, List.getD_cons_zero, List.getD_cons_succ] at t0 t1 t2 t3
            clear tO
            rcases sellK_cases me rev (bodyV ⟨c, ti, n, tag⟩) tag ps with hk | hk | hk
            · have HK2 := HK.out.trans hk
              obtain ⟨e1, e2, e3⟩ := Tk2.out HK2
              rw [hk] at S
              have HE := Lib.hid (show takeE ⟨me, rev, cr, hh, bb, bad, lk⟩ c ti n = if judgeE hh bb ti = 0 then actE ⟨me, rev, cr, hh, bb, bad, lk⟩ c n else judgeE hh bb ti from rfl)
              have HM := Lib.hid (show takeM ⟨me, rev, cr, hh, bb, bad, lk⟩ c ti n = if takeE ⟨me, rev, cr, hh, bb, bad, lk⟩ c ti n = 0 then { actM ⟨me, rev, cr, hh, bb, bad, lk⟩ c n with h := tkH hh bb ti, b := tkB hh bb ti, bad := 0 } else ⟨me, rev, cr, hh, bb, bad, lk⟩ from rfl)
              have HA := Lib.hid (show takeA ⟨me, rev, cr, hh, bb, bad, lk⟩ 0 c ti n = if takeE ⟨me, rev, cr, hh, bb, bad, lk⟩ c ti n = 0 then actA 0 c n else 0 from rfl)
              have HQ := Lib.hid (And.intro e1 (And.intro e2 e3))
              clear hk HK HK2 Tk2 Sd2 e1 e2 e3
              go_wp2_with fail
              refine (S.out _ _ (h.below kb)).mono ?_
              rintro e w4 ⟨rfl, k1⟩
              clear o0 of0 S
              clear c0 c1 c2 c3 c4 c5 c6 cf0 cf1 cf2 cf3 cf4 cf5 cf6 t0 t1 t2 t3 tf0 tf1 tf2 tf3
              have kb := kb.trans (k1.mono kb.size)
              have om := om.below k1
              have oo := oo.below k1
              have ot := ot.below k1
              have oz := oz.below k1
              have hz4 := Nat.le_trans hz4 k1.size
              clear k1
              have ko := boxed_below w4 (.cells #[I me, I rev, I cr, I hh, .int .u64 bb, I bad, I lk] 40)
              have ou := Own.new (w := w4) rfl [I me, I rev, I cr, I hh, .int .u64 bb, I bad, I lk] 40
              have cO := om
              have c0 := cO.cell 0 (by simp)
              have cf0 := cO.frozen 0
              have c1 := cO.cell 1 (by simp)
              have cf1 := cO.frozen 1
              have c2 := cO.cell 2 (by simp)
              have cf2 := cO.frozen 2
              have c3 := cO.cell 3 (by simp)
              have cf3 := cO.frozen 3
              have c4 := cO.cell 4 (by simp)
              have cf4 := cO.frozen 4
              have c5 := cO.cell 5 (by simp)
              have cf5 := cO.frozen 5
              have c6 := cO.cell 6 (by simp)
              have cf6 := cO.frozen 6
              simp only [Nat.zero_add, List.getD_cons_zero, List.getD_cons_succ] at c0 c1 c2 c3 c4 c5 c6
              clear cO
              have ot2 := ot.below ko
              have om2 := om.below ko
              have tO := ot2
              have t0 := tO.cell 0 (by simp)
              have tf0 := tO.frozen 0
              have t1 := tO.cell 1 (by simp)
              have tf1 := tO.frozen 1
              have t2 := tO.cell 2 (by simp)
              have tf2 := tO.frozen 2
              have t3 := tO.cell 3 (by simp)
              have tf3 := tO.frozen 3
              simp only [Nat.zero_add, List.getD_cons_zero, List.getD_cons_succ] at t0 t1 t2 t3
              clear tO
              have qO := om2
              have q0 := qO.cell 0 (by simp)
              have qf0 := qO.frozen 0
              have q1 := qO.cell 1 (by simp)
              have qf1 := qO.frozen 1
              have q2 := qO.cell 2 (by simp)
              have qf2 := qO.frozen 2
              have q3 := qO.cell 3 (by simp)
              have qf3 := qO.frozen 3
              have q4 := qO.cell 4 (by simp)
              have qf4 := qO.frozen 4
              have q5 := qO.cell 5 (by simp)
              have qf5 := qO.frozen 5
              have q6 := qO.cell 6 (by simp)
              have qf6 := qO.frozen 6
              simp only [Nat.zero_add, List.getD_cons_zero, List.getD_cons_succ] at q0 q1 q2 q3 q4 q5 q6
              clear qO
              have kb5 := kb.trans (ko.mono kb.size)
              go_wp2_with fail
              refine (T.out _).mono ?_
              rintro e w5 ⟨rfl, k1⟩
              clear c0 c1 c2 c3 c4 c5 c6 cf0 cf1 cf2 cf3 cf4 cf5 cf6 q0 q1 q2 q3 q4 q5 q6 qf0 qf1 qf2 qf3 qf4 qf5 qf6 t0 t1 t2 t3 tf0 tf1 tf2 tf3
              have kb6 := kb5.trans (k1.mono kb5.size)
              have h45 : w4.heap.size + 1 ≤ w5.heap.size := by have := k1.size; simp at this; omega
              obtain ⟨u0, u1⟩ := hb0.out
              generalize judgeE hh bb ti = E at *
              generalize tkH hh bb ti = H2 at *
              generalize tkB hh bb ti = B2 at *
              have kw := boxed_below w5 (.cells #[I H2, .int .u64 B2] 38)
              have kb7 := kb6.trans (kw.mono kb6.size)
              have uO := (ou.below k1).below kw
              have u0 := uO.cell 0 (by simp)
              have uf0 := uO.frozen 0
              have u1 := uO.cell 1 (by simp)
              have uf1 := uO.frozen 1
              have u2 := uO.cell 2 (by simp)
              have uf2 := uO.frozen 2
              have u3 := uO.cell 3 (by simp)
              have uf3 := uO.frozen 3
              have u4 := uO.cell 4 (by simp)
              have uf4 := uO.frozen 4
              have u5 := uO.cell 5 (by simp)
              have uf5 := uO.frozen 5
              have u6 := uO.cell 6 (by simp)
              have uf6 := uO.frozen 6
              simp only [Nat.zero_add, List.getD_cons_zero, List.getD_cons_succ] at u0 u1 u2 u3 u4 u5 u6
              clear uO
              have cO := ((om.below ko).below k1).below kw
              have c0 := cO.cell 0 (by simp)
              have cf0 := cO.frozen 0
              have c1 := cO.cell 1 (by simp)
              have cf1 := cO.frozen 1
              have c2 := cO.cell 2 (by simp)
              have cf2 := cO.frozen 2
              have c3 := cO.cell 3 (by simp)
              have cf3 := cO.frozen 3
              have c4 := cO.cell 4 (by simp)
              have cf4 := cO.frozen 4
              have c5 := cO.cell 5 (by simp)
              have cf5 := cO.frozen 5
              have c6 := cO.cell 6 (by simp)
              have cf6 := cO.frozen 6
              simp only [Nat.zero_add, List.getD_cons_zero, List.getD_cons_succ] at c0 c1 c2 c3 c4 c5 c6
              clear cO
              have tO := ((ot.below ko).below k1).below kw
              have t0 := tO.cell 0 (by simp)
              have tf0 := tO.frozen 0
              have t1 := tO.cell 1 (by simp)
              have tf1 := tO.frozen 1
              have t2 := tO.cell 2 (by simp)
              have tf2 := tO.frozen 2
              have t3 := tO.cell 3 (by simp)
              have tf3 := tO.frozen 3
              simp only [Nat.zero_add, List.getD_cons_zero, List.getD_cons_succ] at t0 t1 t2 t3
              clear tO
              have zO := ((oz.below ko).below k1).below kw
              have z0 := zO.cell 0 (by simp)
              have zf0 := zO.frozen 0
              have z1 := zO.cell 1 (by simp)
              have zf1 := zO.frozen 1
              have z2 := zO.cell 2 (by simp)
              have zf2 := zO.frozen 2
              have z3 := zO.cell 3 (by simp)
              have zf3 := zO.frozen 3
              have z4 := zO.cell 4 (by simp)
              have zf4 := zO.frozen 4
              have z5 := zO.cell 5 (by simp)
              have zf5 := zO.frozen 5
              have z6 := zO.cell 6 (by simp)
              have zf6 := zO.frozen 6
              simp only [Nat.zero_add, List.getD_cons_zero, List.getD_cons_succ] at z0 z1 z2 z3 z4 z5 z6
              clear zO
              have n8 : ¬ w.heap.size + 3 = w5.heap.size := by omega
              have n9 : ¬ w5.heap.size = w.heap.size + 3 := by omega
              have n10 : ¬ w4.heap.size = w5.heap.size := by omega
              have n11 : ¬ w5.heap.size = w4.heap.size := by omega
              clear om ot oz oo ou ko k1 T ot2 om2
              by_cases hE : E = 0
              · subst hE
                have HE2 := HE.out.trans (if_pos rfl)
                rcases hcl with rfl | rfl | rfl
                · have hE3 : takeE ⟨me, rev, cr, hh, bb, bad, lk⟩ 0 ti n = if 99999999 < cr + n then 15 else 0 := HE2
                  by_cases hr : 99999999 < cr + n
                  · rw [if_pos hr] at hE3
                    obtain ⟨e1, e2, e3⟩ := HQ.out
                    have HR := Lib.hid (show T3 (MM.mk me rev cr hh bb bad lk).v (I (0)) (I (15)) = T3 (keyM ⟨me, rev, cr, hh, bb, bad, lk⟩ ps ⟨0, ti, n, tag⟩).v (I (keyA ⟨me, rev, cr, hh, bb, bad, lk⟩ ps ⟨0, ti, n, tag⟩)) (I (keyE ⟨me, rev, cr, hh, bb, bad, lk⟩ ps ⟨0, ti, n, tag⟩)) by rw [e1, e2, e3, HM.out, HA.out, hE3]; rfl)
                    clear HE HE2 hE3 HM HA HQ e1 e2 e3
                    have r1 := set_same
                    have r2 := set_off
                    have r3 := set_blk
                    have n1 : ¬ w.heap.size + 3 = w4.heap.size := by omega
                    have n2 : ¬ w4.heap.size = w.heap.size + 3 := by omega
                    have n4 : ¬ w.heap.size = w4.heap.size := by omega
                    have n5 : ¬ w4.heap.size = w.heap.size := by omega
                    have n6 : ¬ w.heap.size + 2 = w4.heap.size := by omega
                    have n7 : ¬ w4.heap.size = w.heap.size + 2 := by omega
                    clear h
                    go_wp2
                    exact bodyPost_ret (v := T3 (MM.mk me rev cr hh bb bad lk).v (I 0) (I 15)) (by simp [results, Tryz.results18, go_sem, *]; try omega) rfl (Grew.intro HR.out (by repeat first | with_reducible assumption | with_reducible exact Below.refl _ _ | with_reducible refine Below.setCell ?_ (by first | exact Nat.le_refl _ | exact Below.size (by assumption) | (simp; done) | (simp; omega) | omega) _ | with_reducible refine Below.alloc ?_ (by first | exact Nat.le_refl _ | exact Below.size (by assumption) | (simp; done) | (simp; omega) | omega) _ | with_reducible refine drewN_below ?_ _ | with_reducible refine Below.drew ?_))
                  · rw [if_neg hr] at hE3
                    obtain ⟨e1, e2, e3⟩ := HQ.out
                    have HR := Lib.hid (show T3 (MM.mk me rev (cr + n) H2 B2 0 lk).v (I (n)) (I (0)) = T3 (keyM ⟨me, rev, cr, hh, bb, bad, lk⟩ ps ⟨0, ti, n, tag⟩).v (I (keyA ⟨me, rev, cr, hh, bb, bad, lk⟩ ps ⟨0, ti, n, tag⟩)) (I (keyE ⟨me, rev, cr, hh, bb, bad, lk⟩ ps ⟨0, ti, n, tag⟩)) by rw [e1, e2, e3, HM.out, HA.out, hE3]; rfl)
                    clear HE HE2 hE3 HM HA HQ e1 e2 e3
                    have r1 := set_same
                    have r2 := set_off
                    have r3 := set_blk
                    have n1 : ¬ w.heap.size + 3 = w4.heap.size := by omega
                    have n2 : ¬ w4.heap.size = w.heap.size + 3 := by omega
                    have n4 : ¬ w.heap.size = w4.heap.size := by omega
                    have n5 : ¬ w4.heap.size = w.heap.size := by omega
                    have n6 : ¬ w.heap.size + 2 = w4.heap.size := by omega
                    have n7 : ¬ w4.heap.size = w.heap.size + 2 := by omega
                    clear h
                    go_wp2
                    exact bodyPost_ret (v := T3 (MM.mk me rev (cr + n) H2 B2 0 lk).v (I n) (I 0)) (by simp [results, Tryz.results18, go_sem, *]; try omega) rfl (Grew.intro HR.out (by repeat first | with_reducible assumption | with_reducible exact Below.refl _ _ | with_reducible refine Below.setCell ?_ (by first | exact Nat.le_refl _ | exact Below.size (by assumption) | (simp; done) | (simp; omega) | omega) _ | with_reducible refine Below.alloc ?_ (by first | exact Nat.le_refl _ | exact Below.size (by assumption) | (simp; done) | (simp; omega) | omega) _ | with_reducible refine drewN_below ?_ _ | with_reducible refine Below.drew ?_))
                · have hE3 : takeE ⟨me, rev, cr, hh, bb, bad, lk⟩ 1 ti n = 0 := HE2
                  obtain ⟨e1, e2, e3⟩ := HQ.out
                  have HR := Lib.hid (show T3 (MM.mk me rev 0 H2 B2 0 lk).v (I (0)) (I (0)) = T3 (keyM ⟨me, rev, cr, hh, bb, bad, lk⟩ ps ⟨1, ti, n, tag⟩).v (I (keyA ⟨me, rev, cr, hh, bb, bad, lk⟩ ps ⟨1, ti, n, tag⟩)) (I (keyE ⟨me, rev, cr, hh, bb, bad, lk⟩ ps ⟨1, ti, n, tag⟩)) by rw [e1, e2, e3, HM.out, HA.out, hE3]; rfl)
                  clear HE HE2 hE3 HM HA HQ e1 e2 e3
                  have r1 := set_same
                  have r2 := set_off
                  have r3 := set_blk
                  have n1 : ¬ w.heap.size + 3 = w4.heap.size := by omega
                  have n2 : ¬ w4.heap.size = w.heap.size + 3 := by omega
                  have n4 : ¬ w.heap.size = w4.heap.size := by omega
                  have n5 : ¬ w4.heap.size = w.heap.size := by omega
                  have n6 : ¬ w.heap.size + 2 = w4.heap.size := by omega
                  have n7 : ¬ w4.heap.size = w.heap.size + 2 := by omega
                  clear h
                  go_wp2
                  exact bodyPost_ret (v := T3 (MM.mk me rev 0 H2 B2 0 lk).v (I 0) (I 0)) (by simp [results, Tryz.results18, go_sem, *]; try omega) rfl (Grew.intro HR.out (by repeat first | with_reducible assumption | with_reducible exact Below.refl _ _ | with_reducible refine Below.setCell ?_ (by first | exact Nat.le_refl _ | exact Below.size (by assumption) | (simp; done) | (simp; omega) | omega) _ | with_reducible refine Below.alloc ?_ (by first | exact Nat.le_refl _ | exact Below.size (by assumption) | (simp; done) | (simp; omega) | omega) _ | with_reducible refine drewN_below ?_ _ | with_reducible refine Below.drew ?_))
                · have hE3 : takeE ⟨me, rev, cr, hh, bb, bad, lk⟩ 2 ti n = if n ≤ rev then 24 else 0 := HE2
                  by_cases hr : n ≤ rev
                  · rw [if_pos hr] at hE3
                    obtain ⟨e1, e2, e3⟩ := HQ.out
                    have HR := Lib.hid (show T3 (MM.mk me rev cr hh bb bad lk).v (I (0)) (I (24)) = T3 (keyM ⟨me, rev, cr, hh, bb, bad, lk⟩ ps ⟨2, ti, n, tag⟩).v (I (keyA ⟨me, rev, cr, hh, bb, bad, lk⟩ ps ⟨2, ti, n, tag⟩)) (I (keyE ⟨me, rev, cr, hh, bb, bad, lk⟩ ps ⟨2, ti, n, tag⟩)) by rw [e1, e2, e3, HM.out, HA.out, hE3]; rfl)
                    clear HE HE2 hE3 HM HA HQ e1 e2 e3
                    have r1 := set_same
                    have r2 := set_off
                    have r3 := set_blk
                    have n1 : ¬ w.heap.size + 3 = w4.heap.size := by omega
                    have n2 : ¬ w4.heap.size = w.heap.size + 3 := by omega
                    have n4 : ¬ w.heap.size = w4.heap.size := by omega
                    have n5 : ¬ w4.heap.size = w.heap.size := by omega
                    have n6 : ¬ w.heap.size + 2 = w4.heap.size := by omega
                    have n7 : ¬ w4.heap.size = w.heap.size + 2 := by omega
                    clear h
                    go_wp2
                    exact bodyPost_ret (v := T3 (MM.mk me rev cr hh bb bad lk).v (I 0) (I 24)) (by simp [results, Tryz.results18, go_sem, *]; try omega) rfl (Grew.intro HR.out (by repeat first | with_reducible assumption | with_reducible exact Below.refl _ _ | with_reducible refine Below.setCell ?_ (by first | exact Nat.le_refl _ | exact Below.size (by assumption) | (simp; done) | (simp; omega) | omega) _ | with_reducible refine Below.alloc ?_ (by first | exact Nat.le_refl _ | exact Below.size (by assumption) | (simp; done) | (simp; omega) | omega) _ | with_reducible refine drewN_below ?_ _ | with_reducible refine Below.drew ?_))
                  · rw [if_neg hr] at hE3
                    obtain ⟨e1, e2, e3⟩ := HQ.out
                    have HR := Lib.hid (show T3 (MM.mk me n cr H2 B2 0 lk).v (I (0)) (I (0)) = T3 (keyM ⟨me, rev, cr, hh, bb, bad, lk⟩ ps ⟨2, ti, n, tag⟩).v (I (keyA ⟨me, rev, cr, hh, bb, bad, lk⟩ ps ⟨2, ti, n, tag⟩)) (I (keyE ⟨me, rev, cr, hh, bb, bad, lk⟩ ps ⟨2, ti, n, tag⟩)) by rw [e1, e2, e3, HM.out, HA.out, hE3]; rfl)
                    clear HE HE2 hE3 HM HA HQ e1 e2 e3
                    have r1 := set_same
                    have r2 := set_off
                    have r3 := set_blk
                    have n1 : ¬ w.heap.size + 3 = w4.heap.size := by omega
                    have n2 : ¬ w4.heap.size = w.heap.size + 3 := by omega
                    have n4 : ¬ w.heap.size = w4.heap.size := by omega
                    have n5 : ¬ w4.heap.size = w.heap.size := by omega
                    have n6 : ¬ w.heap.size + 2 = w4.heap.size := by omega
                    have n7 : ¬ w4.heap.size = w.heap.size + 2 := by omega
                    clear h
                    go_wp2
                    exact bodyPost_ret (v := T3 (MM.mk me n cr H2 B2 0 lk).v (I 0) (I 0)) (by simp [results, Tryz.results18, go_sem, *]; try omega) rfl (Grew.intro HR.out (by repeat first | with_reducible assumption | with_reducible exact Below.refl _ _ | with_reducible refine Below.setCell ?_ (by first | exact Nat.le_refl _ | exact Below.size (by assumption) | (simp; done) | (simp; omega) | omega) _ | with_reducible refine Below.alloc ?_ (by first | exact Nat.le_refl _ | exact Below.size (by assumption) | (simp; done) | (simp; omega) | omega) _ | with_reducible refine drewN_below ?_ _ | with_reducible refine Below.drew ?_))
              · have hE3 := HE.out.trans (if_neg hE)
                have hEb : (E != 0) = true := by simp [hE]
                obtain ⟨e1, e2, e3⟩ := HQ.out
                have HR := Lib.hid (show T3 (MM.mk me rev cr hh bb bad lk).v (I (0)) (I (E)) = T3 (keyM ⟨me, rev, cr, hh, bb, bad, lk⟩ ps ⟨c, ti, n, tag⟩).v (I (keyA ⟨me, rev, cr, hh, bb, bad, lk⟩ ps ⟨c, ti, n, tag⟩)) (I (keyE ⟨me, rev, cr, hh, bb, bad, lk⟩ ps ⟨c, ti, n, tag⟩)) by rw [e1, e2, e3, HM.out, HA.out, hE3, if_neg hE, if_neg hE])
                clear HE hE3 HM HA HQ e1 e2 e3
                have r1 := set_same
                have r2 := set_off
                have r3 := set_blk
                have n1 : ¬ w.heap.size + 3 = w4.heap.size := by omega
                have n2 : ¬ w4.heap.size = w.heap.size + 3 := by omega
                have n4 : ¬ w.heap.size = w4.heap.size := by omega
                have n5 : ¬ w4.heap.size = w.heap.size := by omega
                have n6 : ¬ w.heap.size + 2 = w4.heap.size := by omega
                have n7 : ¬ w4.heap.size = w.heap.size + 2 := by omega
                clear h
                go_wp2
                exact bodyPost_ret (v := T3 (MM.mk me rev cr hh bb bad lk).v (I 0) (I E)) (by simp [results, Tryz.results18, go_sem, *]; try omega) rfl (Grew.intro HR.out (by repeat first | with_reducible assumption | with_reducible exact Below.refl _ _ | with_reducible refine Below.setCell ?_ (by first | exact Nat.le_refl _ | exact Below.size (by assumption) | (simp; done) | (simp; omega) | omega) _ | with_reducible refine Below.alloc ?_ (by first | exact Nat.le_refl _ | exact Below.size (by assumption) | (simp; done) | (simp; omega) | omega) _ | with_reducible refine drewN_below ?_ _ | with_reducible refine Below.drew ?_))
            · have HK2 := HK.out.trans hk
              obtain ⟨e1, e2, e3⟩ := Sd2.out (by rw [HK2]; decide)
              rw [HK2] at e1 e2
              have HR := Lib.hid (show T3 (MM.mk me rev cr hh bb bad lk).v (I (0)) (I (11)) = T3 (keyM ⟨me, rev, cr, hh, bb, bad, lk⟩ ps ⟨c, ti, n, tag⟩).v (I (keyA ⟨me, rev, cr, hh, bb, bad, lk⟩ ps ⟨c, ti, n, tag⟩)) (I (keyE ⟨me, rev, cr, hh, bb, bad, lk⟩ ps ⟨c, ti, n, tag⟩)) by rw [e1, e2, e3]; rfl)
              rw [hk] at S
              clear e1 e2 e3 hk HK HK2 Sd2 Tk2
              go_wp2_with fail
              refine (S.out _ _ (h.below kb)).mono ?_
              rintro e w4 ⟨rfl, k1⟩
              clear o0 of0 S
              clear c0 c1 c2 c3 c4 c5 c6 cf0 cf1 cf2 cf3 cf4 cf5 cf6 t0 t1 t2 t3 tf0 tf1 tf2 tf3
              have kb := kb.trans (k1.mono kb.size)
              have om := om.below k1
              have oo := oo.below k1
              have ot := ot.below k1
              have oz := oz.below k1
              have hz4 := Nat.le_trans hz4 k1.size
              clear k1
              have cO := om
              have c0 := cO.cell 0 (by simp)
              have cf0 := cO.frozen 0
              have c1 := cO.cell 1 (by simp)
              have cf1 := cO.frozen 1
              have c2 := cO.cell 2 (by simp)
              have cf2 := cO.frozen 2
              have c3 := cO.cell 3 (by simp)
              have cf3 := cO.frozen 3
              have c4 := cO.cell 4 (by simp)
              have cf4 := cO.frozen 4
              have c5 := cO.cell 5 (by simp)
              have cf5 := cO.frozen 5
              have c6 := cO.cell 6 (by simp)
              have cf6 := cO.frozen 6
              simp only [Nat.zero_add, List.getD_cons_zero, List.getD_cons_succ] at c0 c1 c2 c3 c4 c5 c6
              clear cO
              have zO := oz
              have z0 := zO.cell 0 (by simp)
              have zf0 := zO.frozen 0
              have z1 := zO.cell 1 (by simp)
              have zf1 := zO.frozen 1
              have z2 := zO.cell 2 (by simp)
              have zf2 := zO.frozen 2
              have z3 := zO.cell 3 (by simp)
              have zf3 := zO.frozen 3
              have z4 := zO.cell 4 (by simp)
              have zf4 := zO.frozen 4
              have z5 := zO.cell 5 (by simp)
              have zf5 := zO.frozen 5
              have z6 := zO.cell 6 (by simp)
              have zf6 := zO.frozen 6
              simp only [Nat.zero_add, List.getD_cons_zero, List.getD_cons_succ] at z0 z1 z2 z3 z4 z5 z6
              clear zO
              clear oo ot oz om
              have r1 := set_same
              have r2 := set_off
              have r3 := set_blk
              have n1 : ¬ w.heap.size + 3 = w4.heap.size := by omega
              have n2 : ¬ w4.heap.size = w.heap.size + 3 := by omega
              have n4 : ¬ w.heap.size = w4.heap.size := by omega
              have n5 : ¬ w4.heap.size = w.heap.size := by omega
              have n6 : ¬ w.heap.size + 2 = w4.heap.size := by omega
              have n7 : ¬ w4.heap.size = w.heap.size + 2 := by omega
              clear h
              go_wp2
              exact bodyPost_ret (v := T3 (MM.mk me rev cr hh bb bad lk).v (I 0) (I 11)) (by simp [results, Tryz.results18, go_sem, *]; try omega) rfl (Grew.intro HR.out (by repeat first | with_reducible assumption | with_reducible exact Below.refl _ _ | with_reducible refine Below.setCell ?_ (by first | exact Nat.le_refl _ | exact Below.size (by assumption) | (simp; done) | (simp; omega) | omega) _ | with_reducible refine Below.alloc ?_ (by first | exact Nat.le_refl _ | exact Below.size (by assumption) | (simp; done) | (simp; omega) | omega) _ | with_reducible refine drewN_below ?_ _ | with_reducible refine Below.drew ?_))
            · have HK2 := HK.out.trans hk
              obtain ⟨e1, e2, e3⟩ := Sd2.out (by rw [HK2]; decide)
              rw [HK2] at e1 e2
              by_cases h4 : bad = 4
              · have h5 : 5 ≤ bad + 1 := by omega
                have HR := Lib.hid (show T3 (MM.mk me rev cr hh bb 0 30).v (I (0)) (I (12)) = T3 (keyM ⟨me, rev, cr, hh, bb, bad, lk⟩ ps ⟨c, ti, n, tag⟩).v (I (keyA ⟨me, rev, cr, hh, bb, bad, lk⟩ ps ⟨c, ti, n, tag⟩)) (I (keyE ⟨me, rev, cr, hh, bb, bad, lk⟩ ps ⟨c, ti, n, tag⟩)) by rw [e1, e2, e3, show soldM ⟨me, rev, cr, hh, bb, bad, lk⟩ 2 = ⟨me, rev, cr, hh, bb, 0, 30⟩ by simp [soldM, h4]]; rfl)
                rw [hk] at S
                clear e1 e2 e3 hk HK HK2 Sd2 Tk2 h4
                go_wp2_with fail
                refine (S.out _ _ (h.below kb)).mono ?_
                rintro e w4 ⟨rfl, k1⟩
                clear o0 of0 S
                clear c0 c1 c2 c3 c4 c5 c6 cf0 cf1 cf2 cf3 cf4 cf5 cf6 t0 t1 t2 t3 tf0 tf1 tf2 tf3
                have kb := kb.trans (k1.mono kb.size)
                have om := om.below k1
                have oo := oo.below k1
                have ot := ot.below k1
                have oz := oz.below k1
                have hz4 := Nat.le_trans hz4 k1.size
                clear k1
                have ko := boxed_below w4 (.cells #[I me, I rev, I cr, I hh, .int .u64 bb, I bad, I lk] 40)
                have cO := om
                have c0 := cO.cell 0 (by simp)
                have cf0 := cO.frozen 0
                have c1 := cO.cell 1 (by simp)
                have cf1 := cO.frozen 1
                have c2 := cO.cell 2 (by simp)
                have cf2 := cO.frozen 2
                have c3 := cO.cell 3 (by simp)
                have cf3 := cO.frozen 3
                have c4 := cO.cell 4 (by simp)
                have cf4 := cO.frozen 4
                have c5 := cO.cell 5 (by simp)
                have cf5 := cO.frozen 5
                have c6 := cO.cell 6 (by simp)
                have cf6 := cO.frozen 6
                simp only [Nat.zero_add, List.getD_cons_zero, List.getD_cons_succ] at c0 c1 c2 c3 c4 c5 c6
                clear cO
                have qO := om.below ko
                have q0 := qO.cell 0 (by simp)
                have qf0 := qO.frozen 0
                have q1 := qO.cell 1 (by simp)
                have qf1 := qO.frozen 1
                have q2 := qO.cell 2 (by simp)
                have qf2 := qO.frozen 2
                have q3 := qO.cell 3 (by simp)
                have qf3 := qO.frozen 3
                have q4 := qO.cell 4 (by simp)
                have qf4 := qO.frozen 4
                have q5 := qO.cell 5 (by simp)
                have qf5 := qO.frozen 5
                have q6 := qO.cell 6 (by simp)
                have qf6 := qO.frozen 6
                simp only [Nat.zero_add, List.getD_cons_zero, List.getD_cons_succ] at q0 q1 q2 q3 q4 q5 q6
                clear qO
                have zO := oz.below (boxed_below w4 (.cells #[I me, I rev, I cr, I hh, .int .u64 bb, I 0, I 30] 40))
                have z0 := zO.cell 0 (by simp)
                have zf0 := zO.frozen 0
                have z1 := zO.cell 1 (by simp)
                have zf1 := zO.frozen 1
                have z2 := zO.cell 2 (by simp)
                have zf2 := zO.frozen 2
                have z3 := zO.cell 3 (by simp)
                have zf3 := zO.frozen 3
                have z4 := zO.cell 4 (by simp)
                have zf4 := zO.frozen 4
                have z5 := zO.cell 5 (by simp)
                have zf5 := zO.frozen 5
                have z6 := zO.cell 6 (by simp)
                have zf6 := zO.frozen 6
                simp only [Nat.zero_add, List.getD_cons_zero, List.getD_cons_succ] at z0 z1 z2 z3 z4 z5 z6
                clear zO
                have kb5 := kb.trans (ko.mono kb.size)
                clear oo ot oz om ko T
                have r1 := set_same
                have r2 := set_off
                have r3 := set_blk
                have n1 : ¬ w.heap.size + 3 = w4.heap.size := by omega
                have n2 : ¬ w4.heap.size = w.heap.size + 3 := by omega
                have n4 : ¬ w.heap.size = w4.heap.size := by omega
                have n5 : ¬ w4.heap.size = w.heap.size := by omega
                have n6 : ¬ w.heap.size + 2 = w4.heap.size := by omega
                have n7 : ¬ w4.heap.size = w.heap.size + 2 := by omega
                clear h
                go_wp2
                exact bodyPost_ret (v := T3 (MM.mk me rev cr hh bb 0 30).v (I 0) (I 12)) (by simp [results, Tryz.results18, go_sem, *]; try omega) rfl (Grew.intro HR.out (by repeat first | with_reducible assumption | with_reducible exact Below.refl _ _ | with_reducible refine Below.setCell ?_ (by first | exact Nat.le_refl _ | exact Below.size (by assumption) | (simp; done) | (simp; omega) | omega) _ | with_reducible refine Below.alloc ?_ (by first | exact Nat.le_refl _ | exact Below.size (by assumption) | (simp; done) | (simp; omega) | omega) _ | with_reducible refine drewN_below ?_ _ | with_reducible refine Below.drew ?_))
              · have h5 : bad + 1 < 5 := by omega
                have h6 : ¬ 5 ≤ bad + 1 := by omega
                have HR := Lib.hid (show T3 (MM.mk me rev cr hh bb (bad + 1) lk).v (I (0)) (I (12)) = T3 (keyM ⟨me, rev, cr, hh, bb, bad, lk⟩ ps ⟨c, ti, n, tag⟩).v (I (keyA ⟨me, rev, cr, hh, bb, bad, lk⟩ ps ⟨c, ti, n, tag⟩)) (I (keyE ⟨me, rev, cr, hh, bb, bad, lk⟩ ps ⟨c, ti, n, tag⟩)) by rw [e1, e2, e3, show soldM ⟨me, rev, cr, hh, bb, bad, lk⟩ 2 = ⟨me, rev, cr, hh, bb, bad + 1, lk⟩ by simp [soldM, h4]]; rfl)
                rw [hk] at S
                clear e1 e2 e3 hk HK HK2 Sd2 Tk2 h4
                go_wp2_with fail
                refine (S.out _ _ (h.below kb)).mono ?_
                rintro e w4 ⟨rfl, k1⟩
                clear o0 of0 S
                clear c0 c1 c2 c3 c4 c5 c6 cf0 cf1 cf2 cf3 cf4 cf5 cf6 t0 t1 t2 t3 tf0 tf1 tf2 tf3
                have kb := kb.trans (k1.mono kb.size)
                have om := om.below k1
                have oo := oo.below k1
                have ot := ot.below k1
                have oz := oz.below k1
                have hz4 := Nat.le_trans hz4 k1.size
                clear k1
                have ko := boxed_below w4 (.cells #[I me, I rev, I cr, I hh, .int .u64 bb, I bad, I lk] 40)
                have cO := om
                have c0 := cO.cell 0 (by simp)
                have cf0 := cO.frozen 0
                have c1 := cO.cell 1 (by simp)
                have cf1 := cO.frozen 1
                have c2 := cO.cell 2 (by simp)
                have cf2 := cO.frozen 2
                have c3 := cO.cell 3 (by simp)
                have cf3 := cO.frozen 3
                have c4 := cO.cell 4 (by simp)
                have cf4 := cO.frozen 4
                have c5 := cO.cell 5 (by simp)
                have cf5 := cO.frozen 5
                have c6 := cO.cell 6 (by simp)
                have cf6 := cO.frozen 6
                simp only [Nat.zero_add, List.getD_cons_zero, List.getD_cons_succ] at c0 c1 c2 c3 c4 c5 c6
                clear cO
                have qO := om.below ko
                have q0 := qO.cell 0 (by simp)
                have qf0 := qO.frozen 0
                have q1 := qO.cell 1 (by simp)
                have qf1 := qO.frozen 1
                have q2 := qO.cell 2 (by simp)
                have qf2 := qO.frozen 2
                have q3 := qO.cell 3 (by simp)
                have qf3 := qO.frozen 3
                have q4 := qO.cell 4 (by simp)
                have qf4 := qO.frozen 4
                have q5 := qO.cell 5 (by simp)
                have qf5 := qO.frozen 5
                have q6 := qO.cell 6 (by simp)
                have qf6 := qO.frozen 6
                simp only [Nat.zero_add, List.getD_cons_zero, List.getD_cons_succ] at q0 q1 q2 q3 q4 q5 q6
                clear qO
                have zO := oz.below (boxed_below w4 (.cells #[I me, I rev, I cr, I hh, .int .u64 bb, I (bad + 1), I lk] 40))
                have z0 := zO.cell 0 (by simp)
                have zf0 := zO.frozen 0
                have z1 := zO.cell 1 (by simp)
                have zf1 := zO.frozen 1
                have z2 := zO.cell 2 (by simp)
                have zf2 := zO.frozen 2
                have z3 := zO.cell 3 (by simp)
                have zf3 := zO.frozen 3
                have z4 := zO.cell 4 (by simp)
                have zf4 := zO.frozen 4
                have z5 := zO.cell 5 (by simp)
                have zf5 := zO.frozen 5
                have z6 := zO.cell 6 (by simp)
                have zf6 := zO.frozen 6
                simp only [Nat.zero_add, List.getD_cons_zero, List.getD_cons_succ] at z0 z1 z2 z3 z4 z5 z6
                clear zO
                have kb5 := kb.trans (ko.mono kb.size)
                clear oo ot oz om ko T
                have r1 := set_same
                have r2 := set_off
                have r3 := set_blk
                have n1 : ¬ w.heap.size + 3 = w4.heap.size := by omega
                have n2 : ¬ w4.heap.size = w.heap.size + 3 := by omega
                have n4 : ¬ w.heap.size = w4.heap.size := by omega
                have n5 : ¬ w4.heap.size = w.heap.size := by omega
                have n6 : ¬ w.heap.size + 2 = w4.heap.size := by omega
                have n7 : ¬ w4.heap.size = w.heap.size + 2 := by omega
                clear h
                go_wp2
                exact bodyPost_ret (v := T3 (MM.mk me rev cr hh bb (bad + 1) lk).v (I 0) (I 12)) (by simp [results, Tryz.results18, go_sem, *]; try omega) rfl (Grew.intro HR.out (by repeat first | with_reducible assumption | with_reducible exact Below.refl _ _ | with_reducible refine Below.setCell ?_ (by first | exact Nat.le_refl _ | exact Below.size (by assumption) | (simp; done) | (simp; omega) | omega) _ | with_reducible refine Below.alloc ?_ (by first | exact Nat.le_refl _ | exact Below.size (by assumption) | (simp; done) | (simp; omega) | omega) _ | with_reducible refine drewN_below ?_ _ | with_reducible refine Below.drew ?_))
      · have hg : keyGo ⟨me, rev, cr, hh, bb, bad, lk⟩ ⟨c, ti, n, tag⟩ = false := by simp [keyGo, hf]
        obtain ⟨e2, e3⟩ := No.out hko hg
        rw [e2, e3, show keyE ⟨me, rev, cr, hh, bb, bad, lk⟩ ps ⟨c, ti, n, tag⟩ = tokFault ⟨c, ti, n, tag⟩ by simp [keyE, hko, hf]]
        have hfb : (tokFault ⟨c, ti, n, tag⟩ != 0) = true := by simp [hf]
        generalize tokFault ⟨c, ti, n, tag⟩ = E at *
        clear e2 e3 hko hg hf
        go_enter Tryz.func18, Tryz.ntmps18
        go_wp2_with fail
        refine (M.out _).mono ?_
        rintro e w1 ⟨rfl, k1⟩
        have kb := kb.trans (k1.mono kb.size)
        have om := om.below k1
        have oo := oo.below k1
        have ot := ot.below k1
        have oz := oz.below k1
        have hz4 := Nat.le_trans hz4 k1.size
        clear k1
        have oO := oo
        have o0 := oO.cell 0 (by simp)
        have of0 := oO.frozen 0
        simp only [Nat.zero_add, List.getD_cons_zero] at o0
        clear oO
        go_wp2_with fail
        refine (O.out _ _ (h.below kb)).mono ?_
        rintro e w2 ⟨rfl, k1⟩
        clear o0 of0
        have kb := kb.trans (k1.mono kb.size)
        have om := om.below k1
        have oo := oo.below k1
        have ot := ot.below k1
        have oz := oz.below k1
        have hz4 := Nat.le_trans hz4 k1.size
        clear k1
        have tO := ot
        have t0 := tO.cell 0 (by simp)
        have tf0 := tO.frozen 0
        have t1 := tO.cell 1 (by simp)
        have tf1 := tO.frozen 1
        have t2 := tO.cell 2 (by simp)
        have tf2 := tO.frozen 2
        have t3 := tO.cell 3 (by simp)
        have tf3 := tO.frozen 3
        simp only [Nat.zero_add, List.getD_cons_zero, List.getD_cons_succ] at t0 t1 t2 t3
        clear tO
        go_wp2_with fail
        refine (B.out _).mono ?_
        rintro e w3 ⟨rfl, k1⟩
        clear t0 t1 t2 t3 tf0 tf1 tf2 tf3 M O B
        have kb := kb.trans (k1.mono kb.size)
        have om := om.below k1
        have oo := oo.below k1
        have ot := ot.below k1
        have oz := oz.below k1
        have hz4 := Nat.le_trans hz4 k1.size
        clear k1
        have cO := om
        have c0 := cO.cell 0 (by simp)
        have cf0 := cO.frozen 0
        have c1 := cO.cell 1 (by simp)
        have cf1 := cO.frozen 1
        have c2 := cO.cell 2 (by simp)
        have cf2 := cO.frozen 2
        have c3 := cO.cell 3 (by simp)
        have cf3 := cO.frozen 3
        have c4 := cO.cell 4 (by simp)
        have cf4 := cO.frozen 4
        have c5 := cO.cell 5 (by simp)
        have cf5 := cO.frozen 5
        have c6 := cO.cell 6 (by simp)
        have cf6 := cO.frozen 6
        simp only [Nat.zero_add, List.getD_cons_zero, List.getD_cons_succ] at c0 c1 c2 c3 c4 c5 c6
        clear cO
        have tO := ot
        have t0 := tO.cell 0 (by simp)
        have tf0 := tO.frozen 0
        have t1 := tO.cell 1 (by simp)
        have tf1 := tO.frozen 1
        have t2 := tO.cell 2 (by simp)
        have tf2 := tO.frozen 2
        have t3 := tO.cell 3 (by simp)
        have tf3 := tO.frozen 3
        simp only [Nat.zero_add, List.getD_cons_zero, List.getD_cons_succ] at t0 t1 t2 t3
        clear tO
        have zO := oz
        have z0 := zO.cell 0 (by simp)
        have zf0 := zO.frozen 0
        have z1 := zO.cell 1 (by simp)
        have zf1 := zO.frozen 1
        have z2 := zO.cell 2 (by simp)
        have zf2 := zO.frozen 2
        have z3 := zO.cell 3 (by simp)
        have zf3 := zO.frozen 3
        have z4 := zO.cell 4 (by simp)
        have zf4 := zO.frozen 4
        have z5 := zO.cell 5 (by simp)
        have zf5 := zO.frozen 5
        have z6 := zO.cell 6 (by simp)
        have zf6 := zO.frozen 6
        simp only [Nat.zero_add, List.getD_cons_zero, List.getD_cons_succ] at z0 z1 z2 z3 z4 z5 z6
        clear zO
        have r1 := set_same
        have r2 := set_off
        have r3 := set_blk
        clear om oo ot oz h
        go_wp2
        exact bodyPost_ret (v := T3 (MM.mk me rev cr hh bb bad lk).v (I 0) (I E)) (by simp [results, Tryz.results18, go_sem, *]; try omega) rfl (Grew.intro rfl (by repeat first | with_reducible assumption | with_reducible exact Below.refl _ _ | with_reducible refine Below.setCell ?_ (by first | exact Nat.le_refl _ | exact Below.size (by assumption) | (simp; done) | (simp; omega) | omega) _ | with_reducible refine Below.alloc ?_ (by first | exact Nat.le_refl _ | exact Below.size (by assumption) | (simp; done) | (simp; omega) | omega) _ | with_reducible refine drewN_below ?_ _ | with_reducible refine Below.drew ?_))
end Go.Proofs.YtmciccnmpoijdaaGreatDoor
