/- meter.Key's state: take · meter.Key's state: take -/
import Derived.Test.YtmciccnmpoijdaaGreatDoorPk16
import Derived.Test.YtmciccnmpoijdaaGreatDoorWinTake
import Derived.Deep.DeepCutAuto
namespace Go.Proofs.YtmciccnmpoijdaaGreatDoor
open Go Go.RowKit
set_option maxRecDepth 20000

def actE (m : MM) (c n : Int) : Int := if c = 1 then 0 else if c = 2 then (if n ≤ m.rev then 24 else 0) else (if 99999999 < m.cr + n then 15 else 0)
def actM (m : MM) (c n : Int) : MM := if c = 1 then { m with cr := 0 } else if c = 2 then { m with rev := n } else { m with cr := m.cr + n }
def actA (ad c n : Int) : Int := if c = 1 then ad else if c = 2 then ad else n
def takeE (m : MM) (c id n : Int) : Int := if judgeE m.h m.b id = 0 then actE m c n else judgeE m.h m.b id
def takeM (m : MM) (c id n : Int) : MM := if takeE m c id n = 0 then { actM m c n with h := tkH m.h m.b id, b := tkB m.h m.b id, bad := 0 } else m
def takeA (m : MM) (ad c id n : Int) : Int := if takeE m c id n = 0 then actA ad c n else ad
theorem StP.of {g : Nat} {m : MM} {ad k k' : Int} {L : List Value} {w w' : World} (hO : Own w' g L) (hL : L = stL m ad) (hk : k' = k) (hc : Chg g w w') : StP g m ad k w (.returned (I k')) w' := by
  subst hk hL; exact ⟨rfl, hO, hc⟩
theorem StP.bad {g : Nat} {m : MM} {ad c id n k' : Int} {L : List Value} {w w' : World} (hO : Own w' g L) (hL : L = stL m ad) (hk : takeE m c id n = k') (h0 : k' ≠ 0) (hc : Chg g w w') :
    StP g (takeM m c id n) (takeA m ad c id n) (takeE m c id n) w (.returned (I k')) w' := by
  rw [takeM, takeA, hk, if_neg h0, if_neg h0]; exact StP.of hO hL rfl hc
theorem StP.good {g : Nat} {m : MM} {ad c id n : Int} {L : List Value} {w w' : World} (hO : Own w' g L) (hk : takeE m c id n = 0) (hL : L = stL { actM m c n with h := tkH m.h m.b id, b := tkB m.h m.b id, bad := 0 } (actA ad c n)) (hc : Chg g w w') :
    StP g (takeM m c id n) (takeA m ad c id n) (takeE m c id n) w (.returned (I 0)) w' := by
  rw [takeM, takeA, hk, if_pos rfl, if_pos rfl]; exact StP.of hO hL rfl hc

end Go.Proofs.YtmciccnmpoijdaaGreatDoor
namespace Go.Proofs.YtmciccnmpoijdaaGreatDoor
open Go Go.RowKit
set_option maxRecDepth 20000

set_option maxHeartbeats 8000000 in
theorem take_any (g : Nat) (me rev cr hh : Int) (bb : Nat) (bad lk ad c id n tag : Int) (w : World) (hO : Own w g (stL ⟨me, rev, cr, hh, bb, bad, lk⟩ ad)) (hb : bb < 18446744073709551616) (hcr : 0 ≤ cr ∧ cr ≤ 99999999) (hn : 0 ≤ n ∧ n ≤ 2097151) :
    Calls Tryz.prog 32 #[.pointer (some ⟨g, 0, none⟩), .agg #[I c, I id, I n, I tag]] w (StP g (takeM ⟨me, rev, cr, hh, bb, bad, lk⟩ c id n) (takeA ⟨me, rev, cr, hh, bb, bad, lk⟩ ad c id n) (takeE ⟨me, rev, cr, hh, bb, bad, lk⟩ c id n) w) := by
  have kb := boxed_below w (.cells #[I c, I id, I n, I tag] 44)
  have ot := Own.new (w := w) rfl [I c, I id, I n, I tag] 44
  have hglt := hO.lt
  have T := Lib.hid (fun W => Take_any hh bb id W hb)
  have HE := Lib.hid (show takeE ⟨me, rev, cr, hh, bb, bad, lk⟩ c id n = if judgeE hh bb id = 0 then actE ⟨me, rev, cr, hh, bb, bad, lk⟩ c n else judgeE hh bb id from rfl)
  have HG : Hid (∀ H2 B2 b, tkH hh bb id = H2 → tkB hh bb id = B2 → b = { actM ⟨me, rev, cr, hh, bb, bad, lk⟩ c n with h := H2, b := B2, bad := 0 } → b = { actM ⟨me, rev, cr, hh, bb, bad, lk⟩ c n with h := tkH hh bb id, b := tkB hh bb id, bad := 0 }) := Lib.hid (fun _ _ _ h1 h2 h3 => by rw [h1, h2]; exact h3)
  have HO := Lib.hid hO
  unfold stL at hO
  have hO1 := hO.alloc (.cells #[I c, I id, I n, I tag] 44)
  have mO := hO1
  have m0 := mO.cell 0 (by simp)
  have mf0 := mO.frozen 0
  have m1 := mO.cell 1 (by simp)
  have mf1 := mO.frozen 1
  have m2 := mO.cell 2 (by simp)
  have mf2 := mO.frozen 2
  have m3 := mO.cell 3 (by simp)
  have mf3 := mO.frozen 3
  have m4 := mO.cell 4 (by simp)
  have mf4 := mO.frozen 4
  have m5 := mO.cell 5 (by simp)
  have mf5 := mO.frozen 5
  have m6 := mO.cell 6 (by simp)
  have mf6 := mO.frozen 6
  have m7 := mO.cell 7 (by simp)
  have mf7 := mO.frozen 7
  simp only [Nat.zero_add, List.getD_cons_zero, List.getD_cons_succ] at m0 m1 m2 m3 m4 m5 m6 m7
  clear mO
  have r1 := set_same
  have r2 := set_off
  have r3 := set_blk
  obtain ⟨cr0, cr1⟩ := hcr
  obtain ⟨n0, n1⟩ := hn
  clear hO hO1
  generalize hE : judgeE hh bb id = E at *
  generalize h2 : tkH hh bb id = H2 at *
  generalize h3 : tkB hh bb id = B2 at *
  have HG2 := HG.out H2 B2 _ rfl rfl rfl
  clear HG
  have HT : Hid (takeE ⟨me, rev, cr, hh, bb, bad, lk⟩ c id n = if E = 0 then actE ⟨me, rev, cr, hh, bb, bad, lk⟩ c n else E) := HE
  have HH2 := Lib.hid h2
  have HB2 := Lib.hid h3
  clear HE hE h2 h3 HG2
  go_enter Tryz.func32, Tryz.ntmps32
  go_upto_region 1 with fail
  go_cut [5, 6] (fun s5 s6 wx => ∃ gw, s5 = .pointer (some ⟨gw, 0, none⟩) ∧ s6 = I E ∧ Own wx gw [I H2, .int .u64 B2] ∧ Own wx g (stL ⟨me, rev, cr, hh, bb, bad, lk⟩ ad) ∧ Own wx w.heap.size [I c, I id, I n, I tag] ∧ w.heap.size < gw ∧ Chg g w wx)
  case first =>
    go_region_with ((refine (T.out _).mono ?_; rintro e w1 ⟨rfl, k1⟩; obtain ⟨hc1, hf1⟩ := bcell k1))
    all_goals
      have kk : Below w.heap.size w w1 := by
        first
        | exact (drewN_below kb 1).trans (k1.mono (by first | (simp; done) | (simp; omega)))
        | exact ((drewN_below kb 1).alloc (by simp) _).trans (k1.mono (by first | (simp; done) | (simp; omega)))
      have HOw := HO.out.below kk
      have HQ := Lib.hid HOw
      have HC := Lib.hid (Chg.of_below (z := g) kk)
      have OT : Own w1 w.heap.size [I c, I id, I n, I tag] := by
        first
        | exact (ot.drewN 1).below k1
        | exact ((ot.drewN 1).alloc _).below k1
      have HT2 := Lib.hid OT
      try have ow := Lib.hid ((Own.new (w := w.alloc (.cells #[I c, I id, I n, I tag] 44)) (g := w.heap.size + 1) (by simp) [I 0, .int .u64 0] 38).drewN 1 |>.below k1)
      have g1 : g < w1.heap.size := HOw.lt
      have g2 : ¬ g = w1.heap.size := by omega
      have g3 : ¬ w1.heap.size = g := by omega
      have g4 : ¬ g = w.heap.size + 1 := by omega
      have g5 : ¬ w.heap.size + 1 = g := by omega
      have g6 : w.heap.size + 1 ≤ w1.heap.size := by have := k1.size; simp at this; omega
      clear m0 m1 m2 m3 m4 m5 m6 m7 mf0 mf1 mf2 mf3 mf4 mf5 mf6 mf7 kk k1 HOw OT
      go_wp2_with fail
      go_meet
      clear hc1 hf1 T HT HH2 HB2 HO
      refine ⟨_, rfl, rfl, ?o1, ?o2, ?o3, ?o4, ?o5⟩
      case o1 =>
        first
        | exact Own.new rfl [I H2, .int .u64 B2] _
        | exact (ow.out.set 0 (I H2)).set 1 (.int .u64 B2)
      case o2 =>
        (repeat first | with_reducible exact HQ.out | with_reducible refine Own.set ?_ _ _ | with_reducible refine Own.alloc ?_ _ | with_reducible refine Own.drewN ?_ _ | (refine Own.other ?_ (by show _ ≠ g; omega) _))
      case o3 =>
        first
        | exact HT2.out.alloc _
        | exact (HT2.out.other (by simp) _).other (by simp) _
      case o4 => omega
      case o5 =>
        (repeat first | with_reducible exact HC.out | with_reducible refine Chg.set ?_ _ _ | with_reducible refine Chg.alloc ?_ _ | with_reducible refine Chg.drewN ?_ _ | (refine Chg.setNew ?_ _ _ (by omega) _))
  case rest =>
    obtain ⟨gw, rfl, rfl, OW, OG, OT, hgw, C⟩ := hcut
    have n1 : ¬ g = gw := by omega
    have n2 : ¬ gw = g := by omega
    have n3 : ¬ w.heap.size = gw := by omega
    have n4 : ¬ gw = w.heap.size := by omega
    have n5 : ¬ g = w.heap.size := by omega
    have n6 : ¬ w.heap.size = g := by omega
    have HQ := Lib.hid OG
    have HC := Lib.hid C
    unfold stL at OG
    clear m0 m1 m2 m3 m4 m5 m6 m7 mf0 mf1 mf2 mf3 mf4 mf5 mf6 mf7 T HO kb ot C
    have qO := OG
    have q0 := qO.cell 0 (by simp)
    have qf0 := qO.frozen 0
    have q1 := qO.cell 1 (by simp)
    have qf1 := qO.frozen 1
    have q2 := qO.cell 2 (by simp)
    have qf2 := qO.frozen 2
    have q3 := qO.cell 3 (by simp)
    have qf3 := qO.frozen 3
    have q4 := qO.cell 4 (by simp)
    have qf4 := qO.frozen 4
    have q5 := qO.cell 5 (by simp)
    have qf5 := qO.frozen 5
    have q6 := qO.cell 6 (by simp)
    have qf6 := qO.frozen 6
    have q7 := qO.cell 7 (by simp)
    have qf7 := qO.frozen 7
    simp only [Nat.zero_add, List.getD_cons_zero, List.getD_cons_succ] at q0 q1 q2 q3 q4 q5 q6 q7
    clear qO
    have tO := OT
    have t0 := tO.cell 0 (by simp)
    have tf0 := tO.frozen 0
    have t1 := tO.cell 1 (by simp)
    have tf1 := tO.frozen 1
    have t2 := tO.cell 2 (by simp)
    have tf2 := tO.frozen 2
    have t3 := tO.cell 3 (by simp)
    have tf3 := tO.frozen 3
    simp only [Nat.zero_add, List.getD_cons_zero, List.getD_cons_succ] at t0 t1 t2 t3
    clear tO
    have zO := OW
    have z0 := zO.cell 0 (by simp)
    have zf0 := zO.frozen 0
    have z1 := zO.cell 1 (by simp)
    have zf1 := zO.frozen 1
    simp only [Nat.zero_add, List.getD_cons_zero, List.getD_cons_succ] at z0 z1
    clear zO
    clear OG OT OW
    by_cases hE : E = 0
    · skip
      subst hE
      have HE2 := Lib.hid (HT.out.trans (if_pos rfl))
      clear HT
      by_cases c1 : c = 1
      · subst c1
        have HK : Hid (takeE ⟨me, rev, cr, hh, bb, bad, lk⟩ 1 id n = 0) := Lib.hid (HE2.out.trans rfl)
        have HG : Hid ((((((stL ⟨me, rev, cr, hh, bb, bad, lk⟩ ad).set 2 (I 0)).set 3 (I H2)).set 4 (.int .u64 B2)).set 5 (I 0)) = stL { actM ⟨me, rev, cr, hh, bb, bad, lk⟩ 1 n with h := tkH hh bb id, b := tkB hh bb id, bad := 0 } (actA ad 1 n)) := Lib.hid (by rw [HH2.out, HB2.out]; rfl)
        clear HE2 HH2 HB2
        go_wp2
        go_ret
        refine StP.good ?hO1 HK.out HG.out ?hc1
        case hO1 =>
          (repeat first | with_reducible exact HQ.out | with_reducible refine Own.set ?_ _ _ | with_reducible refine Own.alloc ?_ _ | with_reducible refine Own.drewN ?_ _ | (refine Own.other ?_ (by show _ ≠ g; omega) _))
        case hc1 =>
          (repeat first | with_reducible exact HC.out | with_reducible refine Chg.set ?_ _ _ | with_reducible refine Chg.alloc ?_ _ | with_reducible refine Chg.drewN ?_ _ | (refine Chg.setNew ?_ _ _ (by omega) _))
      by_cases c2 : c = 2
      · subst c2
        by_cases hr : n ≤ rev
        · have HK : Hid (takeE ⟨me, rev, cr, hh, bb, bad, lk⟩ 2 id n = 24) := Lib.hid (HE2.out.trans (by simp [actE, hr]))
          have HN : Hid ((24 : Int) ≠ 0) := Lib.hid (by decide)
          clear HE2 HH2 HB2
          go_wp2
          go_ret
          refine StP.bad (L := stL ⟨me, rev, cr, hh, bb, bad, lk⟩ ad) ?hO2 rfl HK.out HN.out ?hc2
          case hO2 =>
            (repeat first | with_reducible exact HQ.out | with_reducible refine Own.set ?_ _ _ | with_reducible refine Own.alloc ?_ _ | with_reducible refine Own.drewN ?_ _ | (refine Own.other ?_ (by show _ ≠ g; omega) _))
          case hc2 =>
            (repeat first | with_reducible exact HC.out | with_reducible refine Chg.set ?_ _ _ | with_reducible refine Chg.alloc ?_ _ | with_reducible refine Chg.drewN ?_ _ | (refine Chg.setNew ?_ _ _ (by omega) _))
        · have HK : Hid (takeE ⟨me, rev, cr, hh, bb, bad, lk⟩ 2 id n = 0) := Lib.hid (HE2.out.trans (by simp [actE]; omega))
          have HG : Hid ((((((stL ⟨me, rev, cr, hh, bb, bad, lk⟩ ad).set 1 (I n)).set 3 (I H2)).set 4 (.int .u64 B2)).set 5 (I 0)) = stL { actM ⟨me, rev, cr, hh, bb, bad, lk⟩ 2 n with h := tkH hh bb id, b := tkB hh bb id, bad := 0 } (actA ad 2 n)) := Lib.hid (by rw [HH2.out, HB2.out]; rfl)
          clear HE2 HH2 HB2
          go_wp2
          go_ret
          refine StP.good ?hO3 HK.out HG.out ?hc3
          case hO3 =>
            (repeat first | with_reducible exact HQ.out | with_reducible refine Own.set ?_ _ _ | with_reducible refine Own.alloc ?_ _ | with_reducible refine Own.drewN ?_ _ | (refine Own.other ?_ (by show _ ≠ g; omega) _))
          case hc3 =>
            (repeat first | with_reducible exact HC.out | with_reducible refine Chg.set ?_ _ _ | with_reducible refine Chg.alloc ?_ _ | with_reducible refine Chg.drewN ?_ _ | (refine Chg.setNew ?_ _ _ (by omega) _))
      have b1 : (c == 1) = false := by simp [c1]
      have b2 : (c == 2) = false := by simp [c2]
      by_cases hr : 99999999 < cr + n
      · have HK : Hid (takeE ⟨me, rev, cr, hh, bb, bad, lk⟩ c id n = 15) := Lib.hid (HE2.out.trans (by simp [actE, c1, c2, hr]))
        have HN : Hid ((15 : Int) ≠ 0) := Lib.hid (by decide)
        clear HE2 HH2 HB2 c1 c2
        go_wp2
        go_ret
        refine StP.bad (L := stL ⟨me, rev, cr, hh, bb, bad, lk⟩ ad) ?hO4 rfl HK.out HN.out ?hc4
        case hO4 =>
          (repeat first | with_reducible exact HQ.out | with_reducible refine Own.set ?_ _ _ | with_reducible refine Own.alloc ?_ _ | with_reducible refine Own.drewN ?_ _ | (refine Own.other ?_ (by show _ ≠ g; omega) _))
        case hc4 =>
          (repeat first | with_reducible exact HC.out | with_reducible refine Chg.set ?_ _ _ | with_reducible refine Chg.alloc ?_ _ | with_reducible refine Chg.drewN ?_ _ | (refine Chg.setNew ?_ _ _ (by omega) _))
      · have HK : Hid (takeE ⟨me, rev, cr, hh, bb, bad, lk⟩ c id n = 0) := Lib.hid (HE2.out.trans (by simp [actE, c1, c2]; omega))
        have HG : Hid (((((((stL ⟨me, rev, cr, hh, bb, bad, lk⟩ ad).set 2 (I (cr + n))).set 7 (I n)).set 3 (I H2)).set 4 (.int .u64 B2)).set 5 (I 0)) = stL { actM ⟨me, rev, cr, hh, bb, bad, lk⟩ c n with h := tkH hh bb id, b := tkB hh bb id, bad := 0 } (actA ad c n)) := Lib.hid (by rw [HH2.out, HB2.out]; simp [actM, actA, c1, c2, stL])
        clear HE2 HH2 HB2 c1 c2
        go_wp2
        go_ret
        refine StP.good ?hO5 HK.out HG.out ?hc5
        case hO5 =>
          (repeat first | with_reducible exact HQ.out | with_reducible refine Own.set ?_ _ _ | with_reducible refine Own.alloc ?_ _ | with_reducible refine Own.drewN ?_ _ | (refine Own.other ?_ (by show _ ≠ g; omega) _))
        case hc5 =>
          (repeat first | with_reducible exact HC.out | with_reducible refine Chg.set ?_ _ _ | with_reducible refine Chg.alloc ?_ _ | with_reducible refine Chg.drewN ?_ _ | (refine Chg.setNew ?_ _ _ (by omega) _))
    · have hEb : (E != 0) = true := by simp [hE]
      have HK := Lib.hid (HT.out.trans (if_neg hE))
      have HN := Lib.hid hE
      clear hE HT HH2 HB2
      go_wp2
      go_ret
      refine StP.bad (L := stL ⟨me, rev, cr, hh, bb, bad, lk⟩ ad) ?hO6 rfl HK.out HN.out ?hc6
      case hO6 =>
        (repeat first | with_reducible exact HQ.out | with_reducible refine Own.set ?_ _ _ | with_reducible refine Own.alloc ?_ _ | with_reducible refine Own.drewN ?_ _ | (refine Own.other ?_ (by show _ ≠ g; omega) _))
      case hc6 =>
        (repeat first | with_reducible exact HC.out | with_reducible refine Chg.set ?_ _ _ | with_reducible refine Chg.alloc ?_ _ | with_reducible refine Chg.drewN ?_ _ | (refine Chg.setNew ?_ _ _ (by omega) _))
end Go.Proofs.YtmciccnmpoijdaaGreatDoor
