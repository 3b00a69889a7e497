/- meter.Read and its reference -/
import Derived.Test.YtmciccnmpoijdaaGreatDoorMeter
import Derived.Test.YtmciccnmpoijdaaGreatDoorPk06
import Derived.Test.YtmciccnmpoijdaaGreatDoorApi
import Derived.StillTailTactics
namespace Go.Proofs.YtmciccnmpoijdaaGreatDoor
open Go.RowKit
set_option maxRecDepth 20000

/-- a meter out of five words -/
def rawM (a n h l u : Int) : MM := ⟨n % 256, n / 256 % 256, a, h, (u * 4294967296 + l).toNat, n / 65536 % 256, n / 16777216⟩
def readOf (xs : List Int) : MM := rawM (xs.getD 0 0) (xs.getD 1 0) (xs.getD 2 0) (xs.getD 3 0) (xs.getD 4 0)
def readE (xs : List Int) : Int := if xs.length = 5 then (if (readOf xs).ok then 0 else 5) else 1
def readM (xs : List Int) : MM := if readE xs = 0 then readOf xs else ⟨0, 0, 0, 0, 0, 0, 0⟩
theorem raw_b {l u : Int} (l0 : 0 ≤ l) (l1 : l < 4294967296) (u0 : 0 ≤ u) (u1 : u < 4294967296) : (u * 4294967296 + l).toNat < 18446744073709551616 := by omega

theorem Own.drew1 {w : World} {g : Nat} {cs : List Value} (h : Own w g cs) : Own w.drew g cs := h
set_option maxHeartbeats 2000000 in
theorem MeterRead_any (v : Value) (xs : List Int) (w : World) (h : Sl w v 1 xs.length (xs.map U32)) (hw : ∀ x ∈ xs, W32 x) :
    Calls Tryz.prog 36 #[v] w (Grew (T2 (readM xs).v (I (readE xs))) w) := by
  obtain ⟨a, cap, rfl, hn, hl, h0, hr⟩ := h
  clear hl h0
  by_cases h5 : xs.length = 5
  · obtain ⟨b, off, rfl, hb, hcell⟩ := hr.resolve_left (by omega)
    match xs, h5 with
    | [x0, x1, x2, x3, x4], _ =>
    have e0 := hcell 0 (by simp)
    have e1 := hcell 1 (by simp)
    have e2 := hcell 2 (by simp)
    have e3 := hcell 3 (by simp)
    have e4 := hcell 4 (by simp)
    simp only [Nat.add_zero, List.map_cons, List.map_nil, List.getD_cons_zero, List.getD_cons_succ] at e0 e1 e2 e3 e4
    obtain ⟨a0, a1⟩ := hw x0 (by simp)
    obtain ⟨n0, n1⟩ := hw x1 (by simp)
    obtain ⟨p0, p1⟩ := hw x2 (by simp)
    obtain ⟨l0, l1⟩ := hw x3 (by simp)
    obtain ⟨u0, u1⟩ := hw x4 (by simp)
    have hbl := raw_b l0 (by omega) u0 (by omega)
    have HR : readOf [x0, x1, x2, x3, x4] = rawM x0 x1 x2 x3 x4 := rfl
    have M := Lib.hid (fun W => MeterMay_any (x1 % 256) (x1 / 256 % 256) x0 x2 (x4 * 4294967296 + x3).toNat (x1 / 65536 % 256) (x1 / 16777216) W hbl)
    have hcast := Lib.hid (show (((x4 * 4294967296 + x3).toNat : Nat) : Int) = x4 * 4294967296 + x3 by omega)
    have hE : readE [x0, x1, x2, x3, x4] = if mayM (x1 % 256) (x1 / 256 % 256) x0 x2 (x4 * 4294967296 + x3).toNat (x1 / 65536 % 256) (x1 / 16777216) then 0 else 5 := rfl
    have hM : readM [x0, x1, x2, x3, x4] = if readE [x0, x1, x2, x3, x4] = 0 then rawM x0 x1 x2 x3 x4 else ⟨0, 0, 0, 0, 0, 0, 0⟩ := rfl
    clear hcell hr hw hn
    simp only [MM.v] at M
    rw [hcast.out] at M
    cases hm : mayM (x1 % 256) (x1 / 256 % 256) x0 x2 (x4 * 4294967296 + x3).toNat (x1 / 65536 % 256) (x1 / 16777216)
    · have e5 : readE [x0, x1, x2, x3, x4] = 5 := by rw [hE, hm]; rfl
      have e6 : readM [x0, x1, x2, x3, x4] = ⟨0, 0, 0, 0, 0, 0, 0⟩ := by rw [hM, e5]; rfl
      rw [e5, e6]
      rw [hm] at M
      clear hE hM HR hm e5 e6
      go_enter Tryz.func36, Tryz.ntmps36
      go_wp2
      go_region
      go_wp2_with fail
      refine (M.out _).mono ?_
      rintro e w1 ⟨rfl, k1⟩
      have dO := ((Own.new rfl [I 0, I 0, I 0, I 0, .int .u64 0, I 0, I 0] 40).alloc _).drew1.below k1
      have d0 := dO.cell 0 (by simp)
      have df0 := dO.frozen 0
      have d1 := dO.cell 1 (by simp)
      have df1 := dO.frozen 1
      have d2 := dO.cell 2 (by simp)
      have df2 := dO.frozen 2
      have d3 := dO.cell 3 (by simp)
      have df3 := dO.frozen 3
      have d4 := dO.cell 4 (by simp)
      have df4 := dO.frozen 4
      have d5 := dO.cell 5 (by simp)
      have df5 := dO.frozen 5
      have d6 := dO.cell 6 (by simp)
      have df6 := dO.frozen 6
      simp only [Nat.zero_add, List.getD_cons_zero, List.getD_cons_succ] at d0 d1 d2 d3 d4 d5 d6
      clear dO
      have cO := (Own.new (g := w.heap.size + 1) (by simp) [I (x1 % 256), I (x1 / 256 % 256), I x0, I x2, .int .u64 (x4 * 4294967296 + x3), I (x1 / 65536 % 256), I (x1 / 16777216)] 40).drew1.below k1
      have c0 := cO.cell 0 (by simp)
      have cf0 := cO.frozen 0
      have c1 := cO.cell 1 (by simp)
      have cf1 := cO.frozen 1
      have c2 := cO.cell 2 (by simp)
      have cf2 := cO.frozen 2
      have c3 := cO.cell 3 (by simp)
      have cf3 := cO.frozen 3
      have c4 := cO.cell 4 (by simp)
      have cf4 := cO.frozen 4
      have c5 := cO.cell 5 (by simp)
      have cf5 := cO.frozen 5
      have c6 := cO.cell 6 (by simp)
      have cf6 := cO.frozen 6
      simp only [Nat.zero_add, List.getD_cons_zero, List.getD_cons_succ] at c0 c1 c2 c3 c4 c5 c6
      clear cO
      have k := below_box (below_box ((drewN_below (Below.refl _ _) 1).trans k1))
      clear k1
      have r1 := set_same
      have r2 := set_off
      have r3 := set_blk
      go_wp2
      exact bodyPost_ret (v := T2 (MM.mk 0 0 0 0 0 0 0).v (I 5)) (by simp [results, Tryz.results36, go_sem, *]; try omega) rfl (Grew.intro rfl (by repeat first | with_reducible assumption | with_reducible exact Below.refl _ _ | with_reducible refine Below.setCell ?_ (by first | exact Nat.le_refl _ | exact Below.size (by assumption) | (simp; done) | (simp; omega) | omega) _ | with_reducible refine Below.alloc ?_ (by first | exact Nat.le_refl _ | exact Below.size (by assumption) | (simp; done) | (simp; omega) | omega) _ | with_reducible refine drewN_below ?_ _ | with_reducible refine Below.drew ?_))
    · have e5 : readE [x0, x1, x2, x3, x4] = 0 := by rw [hE, hm]; rfl
      have e6 : readM [x0, x1, x2, x3, x4] = rawM x0 x1 x2 x3 x4 := by rw [hM, e5]; rfl
      rw [e5, e6]
      rw [hm] at M
      clear hE hM HR hm e5 e6
      unfold rawM
      go_enter Tryz.func36, Tryz.ntmps36
      go_wp2
      go_region
      go_wp2_with fail
      refine (M.out _).mono ?_
      rintro e w1 ⟨rfl, k1⟩
      have dO := ((Own.new rfl [I 0, I 0, I 0, I 0, .int .u64 0, I 0, I 0] 40).alloc _).drew1.below k1
      have d0 := dO.cell 0 (by simp)
      have df0 := dO.frozen 0
      have d1 := dO.cell 1 (by simp)
      have df1 := dO.frozen 1
      have d2 := dO.cell 2 (by simp)
      have df2 := dO.frozen 2
      have d3 := dO.cell 3 (by simp)
      have df3 := dO.frozen 3
      have d4 := dO.cell 4 (by simp)
      have df4 := dO.frozen 4
      have d5 := dO.cell 5 (by simp)
      have df5 := dO.frozen 5
      have d6 := dO.cell 6 (by simp)
      have df6 := dO.frozen 6
      simp only [Nat.zero_add, List.getD_cons_zero, List.getD_cons_succ] at d0 d1 d2 d3 d4 d5 d6
      clear dO
      have cO := (Own.new (g := w.heap.size + 1) (by simp) [I (x1 % 256), I (x1 / 256 % 256), I x0, I x2, .int .u64 (x4 * 4294967296 + x3), I (x1 / 65536 % 256), I (x1 / 16777216)] 40).drew1.below k1
      have c0 := cO.cell 0 (by simp)
      have cf0 := cO.frozen 0
      have c1 := cO.cell 1 (by simp)
      have cf1 := cO.frozen 1
      have c2 := cO.cell 2 (by simp)
      have cf2 := cO.frozen 2
      have c3 := cO.cell 3 (by simp)
      have cf3 := cO.frozen 3
      have c4 := cO.cell 4 (by simp)
      have cf4 := cO.frozen 4
      have c5 := cO.cell 5 (by simp)
      have cf5 := cO.frozen 5
      have c6 := cO.cell 6 (by simp)
      have cf6 := cO.frozen 6
      simp only [Nat.zero_add, List.getD_cons_zero, List.getD_cons_succ] at c0 c1 c2 c3 c4 c5 c6
      clear cO
      have k := below_box (below_box ((drewN_below (Below.refl _ _) 1).trans k1))
      clear k1
      have r1 := set_same
      have r2 := set_off
      have r3 := set_blk
      go_wp2
      exact bodyPost_ret (v := T2 (MM.mk (x1 % 256) (x1 / 256 % 256) x0 x2 (x4 * 4294967296 + x3).toNat (x1 / 65536 % 256) (x1 / 16777216)).v (I 0)) (by simp [results, Tryz.results36, go_sem, *]; try omega) rfl (Grew.intro rfl (by repeat first | with_reducible assumption | with_reducible exact Below.refl _ _ | with_reducible refine Below.setCell ?_ (by first | exact Nat.le_refl _ | exact Below.size (by assumption) | (simp; done) | (simp; omega) | omega) _ | with_reducible refine Below.alloc ?_ (by first | exact Nat.le_refl _ | exact Below.size (by assumption) | (simp; done) | (simp; omega) | omega) _ | with_reducible refine drewN_below ?_ _ | with_reducible refine Below.drew ?_))
  · have e5 : readE xs = 1 := by simp [readE, h5]
    have e6 : readM xs = ⟨0, 0, 0, 0, 0, 0, 0⟩ := by simp [readM, e5]
    have h5' : ((xs.length : Int) != 5) = true := by simp; omega
    rw [e5, e6]
    clear e5 e6 hr hw h5
    go_enter Tryz.func36, Tryz.ntmps36
    go_wp2
    exact bodyPost_ret (v := T2 (MM.mk 0 0 0 0 0 0 0).v (I 1)) (by simp [results, Tryz.results36, go_sem]) rfl (Grew.intro rfl (by repeat first | exact Below.refl _ _ | assumption | refine drewN_below ?_ _ | refine Below.alloc ?_ (by first | exact Nat.le_refl _ | exact Below.size (by assumption) | (simp; done) | (simp; omega) | omega) _ | refine Below.setCell ?_ (by first | exact Nat.le_refl _ | (simp; done) | (simp; omega) | omega) _))

theorem or64 {l u : Int} (l0 : 0 ≤ l) (l1 : l < 4294967296) (u0 : 0 ≤ u) (u1 : u < 4294967296) : bits .or .u64 l (u * 4294967296) = u * 4294967296 + l := by
  obtain ⟨l, rfl⟩ := Int.eq_ofNat_of_zero_le l0
  obtain ⟨u, rfl⟩ := Int.eq_ofNat_of_zero_le u0
  have e : (u : Int) * 4294967296 = ((u * 2 ^ 32 : Nat) : Int) := by omega
  rw [e, u64_or_nat _ _ (by omega) (by omega), Nat.or_comm, ← Nat.shiftLeft_eq, ← Nat.shiftLeft_add_eq_or_of_lt (show l < 2 ^ 32 by omega), Nat.shiftLeft_eq]
  omega
/-- the meter's cells behind k fields -/
def cellsK (n a h b : Int) (k : Nat) : List Value := [I (if 0 < k then n % 256 else 0), I (if 1 < k then n / 256 % 256 else 0), I a, I h, .int .u64 b, I (if 2 < k then n / 65536 % 256 else 0), I (if 3 < k then n / 16777216 else 0)]
def ptrsK (g : Nat) : List Value := [.pointer (some ⟨g, 0, none⟩), .pointer (some ⟨g, 1, none⟩), .pointer (some ⟨g, 5, none⟩), .pointer (some ⟨g, 6, none⟩)]

set_option maxHeartbeats 2000000 in
theorem ReadM_any (v : Value) (xs : List Int) (w : World) (h : Sl w v 1 xs.length (xs.map U32)) (hw : ∀ x ∈ xs, W32 x) :
    Calls Tryz.prog 21 #[v] w (Grew (T2 (readM xs).v (I (readE xs))) w) := by
  obtain ⟨a, cap, rfl, hn, hl, h0, hr⟩ := h
  clear hl h0
  by_cases h5 : xs.length = 5
  · obtain ⟨b, off, rfl, hb, hcell⟩ := hr.resolve_left (by omega)
    match xs, h5 with
    | [x0, x1, x2, x3, x4], _ =>
    have e0 := hcell 0 (by simp)
    have e1 := hcell 1 (by simp)
    have e2 := hcell 2 (by simp)
    have e3 := hcell 3 (by simp)
    have e4 := hcell 4 (by simp)
    simp only [Nat.add_zero, List.map_cons, List.map_nil, List.getD_cons_zero, List.getD_cons_succ] at e0 e1 e2 e3 e4
    obtain ⟨a0, a1⟩ := hw x0 (by simp)
    obtain ⟨n0, n1⟩ := hw x1 (by simp)
    obtain ⟨p0, p1⟩ := hw x2 (by simp)
    obtain ⟨l0, l1⟩ := hw x3 (by simp)
    obtain ⟨u0, u1⟩ := hw x4 (by simp)
    have hbl := raw_b l0 (by omega) u0 (by omega)
    have hO := or64 l0 (by omega) u0 (by omega)
    have M := Lib.hid (fun W => may_meter (x1 % 256) (x1 / 256 % 256) x0 x2 (x4 * 4294967296 + x3).toNat (x1 / 65536 % 256) (x1 / 16777216) W hbl)
    have hcast := Lib.hid (show (((x4 * 4294967296 + x3).toNat : Nat) : Int) = x4 * 4294967296 + x3 by omega)
    have hE := Lib.hid (show readE [x0, x1, x2, x3, x4] = if mayM (x1 % 256) (x1 / 256 % 256) x0 x2 (x4 * 4294967296 + x3).toNat (x1 / 65536 % 256) (x1 / 16777216) then 0 else 5 from rfl)
    have hM := Lib.hid (show readM [x0, x1, x2, x3, x4] = if readE [x0, x1, x2, x3, x4] = 0 then rawM x0 x1 x2 x3 x4 else ⟨0, 0, 0, 0, 0, 0, 0⟩ from rfl)
    clear hcell hr hw hn
    simp only [MM.v] at M
    rw [hcast.out] at M
    go_enter Tryz.func21, Tryz.ntmps21
    go_wp2
    go_region
    go_wp2
    have hZ := ((((Own.new (w := w) rfl [I 0, I 0, I 0, I 0, .int .u64 0, I 0, I 0] 40).alloc (.cells #[I 0, I 0, I x0, I x2, .int .u64 (x4 * 4294967296 + x3), I 0, I 0] 40)).alloc (.cells (ptrsK (w.heap.size + 1)).toArray 66)).drew1)
    have hC := (((Own.new (w := w.alloc (.cells #[I 0, I 0, I 0, I 0, .int .u64 0, I 0, I 0] 40)) (g := w.heap.size + 1) (by simp) [I 0, I 0, I x0, I x2, .int .u64 (x4 * 4294967296 + x3), I 0, I 0] 40).alloc (.cells (ptrsK (w.heap.size + 1)).toArray 66)).drew1)
    have hP := (Own.new (w := (w.alloc (.cells #[I 0, I 0, I 0, I 0, .int .u64 0, I 0, I 0] 40)).alloc (.cells #[I 0, I 0, I x0, I x2, .int .u64 (x4 * 4294967296 + x3), I 0, I 0] 40)) (g := w.heap.size + 2) (by simp) (ptrsK (w.heap.size + 1)) 66).drew1
    go_loopw [37] (fun i wr => ∃ k : Nat, k ≤ 4 ∧ i = I k ∧ Hid (Own wr w.heap.size [I 0, I 0, I 0, I 0, .int .u64 0, I 0, I 0]) ∧ Hid (Own wr (w.heap.size + 1) (cellsK x1 x0 x2 (x4 * 4294967296 + x3) k)) ∧ Hid (Own wr (w.heap.size + 2) (ptrsK (w.heap.size + 1))) ∧ Below w.heap.size w wr) (fun i _ => 4 - (intOf i).toNat)
    case atStart => exact ⟨0, by omega, rfl, hZ, hC, hP, (by repeat first | exact Below.refl _ _ | assumption | refine drewN_below ?_ _ | refine Below.alloc ?_ (by first | exact Nat.le_refl _ | exact Below.size (by assumption) | (simp; done) | (simp; omega) | omega) _ | refine Below.setCell ?_ (by first | exact Nat.le_refl _ | (simp; done) | (simp; omega) | omega) _)⟩
    case round =>
      obtain ⟨k, hk, rfl, hZ, hC, hP, hbw⟩ := hrel
      clear hO
      have e1w := (hbw.cell (p := ⟨b, off + 1, none⟩) hb).trans e1
      have qO := (show Own wr (w.heap.size + 2) [.pointer (some ⟨w.heap.size + 1, 0, none⟩), .pointer (some ⟨w.heap.size + 1, 1, none⟩), .pointer (some ⟨w.heap.size + 1, 5, none⟩), .pointer (some ⟨w.heap.size + 1, 6, none⟩)] from hP.out)
      have q0 := qO.cell 0 (by simp)
      have qf0 := qO.frozen 0
      have q1 := qO.cell 1 (by simp)
      have qf1 := qO.frozen 1
      have q2 := qO.cell 2 (by simp)
      have qf2 := qO.frozen 2
      have q3 := qO.cell 3 (by simp)
      have qf3 := qO.frozen 3
      simp only [Nat.zero_add, List.getD_cons_zero, List.getD_cons_succ] at q0 q1 q2 q3
      clear qO
      have hcs : k = 0 ∨ k = 1 ∨ k = 2 ∨ k = 3 ∨ k = 4 := by omega
      rcases hcs with rfl | rfl | rfl | rfl | rfl
      · skip
        have cO := (show Own wr (w.heap.size + 1) [I 0, I 0, I x0, I x2, .int .u64 (x4 * 4294967296 + x3), I 0, I 0] from hC.out)
        have c0 := cO.cell 0 (by simp)
        have cf0 := cO.frozen 0
        have c1 := cO.cell 1 (by simp)
        have cf1 := cO.frozen 1
        have c2 := cO.cell 2 (by simp)
        have cf2 := cO.frozen 2
        have c3 := cO.cell 3 (by simp)
        have cf3 := cO.frozen 3
        have c4 := cO.cell 4 (by simp)
        have cf4 := cO.frozen 4
        have c5 := cO.cell 5 (by simp)
        have cf5 := cO.frozen 5
        have c6 := cO.cell 6 (by simp)
        have cf6 := cO.frozen 6
        simp only [Nat.zero_add, List.getD_cons_zero, List.getD_cons_succ] at c0 c1 c2 c3 c4 c5 c6
        clear cO
        go_wp2
        exact ⟨⟨1, by omega, rfl, hZ.out.other (by show w.heap.size + 1 ≠ w.heap.size; omega) _, hC.out.set 0 (I (x1 % 256)), hP.out.other (by show w.heap.size + 1 ≠ w.heap.size + 2; omega) _, hbw.setCell (by show w.heap.size ≤ w.heap.size + 1; omega) _⟩, by simp [intOf]⟩
      · skip
        have cO := (show Own wr (w.heap.size + 1) [I (x1 % 256), I 0, I x0, I x2, .int .u64 (x4 * 4294967296 + x3), I 0, I 0] from hC.out)
        have c0 := cO.cell 0 (by simp)
        have cf0 := cO.frozen 0
        have c1 := cO.cell 1 (by simp)
        have cf1 := cO.frozen 1
        have c2 := cO.cell 2 (by simp)
        have cf2 := cO.frozen 2
        have c3 := cO.cell 3 (by simp)
        have cf3 := cO.frozen 3
        have c4 := cO.cell 4 (by simp)
        have cf4 := cO.frozen 4
        have c5 := cO.cell 5 (by simp)
        have cf5 := cO.frozen 5
        have c6 := cO.cell 6 (by simp)
        have cf6 := cO.frozen 6
        simp only [Nat.zero_add, List.getD_cons_zero, List.getD_cons_succ] at c0 c1 c2 c3 c4 c5 c6
        clear cO
        go_wp2
        exact ⟨⟨2, by omega, rfl, hZ.out.other (by show w.heap.size + 1 ≠ w.heap.size; omega) _, hC.out.set 1 (I (x1 / 256 % 256)), hP.out.other (by show w.heap.size + 1 ≠ w.heap.size + 2; omega) _, hbw.setCell (by show w.heap.size ≤ w.heap.size + 1; omega) _⟩, by simp [intOf]⟩
      · skip
        have cO := (show Own wr (w.heap.size + 1) [I (x1 % 256), I (x1 / 256 % 256), I x0, I x2, .int .u64 (x4 * 4294967296 + x3), I 0, I 0] from hC.out)
        have c0 := cO.cell 0 (by simp)
        have cf0 := cO.frozen 0
        have c1 := cO.cell 1 (by simp)
        have cf1 := cO.frozen 1
        have c2 := cO.cell 2 (by simp)
        have cf2 := cO.frozen 2
        have c3 := cO.cell 3 (by simp)
        have cf3 := cO.frozen 3
        have c4 := cO.cell 4 (by simp)
        have cf4 := cO.frozen 4
        have c5 := cO.cell 5 (by simp)
        have cf5 := cO.frozen 5
        have c6 := cO.cell 6 (by simp)
        have cf6 := cO.frozen 6
        simp only [Nat.zero_add, List.getD_cons_zero, List.getD_cons_succ] at c0 c1 c2 c3 c4 c5 c6
        clear cO
        go_wp2
        exact ⟨⟨3, by omega, rfl, hZ.out.other (by show w.heap.size + 1 ≠ w.heap.size; omega) _, hC.out.set 5 (I (x1 / 65536 % 256)), hP.out.other (by show w.heap.size + 1 ≠ w.heap.size + 2; omega) _, hbw.setCell (by show w.heap.size ≤ w.heap.size + 1; omega) _⟩, by simp [intOf]⟩
      · skip
        have cO := (show Own wr (w.heap.size + 1) [I (x1 % 256), I (x1 / 256 % 256), I x0, I x2, .int .u64 (x4 * 4294967296 + x3), I (x1 / 65536 % 256), I 0] from hC.out)
        have c0 := cO.cell 0 (by simp)
        have cf0 := cO.frozen 0
        have c1 := cO.cell 1 (by simp)
        have cf1 := cO.frozen 1
        have c2 := cO.cell 2 (by simp)
        have cf2 := cO.frozen 2
        have c3 := cO.cell 3 (by simp)
        have cf3 := cO.frozen 3
        have c4 := cO.cell 4 (by simp)
        have cf4 := cO.frozen 4
        have c5 := cO.cell 5 (by simp)
        have cf5 := cO.frozen 5
        have c6 := cO.cell 6 (by simp)
        have cf6 := cO.frozen 6
        simp only [Nat.zero_add, List.getD_cons_zero, List.getD_cons_succ] at c0 c1 c2 c3 c4 c5 c6
        clear cO
        go_wp2
        exact ⟨⟨4, by omega, rfl, hZ.out.other (by show w.heap.size + 1 ≠ w.heap.size; omega) _, hC.out.set 6 (I (x1 / 16777216)), hP.out.other (by show w.heap.size + 1 ≠ w.heap.size + 2; omega) _, hbw.setCell (by show w.heap.size ≤ w.heap.size + 1; omega) _⟩, by simp [intOf]⟩
      · have hC' : Own wr (w.heap.size + 1) [I (x1 % 256), I (x1 / 256 % 256), I x0, I x2, .int .u64 (x4 * 4294967296 + x3), I (x1 / 65536 % 256), I (x1 / 16777216)] := hC.out
        have cO := hC'
        have c0 := cO.cell 0 (by simp)
        have cf0 := cO.frozen 0
        have c1 := cO.cell 1 (by simp)
        have cf1 := cO.frozen 1
        have c2 := cO.cell 2 (by simp)
        have cf2 := cO.frozen 2
        have c3 := cO.cell 3 (by simp)
        have cf3 := cO.frozen 3
        have c4 := cO.cell 4 (by simp)
        have cf4 := cO.frozen 4
        have c5 := cO.cell 5 (by simp)
        have cf5 := cO.frozen 5
        have c6 := cO.cell 6 (by simp)
        have cf6 := cO.frozen 6
        simp only [Nat.zero_add, List.getD_cons_zero, List.getD_cons_succ] at c0 c1 c2 c3 c4 c5 c6
        clear cO
        go_wp2_with fail
        refine (M.out _).mono ?_
        rintro e w3 ⟨rfl, k3⟩
        clear c0 c1 c2 c3 c4 c5 c6 cf0 cf1 cf2 cf3 cf4 cf5 cf6 q0 q1 q2 q3 qf0 qf1 qf2 qf3 e1w
        have dO := hZ.out.below k3
        have d0 := dO.cell 0 (by simp)
        have df0 := dO.frozen 0
        have d1 := dO.cell 1 (by simp)
        have df1 := dO.frozen 1
        have d2 := dO.cell 2 (by simp)
        have df2 := dO.frozen 2
        have d3 := dO.cell 3 (by simp)
        have df3 := dO.frozen 3
        have d4 := dO.cell 4 (by simp)
        have df4 := dO.frozen 4
        have d5 := dO.cell 5 (by simp)
        have df5 := dO.frozen 5
        have d6 := dO.cell 6 (by simp)
        have df6 := dO.frozen 6
        simp only [Nat.zero_add, List.getD_cons_zero, List.getD_cons_succ] at d0 d1 d2 d3 d4 d5 d6
        clear dO
        have fO := hC'.below k3
        have f0 := fO.cell 0 (by simp)
        have ff0 := fO.frozen 0
        have f1 := fO.cell 1 (by simp)
        have ff1 := fO.frozen 1
        have f2 := fO.cell 2 (by simp)
        have ff2 := fO.frozen 2
        have f3 := fO.cell 3 (by simp)
        have ff3 := fO.frozen 3
        have f4 := fO.cell 4 (by simp)
        have ff4 := fO.frozen 4
        have f5 := fO.cell 5 (by simp)
        have ff5 := fO.frozen 5
        have f6 := fO.cell 6 (by simp)
        have ff6 := fO.frozen 6
        simp only [Nat.zero_add, List.getD_cons_zero, List.getD_cons_succ] at f0 f1 f2 f3 f4 f5 f6
        clear fO
        have kk := hbw.trans (k3.mono hbw.size)
        clear hC hZ hP hC' k3 hbw M
        have r1 := set_same
        have r2 := set_off
        have r3 := set_blk
        cases hm : mayM (x1 % 256) (x1 / 256 % 256) x0 x2 (x4 * 4294967296 + x3).toNat (x1 / 65536 % 256) (x1 / 16777216)
        · have e5 : readE [x0, x1, x2, x3, x4] = 5 := by rw [hE.out, hm]; rfl
          have e6 : readM [x0, x1, x2, x3, x4] = ⟨0, 0, 0, 0, 0, 0, 0⟩ := by rw [hM.out, e5]; rfl
          have E5 := Lib.hid e5
          have E6 := Lib.hid e6
          clear e5 e6 hE hM
          go_wp2
          rw [E5.out, E6.out]
          exact bodyPost_ret (v := T2 (MM.mk 0 0 0 0 0 0 0).v (I 5)) (by simp [results, Tryz.results21, go_sem, *]; try omega) rfl (Grew.intro rfl (by repeat first | with_reducible assumption | with_reducible exact Below.refl _ _ | with_reducible refine Below.setCell ?_ (by first | exact Nat.le_refl _ | exact Below.size (by assumption) | (simp; done) | (simp; omega) | omega) _ | with_reducible refine Below.alloc ?_ (by first | exact Nat.le_refl _ | exact Below.size (by assumption) | (simp; done) | (simp; omega) | omega) _ | with_reducible refine drewN_below ?_ _ | with_reducible refine Below.drew ?_))
        · have e5 : readE [x0, x1, x2, x3, x4] = 0 := by rw [hE.out, hm]; rfl
          have e6 : readM [x0, x1, x2, x3, x4] = rawM x0 x1 x2 x3 x4 := by rw [hM.out, e5]; rfl
          have E5 := Lib.hid e5
          have E6 := Lib.hid e6
          clear e5 e6 hE hM
          go_wp2
          rw [E5.out, E6.out]
          unfold rawM
          exact bodyPost_ret (v := T2 (MM.mk (x1 % 256) (x1 / 256 % 256) x0 x2 (x4 * 4294967296 + x3).toNat (x1 / 65536 % 256) (x1 / 16777216)).v (I 0)) (by simp [results, Tryz.results21, go_sem, *]; try omega) rfl (Grew.intro rfl (by repeat first | with_reducible assumption | with_reducible exact Below.refl _ _ | with_reducible refine Below.setCell ?_ (by first | exact Nat.le_refl _ | exact Below.size (by assumption) | (simp; done) | (simp; omega) | omega) _ | with_reducible refine Below.alloc ?_ (by first | exact Nat.le_refl _ | exact Below.size (by assumption) | (simp; done) | (simp; omega) | omega) _ | with_reducible refine drewN_below ?_ _ | with_reducible refine Below.drew ?_))
  · have e5 : readE xs = 1 := by simp [readE, h5]
    have e6 : readM xs = ⟨0, 0, 0, 0, 0, 0, 0⟩ := by simp [readM, e5]
    have h5' : ((xs.length : Int) != 5) = true := by simp; omega
    rw [e5, e6]
    clear e5 e6 hr hw h5
    go_enter Tryz.func21, Tryz.ntmps21
    go_wp2
    exact bodyPost_ret (v := T2 (MM.mk 0 0 0 0 0 0 0).v (I 1)) (by simp [results, Tryz.results21, go_sem]) rfl (Grew.intro rfl (by repeat first | exact Below.refl _ _ | assumption | refine drewN_below ?_ _ | refine Below.alloc ?_ (by first | exact Nat.le_refl _ | exact Below.size (by assumption) | (simp; done) | (simp; omega) | omega) _ | refine Below.setCell ?_ (by first | exact Nat.le_refl _ | (simp; done) | (simp; omega) | omega) _))
end Go.Proofs.YtmciccnmpoijdaaGreatDoor
