/- two meters held against each other · meter.Words and its reference · slot.Load, slot.Store and their references -/
import Derived.Test.YtmciccnmpoijdaaGreatDoorMeter
import Derived.Test.YtmciccnmpoijdaaGreatDoorPk09
import Derived.Test.YtmciccnmpoijdaaGreatDoorPk06
import Derived.Test.YtmciccnmpoijdaaGreatDoorPk04
import Derived.Test.YtmciccnmpoijdaaGreatDoorApi
import Derived.Deep.RegionWith
namespace Go.Proofs.YtmciccnmpoijdaaGreatDoor
open Go.RowKit
set_option maxRecDepth 20000
def eqM (x y : MM) : Bool := decide (x.me = y.me) && (decide (x.rev = y.rev) && (decide (x.cr = y.cr) && (decide (x.h = y.h) && (decide (x.b = y.b) && (decide (x.bad = y.bad) && decide (x.lk = y.lk))))))
theorem eqM_true {x y : MM} : eqM x y = true ↔ x = y := by
  obtain ⟨x1, x2, x3, x4, x5, x6, x7⟩ := x
  obtain ⟨y1, y2, y3, y4, y5, y6, y7⟩ := y
  simp [eqM]
theorem guardMM : Tryz.prog.eqGuardType Tryz.prog.depth 40 = false := by kernel_rfl
theorem eqlWin (h h' : Int) (b b' : Nat) (w : World) : (Op.equalIn 9999 38 (.agg #[I h, .int .u64 b]) (.agg #[I h', .int .u64 b'])).run Tryz.prog w = .ok (decide (h = h') && decide (b = b')) w := by
  have hpW : Tryz.prog.stoodInHeld 38 = false := by kernel_rfl
  have htW : Tryz.prog.underlying 38 = some (.struct (Tryz.prog.fieldsOf 38)) := by kernel_rfl
  rw [run_equalIn_struct w 9998 38 _ _ htW hpW]
  simp only [Program.fieldsOf, Tryz.underlying38]
  rw [eqF_int w (by decide) Tryz.underlying3 rfl rfl, eqF_int w (by decide) Tryz.underlying36 rfl rfl, eqF_nil]
  by_cases h1 : h = h'
  · by_cases h2 : b = b'
    · simp [h1, h2]
    · simp [h1, h2]; omega
  · simp [h1]
set_option maxRecDepth 200000 in
theorem eqlMM_run (x y : MM) (w : World) : (binOp .eql 40 x.v y.v).run Tryz.prog w = .ok (.bool (eqM x y)) w := by
  have hpMeter : Tryz.prog.stoodInHeld 40 = false := by kernel_rfl
  have htMeter : Tryz.prog.underlying 40 = some (.struct (Tryz.prog.fieldsOf 40)) := by kernel_rfl
  obtain ⟨x1, x2, x3, x4, x5, x6, x7⟩ := x
  obtain ⟨y1, y2, y3, y4, y5, y6, y7⟩ := y
  rw [run_eql_struct, run_equalIn_struct w 9999 40 _ _ htMeter hpMeter]
  simp only [Program.fieldsOf, Tryz.underlying40]
  rw [eqF_int w (by decide) Tryz.underlying3 rfl rfl, eqF_int w (by decide) Tryz.underlying3 rfl rfl, eqF_int w (by decide) Tryz.underlying3 rfl rfl,
    eqF_sub w (u := .agg #[I x4, .int .u64 x5]) (v := .agg #[I y4, .int .u64 y5]) (r := decide (x4 = y4) && decide (x5 = y5)) (by decide) (by kernel_rfl) (by kernel_rfl) (eqlWin x4 y4 x5 y5 w),
    eqF_int w (by decide) Tryz.underlying3 rfl rfl, eqF_int w (by decide) Tryz.underlying3 rfl rfl, eqF_nil]
  unfold eqM
  simp only [Bool.and_eq_true, decide_eq_true_eq]
  (repeat' split) <;> simp_all [Result.andThen]
end Go.Proofs.YtmciccnmpoijdaaGreatDoor
namespace Go.Proofs.YtmciccnmpoijdaaGreatDoor
open Go.RowKit
set_option maxRecDepth 20000

theorem or32 (x y k : Nat) (hy : y < 2 ^ k) (hb : x * 2 ^ k + y < 4294967296) : bits .or .u32 ((x * 2 ^ k : Nat) : Int) (y : Int) = ((x * 2 ^ k + y : Nat) : Int) := by
  rw [u32_or_nat _ _ (by omega) (by omega), ← Nat.shiftLeft_eq, Nat.shiftLeft_add_eq_or_of_lt hy]
def flagsM (me rev bad lk : Int) : Int := me + 256 * (rev + 256 * (bad + 256 * lk))
theorem flags_or {me rev bad lk : Int} (a1 : 0 ≤ me) (a2 : me ≤ 49) (a3 : 0 ≤ rev) (a4 : rev ≤ 15) (a7 : 0 ≤ bad) (a8 : bad ≤ 4) (a9 : 0 ≤ lk) (a10 : lk ≤ 30) :
    bits .or .u32 (bits .or .u32 (bits .or .u32 (lk * 16777216) (bad * 65536)) (rev * 256)) me = flagsM me rev bad lk := by
  obtain ⟨me, rfl⟩ := Int.eq_ofNat_of_zero_le a1
  obtain ⟨rev, rfl⟩ := Int.eq_ofNat_of_zero_le a3
  obtain ⟨bad, rfl⟩ := Int.eq_ofNat_of_zero_le a7
  obtain ⟨lk, rfl⟩ := Int.eq_ofNat_of_zero_le a9
  have e1 : bits .or .u32 ((lk : Int) * 16777216) ((bad : Int) * 65536) = ((lk * 256 + bad) * 2 ^ 16 : Nat) := by
    have := or32 lk (bad * 65536) 24 (by omega) (by omega)
    rw [show ((lk * 2 ^ 24 : Nat) : Int) = (lk : Int) * 16777216 by omega, show ((bad * 65536 : Nat) : Int) = (bad : Int) * 65536 by omega] at this
    rw [this]; omega
  have e2 : bits .or .u32 (((lk * 256 + bad) * 2 ^ 16 : Nat) : Int) ((rev : Int) * 256) = (((lk * 256 + bad) * 256 + rev) * 2 ^ 8 : Nat) := by
    have := or32 (lk * 256 + bad) (rev * 256) 16 (by omega) (by omega)
    rw [show ((rev * 256 : Nat) : Int) = (rev : Int) * 256 by omega] at this
    rw [this]; omega
  rw [e1, e2, or32 ((lk * 256 + bad) * 256 + rev) me 8 (by omega) (by omega)]
  unfold flagsM; omega
def wordsL (m : MM) : List Int := if m.ok then [m.cr, flagsM m.me m.rev m.bad m.lk, m.h, (m.b : Int) % 4294967296, (m.b : Int) / 4294967296] else []
def wordsE (m : MM) : Int := if m.ok then 0 else 5

set_option maxHeartbeats 2000000 in
theorem WordsM_any (m : MM) (w : World) (hb : m.b < 18446744073709551616) : Calls Tryz.prog 33 #[m.v] w (GrewSl2 1 (wordsL m).length ((wordsL m).map U32) (wordsE m) w) := by
  obtain ⟨me, rev, cr, h, b, bad, lk⟩ := m
  simp only at hb
  have M := Lib.hid (fun W => may_meter me rev cr h b bad lk W hb)
  cases hm : mayM me rev cr h b bad lk
  · have e1 : wordsL ⟨me, rev, cr, h, b, bad, lk⟩ = [] := by simp [wordsL, MM.ok, hm]
    have e2 : wordsE ⟨me, rev, cr, h, b, bad, lk⟩ = 5 := by simp [wordsE, MM.ok, hm]
    rw [e1, e2]
    rw [hm] at M
    clear e1 e2 hm
    go_enter Tryz.func33, Tryz.ntmps33
    go_wp2_with fail
    refine (M.out _).mono ?_
    rintro e w1 ⟨rfl, k1⟩
    have k := below_box k1
    clear k1
    go_wp2
    go_ret2
    exact ⟨_, rfl, Sl.nil _ _, k⟩
  · obtain ⟨⟨a1, a2, a3, a4, a5, a6, a7, a8, a9, a10, _⟩, hw⟩ := mayM_true.1 hm
    obtain ⟨h0, h1, _⟩ := mayW_bd hw
    have e1 : wordsL ⟨me, rev, cr, h, b, bad, lk⟩ = [cr, flagsM me rev bad lk, h, (b : Int) % 4294967296, (b : Int) / 4294967296] := by simp [wordsL, MM.ok, hm]
    have e2 : wordsE ⟨me, rev, cr, h, b, bad, lk⟩ = 0 := by simp [wordsE, MM.ok, hm]
    rw [e1, e2]
    rw [hm] at M
    clear e1 e2 hm hw
    have hO := flags_or a1 a2 a3 a4 a7 a8 a9 a10
    generalize flagsM me rev bad lk = fl at *
    go_enter Tryz.func33, Tryz.ntmps33
    go_wp2_with fail
    refine (M.out _).mono ?_
    rintro e w1 ⟨rfl, k1⟩
    obtain ⟨hc, hf⟩ := bcell k1
    have k := below_box k1
    clear k1
    go_wp2
    go_ret2
    exact ⟨_, rfl, Sl.of_owns (owns_lit w1 _ _ 1 5 rfl (by unfold maxLen; omega)) (by omega), k.alloc k.size _⟩

set_option maxHeartbeats 2000000 in
theorem MeterWorded_any (m : MM) (w : World) (hb : m.b < 18446744073709551616) : Calls Tryz.prog 52 #[m.v] w (GrewSl2 1 (wordsL m).length ((wordsL m).map U32) (wordsE m) w) := by
  obtain ⟨me, rev, cr, h, b, bad, lk⟩ := m
  simp only at hb
  have M := Lib.hid (fun W => MeterMay_any me rev cr h b bad lk W hb)
  cases hm : mayM me rev cr h b bad lk
  · have e1 : wordsL ⟨me, rev, cr, h, b, bad, lk⟩ = [] := by simp [wordsL, MM.ok, hm]
    have e2 : wordsE ⟨me, rev, cr, h, b, bad, lk⟩ = 5 := by simp [wordsE, MM.ok, hm]
    rw [e1, e2]
    rw [hm] at M
    clear e1 e2 hm
    go_enter Tryz.func52, Tryz.ntmps52
    go_wp2_with fail
    refine (M.out _).mono ?_
    rintro e w1 ⟨rfl, k1⟩
    have k := below_box k1
    clear k1
    go_wp2
    go_ret2
    exact ⟨_, rfl, Sl.nil _ _, k⟩
  · obtain ⟨⟨a1, a2, a3, a4, a5, a6, a7, a8, a9, a10, _⟩, hw⟩ := mayM_true.1 hm
    obtain ⟨h0, h1, _⟩ := mayW_bd hw
    have e1 : wordsL ⟨me, rev, cr, h, b, bad, lk⟩ = [cr, flagsM me rev bad lk, h, (b : Int) % 4294967296, (b : Int) / 4294967296] := by simp [wordsL, MM.ok, hm]
    have e2 : wordsE ⟨me, rev, cr, h, b, bad, lk⟩ = 0 := by simp [wordsE, MM.ok, hm]
    rw [e1, e2]
    rw [hm] at M
    clear e1 e2 hm hw
    unfold flagsM
    go_enter Tryz.func52, Tryz.ntmps52
    go_wp2_with fail
    refine (M.out _).mono ?_
    rintro e w1 ⟨rfl, k1⟩
    obtain ⟨hc, hf⟩ := bcell k1
    have k := below_box k1
    clear k1
    go_wp2
    go_ret2
    exact ⟨_, rfl, Sl.of_owns (owns_lit w1 _ _ 1 5 rfl (by unfold maxLen; omega)) (by omega), k.alloc k.size _⟩
end Go.Proofs.YtmciccnmpoijdaaGreatDoor
namespace Go.Proofs.YtmciccnmpoijdaaGreatDoor
open Go.RowKit
set_option maxRecDepth 20000

def markI (x : Int) : Int := if 3 < x then 0 else x
def nextI (m : Int) : Int := m % 3 + 1
/-- which slot counts, by the two marks; 2: neither -/
def slotOf (a b : Int) : Int :=
  if (1 ≤ a ∧ a ≤ 3) then (if 1 ≤ b ∧ b ≤ 3 then (if nextI a = b then 1 else 0) else 0) else (if 1 ≤ b ∧ b ≤ 3 then 1 else 2)
def newerI (a b : Int) : Int := if slotOf a b = 2 then -1 else slotOf a b

/-- a slice of words, with one word known -/
theorem sl_at {w : World} {v : Value} {xs : List Int} (h : Sl w v 1 xs.length (xs.map U32)) (k : Nat) (hk : k < xs.length) :
    ∃ b off cap, v = .slice (some ⟨b, off, none⟩) xs.length cap ∧ b < w.heap.size ∧ w.cell? ⟨b, off + k, none⟩ = some (U32 (xs.getD k 0)) := by
  obtain ⟨a, cap, rfl, hn, hl, h0, h⟩ := h
  rcases h with h | ⟨b, off, rfl, hb, hc⟩
  · omega
  · have := hc k (by simpa using hk)
    rw [getD_map' _ _ hk] at this
    exact ⟨b, off, cap, rfl, hb, this⟩

theorem mark0 (v : Value) (xs : List Int) (n : Int) (w : World) (h : Sl w v 1 xs.length (xs.map U32)) (h0 : 0 < xs.length) (hn : 0 ≤ n) (hn' : n ≤ 100) :
    Calls Tryz.prog 74 #[.agg #[v, I n], I 0] w (Grew (U32 (markI (xs.getD 0 0))) w) := by
  obtain ⟨b, off, cap, rfl, hb, hc⟩ := sl_at h 0 h0
  have hlen : xs.length ≤ 281474976710656 := by obtain ⟨_, _, _, h, _⟩ := h; exact h.1
  clear h
  generalize xs.getD 0 0 = x at *
  rw [Nat.add_zero] at hc
  by_cases hx : 3 < x
  · have hm : markI x = 0 := by simp [markI, hx]
    rw [hm]
    clear hm
    go_enter Tryz.func74, Tryz.ntmps74
    go_wp2
    go_ret
    exact Grew.intro rfl (by repeat first | exact Below.refl _ _ | assumption | refine drewN_below ?_ _ | refine Below.alloc ?_ (by first | exact Nat.le_refl _ | exact Below.size (by assumption) | (simp; done) | (simp; omega) | omega) _ | refine Below.setCell ?_ (by first | exact Nat.le_refl _ | (simp; done) | (simp; omega) | omega) _)
  · have hm : markI x = x := by simp [markI, hx]
    rw [hm]
    clear hm
    go_enter Tryz.func74, Tryz.ntmps74
    go_wp2
    go_ret
    exact Grew.intro rfl (by repeat first | exact Below.refl _ _ | assumption | refine drewN_below ?_ _ | refine Below.alloc ?_ (by first | exact Nat.le_refl _ | exact Below.size (by assumption) | (simp; done) | (simp; omega) | omega) _ | refine Below.setCell ?_ (by first | exact Nat.le_refl _ | (simp; done) | (simp; omega) | omega) _)

theorem mark1 (v : Value) (xs : List Int) (n : Nat) (w : World) (h : Sl w v 1 xs.length (xs.map U32)) (h0 : n + 1 < xs.length) (hn' : n ≤ 100) :
    Calls Tryz.prog 74 #[.agg #[v, I n], I 1] w (Grew (U32 (markI (xs.getD (n + 1) 0))) w) := by
  obtain ⟨b, off, cap, rfl, hb, hc⟩ := sl_at h (n + 1) h0
  have hlen : xs.length ≤ 281474976710656 := by obtain ⟨_, _, _, h, _⟩ := h; exact h.1
  clear h
  generalize xs.getD (n + 1) 0 = x at *
  have hi : ((n : Int) + 1) < (xs.length : Int) := by omega
  have hi0 : 0 ≤ ((n : Int) + 1) := by omega
  by_cases hx : 3 < x
  · have hm : markI x = 0 := by simp [markI, hx]
    rw [hm]
    clear hm
    go_enter Tryz.func74, Tryz.ntmps74
    go_wp2
    go_ret
    exact Grew.intro rfl (by repeat first | exact Below.refl _ _ | assumption | refine drewN_below ?_ _ | refine Below.alloc ?_ (by first | exact Nat.le_refl _ | exact Below.size (by assumption) | (simp; done) | (simp; omega) | omega) _ | refine Below.setCell ?_ (by first | exact Nat.le_refl _ | (simp; done) | (simp; omega) | omega) _)
  · have hm : markI x = x := by simp [markI, hx]
    rw [hm]
    clear hm
    go_enter Tryz.func74, Tryz.ntmps74
    go_wp2
    go_ret
    exact Grew.intro rfl (by repeat first | exact Below.refl _ _ | assumption | refine drewN_below ?_ _ | refine Below.alloc ?_ (by first | exact Nat.le_refl _ | exact Below.size (by assumption) | (simp; done) | (simp; omega) | omega) _ | refine Below.setCell ?_ (by first | exact Nat.le_refl _ | (simp; done) | (simp; omega) | omega) _)

theorem next_any (m : Int) (h0 : 0 ≤ m) (h1 : m ≤ 3) (w : World) : Calls Tryz.prog 73 #[U32 m] w (Pure (U32 (nextI m)) w) := by
  go_enter Tryz.func73, Tryz.ntmps73
  go_wp2
  go_ret
  exact Pure.intro rfl

theorem mark_bd (x : Int) (hx : W32 x) : 0 ≤ markI x ∧ markI x ≤ 3 := by unfold markI; unfold W32 at hx; split <;> omega
theorem getD_mem {xs : List Int} (hw : ∀ x ∈ xs, W32 x) (k : Nat) : W32 (xs.getD k 0) := by
  by_cases h : k < xs.length
  · rw [List.getD_eq_getElem?_getD, List.getElem?_eq_getElem h]
    exact hw _ (List.getElem_mem h)
  · rw [List.getD_eq_getElem?_getD, List.getElem?_eq_none (by omega)]
    exact ⟨by decide, by decide⟩
theorem slot_eq (x y : Int) (hx : W32 x) (hy : W32 y) : slotOf x y = slotOf (markI x) (markI y) := by
  unfold W32 at hx hy
  unfold slotOf markI nextI
  (repeat' split) <;> omega

/-- the mark of a slot -/
def markAt (xs : List Int) (n : Nat) (s : Int) : Int := markI (xs.getD (s.toNat * (n + 1)) 0)
theorem mark_any (v : Value) (xs : List Int) (n : Nat) (s : Int) (w : World) (h : Sl w v 1 xs.length (xs.map U32)) (h0 : n + 1 < xs.length) (hn' : n ≤ 100) (hs0 : 0 ≤ s) (hs1 : s ≤ 1) :
    Calls Tryz.prog 74 #[.agg #[v, I n], I s] w (Grew (U32 (markAt xs n s)) w) := by
  unfold markAt
  have : s = 0 ∨ s = 1 := by omega
  rcases this with rfl | rfl
  · simpa using mark0 v xs n w h (by omega) (by omega) (by omega)
  · simpa using mark1 v xs n w h h0 hn'

set_option maxHeartbeats 2000000 in
theorem newer_any (v : Value) (xs : List Int) (n : Nat) (w : World) (h : Sl w v 1 xs.length (xs.map U32)) (hw : ∀ x ∈ xs, W32 x) (h0 : n + 1 < xs.length) (hn' : n ≤ 100) :
    Calls Tryz.prog 56 #[.agg #[v, I n]] w (Grew (I (newerI (xs.getD 0 0) (xs.getD (n + 1) 0))) w) := by
  have hx := mark_bd _ (getD_mem hw 0)
  have hy := mark_bd _ (getD_mem hw (n + 1))
  have hs : newerI (xs.getD 0 0) (xs.getD (n + 1) 0) = newerI (markI (xs.getD 0 0)) (markI (xs.getD (n + 1) 0)) := by
    unfold newerI; rw [slot_eq _ _ (getD_mem hw 0) (getD_mem hw (n + 1))]
  rw [hs]
  have Hm := Lib.hid (fun s W hW => mark_any v xs n s W hW h0 hn')
  have Ha : markI (xs.getD 0 0) = markAt xs n 0 := by simp [markAt]
  have Hb : markI (xs.getD (n + 1) 0) = markAt xs n 1 := by simp [markAt]
  rw [Ha] at hx
  rw [Hb] at hy
  rw [Ha, Hb]
  clear hs Ha Hb
  have H01 : ∀ s, Hid (markAt xs n s = markAt xs n s) := fun _ => rfl
  clear H01
  have ha : markAt xs n 0 = 0 ∨ markAt xs n 0 = 1 ∨ markAt xs n 0 = 2 ∨ markAt xs n 0 = 3 := by omega
  have hb : markAt xs n 1 = 0 ∨ markAt xs n 1 = 1 ∨ markAt xs n 1 = 2 ∨ markAt xs n 1 = 3 := by omega
  have HA := Lib.hid ha
  have HB := Lib.hid hb
  clear hx hy ha hb
  have hA := h.below (boxed_below w (.cells #[v, I n] 98))
  have kA := boxed_below w (.cells #[v, I n] 98)
  go_enter Tryz.func56, Tryz.ntmps56
  go_wp2
  go_region_with ((go_at_call 74; refine (Hm.out _ _ ?_ ?_ ?_).mono ?_; (first | assumption | (apply Sl.drew; assumption)); omega; omega; rintro e w1 ⟨rfl, k1⟩; obtain ⟨hc1, _⟩ := bcell k1; have hS1 := Sl.below (by first | assumption | (apply Sl.drew; assumption)) k1; have kA := Below.trans (by first | assumption | (apply Below.drew; assumption)) (k1.mono (Below.size (by first | assumption | (apply Below.drew; assumption))))))
  all_goals
    have ha := HA.out
    have hb := HB.out
    clear HA HB Hm
    generalize markAt xs n 0 = a at *
    generalize markAt xs n 1 = b at *
    rcases ha with rfl | rfl | rfl | rfl
    all_goals
      rcases hb with rfl | rfl | rfl | rfl
      all_goals
        go_wp2_with (go_at_call 73; refine (next_any _ (by omega) (by omega) _).mono ?_; rintro e w' ⟨rfl, rfl⟩)
        go_ret
        exact Grew.intro rfl kA

def slotFits (len : Nat) (n : Int) : Bool := inB n 1 64 && decide ((len : Int) = 2 * (n + 1))
theorem size_any (len : Nat) (n : Int) (w : World) : Calls Tryz.prog 55 #[I len, I n] w (Pure (.bool (slotFits len n)) w) := by
  by_cases h1 : n < 1
  · have : slotFits len n = false := by have : inB n 1 64 = false := inB_false.2 (by omega); simp [slotFits, this]
    rw [this]
    go_enter Tryz.func55, Tryz.ntmps55
    go_wp2
    go_ret
    exact Pure.intro rfl
  · by_cases h2 : 64 < n
    · have : slotFits len n = false := by have : inB n 1 64 = false := inB_false.2 (by omega); simp [slotFits, this]
      rw [this]
      clear this
      go_enter Tryz.func55, Tryz.ntmps55
      go_wp2
      go_ret
      exact Pure.intro rfl
    · have : slotFits len n = ((len : Int) == 2 * (n + 1)) := by have : inB n 1 64 = true := inB_true.2 (by omega); simp [slotFits, this]; rfl
      rw [this]
      clear this
      go_enter Tryz.func55, Tryz.ntmps55
      go_wp2
      go_ret
      exact Pure.intro rfl
theorem SlotFits_any (len : Nat) (n : Int) (w : World) : Calls Tryz.prog 75 #[I len, I n] w (Pure (.bool (slotFits len n)) w) := by
  by_cases h : inB n 1 64 = true
  · obtain ⟨h0, h1⟩ := inB_true.1 h
    have : slotFits len n = ((len : Int) == 2 * n + 2) := by simp [slotFits, h]; rw [Bool.eq_iff_iff]; simp; omega
    rw [this]
    clear this
    go_enter Tryz.func75, Tryz.ntmps75
    go_wp2_with (go_at_call 84; refine (In_any _ _ _ _).mono ?_; rintro e w' ⟨rfl, rfl⟩)
    go_ret
    exact Pure.intro rfl
  · simp only [Bool.not_eq_true] at h
    have : slotFits len n = false := by simp [slotFits, h]
    rw [this]
    go_enter Tryz.func75, Tryz.ntmps75
    go_wp2_with (go_at_call 84; refine (In_any _ _ _ _).mono ?_; rintro e w' ⟨rfl, rfl⟩)
    go_ret
    exact Pure.intro rfl
end Go.Proofs.YtmciccnmpoijdaaGreatDoor
