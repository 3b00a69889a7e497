/- slot.Load, slot.Store and their references -/
import Derived.Test.YtclfbpgfnhjfcaaIn
import Derived.Test.YtclfbpgfnhjfcaaApi
import Derived.Deep.RegionWith
namespace Go.Proofs.Ytclfbpgfnhjfcaa
open Go.RowKit
set_option maxRecDepth 20000

def markI (x : Int) : Int := if 3 < x then 0 else x
def nextI (m : Int) : Int := m % 3 + 1
/-- which slot counts, by the two marks; 2: neither -/
def slotOf (a b : Int) : Int :=
  if (1 ≤ a ∧ a ≤ 3) then (if 1 ≤ b ∧ b ≤ 3 then (if nextI a = b then 1 else 0) else 0) else (if 1 ≤ b ∧ b ≤ 3 then 1 else 2)
def newerI (a b : Int) : Int := if slotOf a b = 2 then -1 else slotOf a b

/-- a slice of words, with one word known -/
theorem sl_at {w : World} {v : Value} {xs : List Int} (h : Sl w v 1 xs.length (xs.map U32)) (k : Nat) (hk : k < xs.length) :
    ∃ b off cap, v = .slice (some ⟨b, off, none⟩) xs.length cap ∧ b < w.heap.size ∧ w.cell? ⟨b, off + k, none⟩ = some (U32 (xs.getD k 0)) := by
  obtain ⟨a, cap, rfl, hn, hl, h0, h⟩ := h
  rcases h with h | ⟨b, off, rfl, hb, hc⟩
  · omega
  · have := hc k (by simpa using hk)
    rw [getD_map' _ _ hk] at this
    exact ⟨b, off, cap, rfl, hb, this⟩

theorem mark0 (v : Value) (xs : List Int) (n : Int) (w : World) (h : Sl w v 1 xs.length (xs.map U32)) (h0 : 0 < xs.length) (hn : 0 ≤ n) (hn' : n ≤ 100) :
    Calls Try.prog 97 #[.agg #[v, I n], I 0] w (Grew (U32 (markI (xs.getD 0 0))) w) := by
  obtain ⟨b, off, cap, rfl, hb, hc⟩ := sl_at h 0 h0
  have hlen : xs.length ≤ 281474976710656 := by obtain ⟨_, _, _, h, _⟩ := h; exact h.1
  clear h
  generalize xs.getD 0 0 = x at *
  rw [Nat.add_zero] at hc
  by_cases hx : 3 < x
  · have hm : markI x = 0 := by simp [markI, hx]
    rw [hm]
    clear hm
    go_enter Try.func97, Try.ntmps97
    go_wp2
    go_ret
    exact Grew.intro rfl (by repeat first | exact Below.refl _ _ | assumption | refine drewN_below ?_ _ | refine Below.alloc ?_ (by first | exact Nat.le_refl _ | exact Below.size (by assumption) | (simp; done) | (simp; omega) | omega) _ | refine Below.setCell ?_ (by first | exact Nat.le_refl _ | (simp; done) | (simp; omega) | omega) _)
  · have hm : markI x = x := by simp [markI, hx]
    rw [hm]
    clear hm
    go_enter Try.func97, Try.ntmps97
    go_wp2
    go_ret
    exact Grew.intro rfl (by repeat first | exact Below.refl _ _ | assumption | refine drewN_below ?_ _ | refine Below.alloc ?_ (by first | exact Nat.le_refl _ | exact Below.size (by assumption) | (simp; done) | (simp; omega) | omega) _ | refine Below.setCell ?_ (by first | exact Nat.le_refl _ | (simp; done) | (simp; omega) | omega) _)

theorem mark1 (v : Value) (xs : List Int) (n : Nat) (w : World) (h : Sl w v 1 xs.length (xs.map U32)) (h0 : n + 1 < xs.length) (hn' : n ≤ 100) :
    Calls Try.prog 97 #[.agg #[v, I n], I 1] w (Grew (U32 (markI (xs.getD (n + 1) 0))) w) := by
  obtain ⟨b, off, cap, rfl, hb, hc⟩ := sl_at h (n + 1) h0
  have hlen : xs.length ≤ 281474976710656 := by obtain ⟨_, _, _, h, _⟩ := h; exact h.1
  clear h
  generalize xs.getD (n + 1) 0 = x at *
  have hi : ((n : Int) + 1) < (xs.length : Int) := by omega
  have hi0 : 0 ≤ ((n : Int) + 1) := by omega
  by_cases hx : 3 < x
  · have hm : markI x = 0 := by simp [markI, hx]
    rw [hm]
    clear hm
    go_enter Try.func97, Try.ntmps97
    go_wp2
    go_ret
    exact Grew.intro rfl (by repeat first | exact Below.refl _ _ | assumption | refine drewN_below ?_ _ | refine Below.alloc ?_ (by first | exact Nat.le_refl _ | exact Below.size (by assumption) | (simp; done) | (simp; omega) | omega) _ | refine Below.setCell ?_ (by first | exact Nat.le_refl _ | (simp; done) | (simp; omega) | omega) _)
  · have hm : markI x = x := by simp [markI, hx]
    rw [hm]
    clear hm
    go_enter Try.func97, Try.ntmps97
    go_wp2
    go_ret
    exact Grew.intro rfl (by repeat first | exact Below.refl _ _ | assumption | refine drewN_below ?_ _ | refine Below.alloc ?_ (by first | exact Nat.le_refl _ | exact Below.size (by assumption) | (simp; done) | (simp; omega) | omega) _ | refine Below.setCell ?_ (by first | exact Nat.le_refl _ | (simp; done) | (simp; omega) | omega) _)

theorem next_any (m : Int) (h0 : 0 ≤ m) (h1 : m ≤ 3) (w : World) : Calls Try.prog 98 #[U32 m] w (Pure (U32 (nextI m)) w) := by
  go_enter Try.func98, Try.ntmps98
  go_wp2
  go_ret
  exact Pure.intro rfl

theorem mark_bd (x : Int) (hx : W32 x) : 0 ≤ markI x ∧ markI x ≤ 3 := by unfold markI; unfold W32 at hx; split <;> omega
theorem getD_mem {xs : List Int} (hw : ∀ x ∈ xs, W32 x) (k : Nat) : W32 (xs.getD k 0) := by
  by_cases h : k < xs.length
  · rw [List.getD_eq_getElem?_getD, List.getElem?_eq_getElem h]
    exact hw _ (List.getElem_mem h)
  · rw [List.getD_eq_getElem?_getD, List.getElem?_eq_none (by omega)]
    exact ⟨by decide, by decide⟩
theorem slot_eq (x y : Int) (hx : W32 x) (hy : W32 y) : slotOf x y = slotOf (markI x) (markI y) := by
  unfold W32 at hx hy
  unfold slotOf markI nextI
  (repeat' split) <;> omega

/-- the mark of a slot -/
def markAt (xs : List Int) (n : Nat) (s : Int) : Int := markI (xs.getD (s.toNat * (n + 1)) 0)
theorem mark_any (v : Value) (xs : List Int) (n : Nat) (s : Int) (w : World) (h : Sl w v 1 xs.length (xs.map U32)) (h0 : n + 1 < xs.length) (hn' : n ≤ 100) (hs0 : 0 ≤ s) (hs1 : s ≤ 1) :
    Calls Try.prog 97 #[.agg #[v, I n], I s] w (Grew (U32 (markAt xs n s)) w) := by
  unfold markAt
  have : s = 0 ∨ s = 1 := by omega
  rcases this with rfl | rfl
  · simpa using mark0 v xs n w h (by omega) (by omega) (by omega)
  · simpa using mark1 v xs n w h h0 hn'

set_option maxHeartbeats 2000000 in
theorem newer_any (v : Value) (xs : List Int) (n : Nat) (w : World) (h : Sl w v 1 xs.length (xs.map U32)) (hw : ∀ x ∈ xs, W32 x) (h0 : n + 1 < xs.length) (hn' : n ≤ 100) :
    Calls Try.prog 77 #[.agg #[v, I n]] w (Grew (I (newerI (xs.getD 0 0) (xs.getD (n + 1) 0))) w) := by
  have hx := mark_bd _ (getD_mem hw 0)
  have hy := mark_bd _ (getD_mem hw (n + 1))
  have hs : newerI (xs.getD 0 0) (xs.getD (n + 1) 0) = newerI (markI (xs.getD 0 0)) (markI (xs.getD (n + 1) 0)) := by
    unfold newerI; rw [slot_eq _ _ (getD_mem hw 0) (getD_mem hw (n + 1))]
  rw [hs]
  have Hm := Lib.hid (fun s W hW => mark_any v xs n s W hW h0 hn')
  have Ha : markI (xs.getD 0 0) = markAt xs n 0 := by simp [markAt]
  have Hb : markI (xs.getD (n + 1) 0) = markAt xs n 1 := by simp [markAt]
  rw [Ha] at hx
  rw [Hb] at hy
  rw [Ha, Hb]
  clear hs Ha Hb
  have H01 : ∀ s, Hid (markAt xs n s = markAt xs n s) := fun _ => rfl
  clear H01
  have ha : markAt xs n 0 = 0 ∨ markAt xs n 0 = 1 ∨ markAt xs n 0 = 2 ∨ markAt xs n 0 = 3 := by omega
  have hb : markAt xs n 1 = 0 ∨ markAt xs n 1 = 1 ∨ markAt xs n 1 = 2 ∨ markAt xs n 1 = 3 := by omega
  have HA := Lib.hid ha
  have HB := Lib.hid hb
  clear hx hy ha hb
  have hA := h.below (boxed_below w (.cells #[v, I n] 123))
  have kA := boxed_below w (.cells #[v, I n] 123)
  go_enter Try.func77, Try.ntmps77
  go_wp2
  go_region_with ((go_at_call 97; refine (Hm.out _ _ ?_ ?_ ?_).mono ?_; (first | assumption | (apply Sl.drew; assumption)); omega; omega; rintro e w1 ⟨rfl, k1⟩; obtain ⟨hc1, _⟩ := bcell k1; have hS1 := Sl.below (by first | assumption | (apply Sl.drew; assumption)) k1; have kA := Below.trans (by first | assumption | (apply Below.drew; assumption)) (k1.mono (Below.size (by first | assumption | (apply Below.drew; assumption))))))
  all_goals
    have ha := HA.out
    have hb := HB.out
    clear HA HB Hm
    generalize markAt xs n 0 = a at *
    generalize markAt xs n 1 = b at *
    rcases ha with rfl | rfl | rfl | rfl
    all_goals
      rcases hb with rfl | rfl | rfl | rfl
      all_goals
        go_wp2_with (go_at_call 98; refine (next_any _ (by omega) (by omega) _).mono ?_; rintro e w' ⟨rfl, rfl⟩)
        go_ret
        exact Grew.intro rfl kA

def slotFits (len : Nat) (n : Int) : Bool := inB n 1 64 && decide ((len : Int) = 2 * (n + 1))
theorem size_any (len : Nat) (n : Int) (w : World) : Calls Try.prog 76 #[I len, I n] w (Pure (.bool (slotFits len n)) w) := by
  by_cases h1 : n < 1
  · have : slotFits len n = false := by have : inB n 1 64 = false := inB_false.2 (by omega); simp [slotFits, this]
    rw [this]
    go_enter Try.func76, Try.ntmps76
    go_wp2
    go_ret
    exact Pure.intro rfl
  · by_cases h2 : 64 < n
    · have : slotFits len n = false := by have : inB n 1 64 = false := inB_false.2 (by omega); simp [slotFits, this]
      rw [this]
      clear this
      go_enter Try.func76, Try.ntmps76
      go_wp2
      go_ret
      exact Pure.intro rfl
    · have : slotFits len n = ((len : Int) == 2 * (n + 1)) := by have : inB n 1 64 = true := inB_true.2 (by omega); simp [slotFits, this]; rfl
      rw [this]
      clear this
      go_enter Try.func76, Try.ntmps76
      go_wp2
      go_ret
      exact Pure.intro rfl
theorem SlotFits_any (len : Nat) (n : Int) (w : World) : Calls Try.prog 78 #[I len, I n] w (Pure (.bool (slotFits len n)) w) := by
  by_cases h : inB n 1 64 = true
  · obtain ⟨h0, h1⟩ := inB_true.1 h
    have : slotFits len n = ((len : Int) == 2 * n + 2) := by simp [slotFits, h]; rw [Bool.eq_iff_iff]; simp; omega
    rw [this]
    clear this
    go_enter Try.func78, Try.ntmps78
    go_wp2_with (go_at_call 54; refine (In_any _ _ _ _).mono ?_; rintro e w' ⟨rfl, rfl⟩)
    go_ret
    exact Pure.intro rfl
  · simp only [Bool.not_eq_true] at h
    have : slotFits len n = false := by simp [slotFits, h]
    rw [this]
    go_enter Try.func78, Try.ntmps78
    go_wp2_with (go_at_call 54; refine (In_any _ _ _ _).mono ?_; rintro e w' ⟨rfl, rfl⟩)
    go_ret
    exact Pure.intro rfl
end Go.Proofs.Ytclfbpgfnhjfcaa
