/- cents.Sum and its reference -/
import Derived.Test.YtjkdngbaidjdmaaPart
import Derived.Test.YtjkdngbaidjdmaaApi
namespace Go.Proofs.Ytjkdngbaidjdmaa
open Go.RowKit
set_option maxRecDepth 20000

def inM (n : Int) : Bool := inB n (-1000000000000) 1000000000000
def sumOf (xs : List Int) (k : Nat) : Int := (xs.take k).sum
def sumOk (xs : List Int) : Bool := xs.all inM && inM xs.sum
def sumE (xs : List Int) : Int := if 50 < xs.length then 1 else if sumOk xs then 0 else 2
def sumA (xs : List Int) : Int := if 50 < xs.length then 0 else if sumOk xs then xs.sum else 0
theorem inM_true {n : Int} : inM n = true ↔ -1000000000000 ≤ n ∧ n ≤ 1000000000000 := inB_true

theorem allI_succ {p : Int → Bool} {xs : List Int} {k : Nat} (hk : k < xs.length) (h : (xs.take k).all p = true) (hp : p (xs.getD k 0) = true) : (xs.take (k + 1)).all p = true := by
  rw [List.take_add_one, List.all_append, h, List.getElem?_eq_getElem hk]
  simpa [List.getD_eq_getElem?_getD, List.getElem?_eq_getElem hk] using hp
theorem allI_false {p : Int → Bool} {xs : List Int} {k : Nat} (hk : k < xs.length) (hp : p (xs.getD k 0) = false) : xs.all p = false := by
  rw [List.all_eq_false]
  refine ⟨xs[k], List.getElem_mem hk, ?_⟩
  simpa [List.getD_eq_getElem?_getD, List.getElem?_eq_getElem hk] using hp
theorem sumOf_succ {xs : List Int} {k : Nat} (hk : k < xs.length) : sumOf xs (k + 1) = sumOf xs k + xs.getD k 0 := by
  unfold sumOf
  rw [List.take_add_one, List.sum_append, List.getElem?_eq_getElem hk, List.getD_eq_getElem?_getD, List.getElem?_eq_getElem hk]
  simp
theorem sumOf_bd {xs : List Int} : ∀ (k : Nat), k ≤ xs.length → (xs.take k).all inM = true → -1000000000000 * (k : Int) ≤ sumOf xs k ∧ sumOf xs k ≤ 1000000000000 * (k : Int)
  | 0, _, _ => by simp [sumOf]
  | k + 1, hk, h => by
    have hk' : k < xs.length := by omega
    have h' := h
    rw [List.take_add_one, List.all_append, List.getElem?_eq_getElem hk', Bool.and_eq_true] at h'
    have ih := sumOf_bd k (by omega) h'.1
    have hx : inM (xs.getD k 0) = true := by
      rw [List.getD_eq_getElem?_getD, List.getElem?_eq_getElem hk']; simpa using h'.2
    have := inM_true.1 hx
    rw [sumOf_succ hk']
    omega

/-- what 'total' answers -/
def totA (xs : List Int) : Int := if xs.all inM then xs.sum else 0
def totB (xs : List Int) : Bool := sumOk xs

set_option maxHeartbeats 1000000 in
theorem totalC_any (v : Value) (xs : List Int) (w : World) (h : Sl w v 1 xs.length (xs.map I)) (h50 : xs.length ≤ 50) :
    Calls Try.prog 56 #[v] w (Pure (T2 (I (totA xs)) (.bool (totB xs))) w) := by
  obtain ⟨a, cap, rfl, hn, hl, h0, h⟩ := h
  clear h0 hl
  go_enter Try.func56, Try.ntmps56
  go_wp2
  go_loop [4, 6, 9] (fun s _ i => ∃ k : Nat, k ≤ xs.length ∧ i = I k ∧ s = I (sumOf xs k) ∧ Hid ((xs.take k).all inM = true)) (fun _ _ i => xs.length - (intOf i).toNat)
  case atStart => exact ⟨0, Nat.zero_le _, rfl, rfl, rfl⟩
  case round =>
    obtain ⟨k, hk, rfl, rfl, hall⟩ := hrel
    obtain ⟨s0, s1⟩ := sumOf_bd k hk hall.out
    by_cases hlt : k < xs.length
    · obtain ⟨b, off, rfl, hb, hc⟩ := h.resolve_left (by omega)
      have e0 := hc k (by simpa using hlt)
      rw [getD_map' _ _ hlt] at e0
      have hi0 : (0 : Int) ≤ (k : Int) := by omega
      have hi1 : (k : Int) < (xs.length : Int) := by omega
      have hgood := Lib.hid (fun hp => allI_succ (p := inM) hlt hall.out hp)
      have hbad := Lib.hid (fun hp => allI_false (p := inM) hlt hp)
      have hs := Lib.hid (sumOf_succ hlt)
      clear h hc
      generalize xs.getD k 0 = x at *
      cases p1 : inB x (-1000000000000) 1000000000000
      · have hA := Lib.hid (hbad.out p1)
        clear hgood hbad
        go_wp2_with (go_at_call 63; refine (within_any _ _ _ _).mono ?_; rintro e w' ⟨rfl, rfl⟩)
        go_ret2
        exact Pure.intro (by unfold totA totB sumOk; rw [hA.out]; rfl)
      · have hA := Lib.hid (hgood.out p1)
        obtain ⟨x0, x1⟩ := inB_true.1 p1
        clear hgood hbad
        go_wp2_with (go_at_call 63; refine (within_any _ _ _ _).mono ?_; rintro e w' ⟨rfl, rfl⟩)
        go_round
        case rel => exact ⟨k + 1, by omega, by go_num, eI (by rw [hs.out]), hA.out⟩
        case measure => simp [intOf]; omega
    · have hA := Lib.hid (show xs.all inM = true by have := hall.out; rwa [List.take_of_length_le (by omega)] at this)
      have hS := Lib.hid (show sumOf xs k = xs.sum by unfold sumOf; rw [List.take_of_length_le (by omega)])
      clear hall h
      have hge : (xs.length : Int) ≤ (k : Int) := by omega
      go_wp2_with (go_at_call 63; refine (within_any _ _ _ _).mono ?_; rintro e w' ⟨rfl, rfl⟩)
      go_ret2
      exact Pure.intro (by unfold totA totB sumOk inM; rw [hS.out]; have := hA.out; unfold inM at this; rw [this]; rfl)

theorem Sum_any (v : Value) (xs : List Int) (w : World) (h : Sl w v 1 xs.length (xs.map I)) :
    Calls Try.prog 34 #[v] w (Pure (T2 (I (sumA xs)) (I (sumE xs))) w) := by
  by_cases h50 : 50 < xs.length
  · have hA : sumA xs = 0 := by simp [sumA, h50]
    have hE : sumE xs = 1 := by simp [sumE, h50]
    rw [hA, hE]
    have h50' : (50 : Int) < (xs.length : Int) := by omega
    obtain ⟨a, cap, rfl, hn, hl, h0, h⟩ := h
    clear hA hE h h0 hl
    go_enter Try.func34, Try.ntmps34
    go_wp2
    go_ret2
    exact Pure.intro rfl
  · have C := Lib.hid (totalC_any v xs w h (by omega))
    have h50' : ¬ (50 : Int) < (xs.length : Int) := by omega
    obtain ⟨a, cap, rfl, hn, hl, h0, h⟩ := h
    cases hok : sumOk xs
    · have hA : sumA xs = 0 := by simp [sumA, h50, hok]
      have hE : sumE xs = 2 := by simp [sumE, h50, hok]
      have hB : totB xs = false := hok
      rw [hA, hE]
      rw [hB] at C
      clear hA hE h h0 hl hok hB
      go_enter Try.func34, Try.ntmps34
      go_wp2_with (go_at_call 56; refine C.out.mono ?_; rintro e w' ⟨rfl, rfl⟩)
      go_ret2
      exact Pure.intro rfl
    · have hA : sumA xs = totA xs := by
        have : xs.all inM = true := by simp only [sumOk, Bool.and_eq_true] at hok; exact hok.1
        simp [sumA, h50, hok, totA, this]
      have hE : sumE xs = 0 := by simp [sumE, h50, hok]
      have hB : totB xs = true := hok
      rw [hA, hE]
      rw [hB] at C
      clear hA hE h h0 hl hok hB
      go_enter Try.func34, Try.ntmps34
      go_wp2_with (go_at_call 56; refine C.out.mono ?_; rintro e w' ⟨rfl, rfl⟩)
      go_ret2
      exact Pure.intro rfl

set_option maxHeartbeats 1000000 in
theorem Summed_any (v : Value) (xs : List Int) (w : World) (h : Sl w v 1 xs.length (xs.map I)) :
    Calls Try.prog 35 #[v] w (Pure (T2 (I (sumA xs)) (I (sumE xs))) w) := by
  by_cases h50 : 50 < xs.length
  · have hA : sumA xs = 0 := by simp [sumA, h50]
    have hE : sumE xs = 1 := by simp [sumE, h50]
    rw [hA, hE]
    have h50' : (50 : Int) < (xs.length : Int) := by omega
    obtain ⟨a, cap, rfl, hn, hl, h0, h⟩ := h
    clear hA hE h h0 hl
    go_enter Try.func35, Try.ntmps35
    go_wp2
    go_ret2
    exact Pure.intro rfl
  · have h50' : ¬ (50 : Int) < (xs.length : Int) := by omega
    have hA : sumA xs = if sumOk xs then xs.sum else 0 := by simp [sumA, h50]
    have hE : sumE xs = if sumOk xs then 0 else 2 := by simp [sumE, h50]
    have HA := Lib.hid hA
    have HE := Lib.hid hE
    obtain ⟨a, cap, rfl, hn, hl, h0, h⟩ := h
    clear hA hE h0 hl
    go_enter Try.func35, Try.ntmps35
    go_wp2
    go_loop [4, 5, 6] (fun u d i => ∃ (k : Nat) (p q : Int), k ≤ xs.length ∧ i = I k ∧ u = I p ∧ d = I q ∧ 0 ≤ p ∧ p ≤ 1000000000000 * (k : Int) ∧ 0 ≤ q ∧ q ≤ 1000000000000 * (k : Int) ∧ Hid (p - q = sumOf xs k) ∧ Hid ((xs.take k).all inM = true)) (fun _ _ i => xs.length - (intOf i).toNat)
    case atStart => exact ⟨0, 0, 0, Nat.zero_le _, rfl, rfl, rfl, by omega, by omega, by omega, by omega, rfl, rfl⟩
    case round =>
      obtain ⟨k, p, q, hk, rfl, rfl, rfl, p0, p1, q0, q1, hpq, hall⟩ := hrel
      by_cases hlt : k < xs.length
      · obtain ⟨b, off, rfl, hb, hc⟩ := h.resolve_left (by omega)
        have e0 := hc k (by simpa using hlt)
        rw [getD_map' _ _ hlt] at e0
        have hi0 : (0 : Int) ≤ (k : Int) := by omega
        have hi1 : (k : Int) < (xs.length : Int) := by omega
        have hgood := Lib.hid (fun hp => allI_succ (p := inM) hlt hall.out hp)
        have hbad := Lib.hid (fun hp => allI_false (p := inM) hlt hp)
        have hs := Lib.hid (sumOf_succ hlt)
        clear h hc
        generalize xs.getD k 0 = x at *
        cases c1 : inB x (-1000000000000) 1000000000000
        · have hA := Lib.hid (hbad.out c1)
          clear hgood hbad
          go_wp2_with (go_at_call 46; refine (In_any _ _ _ _).mono ?_; rintro e w' ⟨rfl, rfl⟩)
          go_ret2
          exact Pure.intro (by rw [HA.out, HE.out]; unfold sumOk; rw [hA.out]; rfl)
        · have hA := Lib.hid (hgood.out c1)
          obtain ⟨x0, x1⟩ := inB_true.1 c1
          clear hgood hbad
          by_cases hx : 0 < x
          · go_wp2_with (go_at_call 46; refine (In_any _ _ _ _).mono ?_; rintro e w' ⟨rfl, rfl⟩)
            go_round
            case rel => exact ⟨k + 1, p + x, q, by omega, by go_num, rfl, rfl, by omega, by omega, by omega, by omega, by unfold Hid; rw [hs.out, ← hpq.out]; omega, hA.out⟩
            case measure => simp [intOf]; omega
          · go_wp2_with (go_at_call 46; refine (In_any _ _ _ _).mono ?_; rintro e w' ⟨rfl, rfl⟩)
            go_round
            case rel => exact ⟨k + 1, p, q - x, by omega, by go_num, rfl, rfl, by omega, by omega, by omega, by omega, by unfold Hid; rw [hs.out, ← hpq.out]; omega, hA.out⟩
            case measure => simp [intOf]; omega
      · have hA := Lib.hid (show xs.all inM = true by have := hall.out; rwa [List.take_of_length_le (by omega)] at this)
        have hS := Lib.hid (show p - q = xs.sum by rw [hpq.out]; unfold sumOf; rw [List.take_of_length_le (by omega)])
        clear hall h hpq
        have hge : (xs.length : Int) ≤ (k : Int) := by omega
        by_cases a1 : 1000000000000 < p - q
        · have hM := Lib.hid (show sumOk xs = false by rw [← Bool.not_eq_true]; simp only [sumOk, hA.out, Bool.true_and, inM_true, ← hS.out]; omega)
          go_wp2
          go_ret2
          exact Pure.intro (by rw [HA.out, HE.out, hM.out]; rfl)
        · by_cases a2 : 1000000000000 < q - p
          · have hM := Lib.hid (show sumOk xs = false by rw [← Bool.not_eq_true]; simp only [sumOk, hA.out, Bool.true_and, inM_true, ← hS.out]; omega)
            go_wp2
            go_ret2
            exact Pure.intro (by rw [HA.out, HE.out, hM.out]; rfl)
          · have hM := Lib.hid (show sumOk xs = true by simp only [sumOk, hA.out, Bool.true_and, inM_true, ← hS.out]; omega)
            go_wp2
            go_ret2
            exact Pure.intro (by rw [HA.out, HE.out, hM.out, ← hS.out]; rfl)
end Go.Proofs.Ytjkdngbaidjdmaa
