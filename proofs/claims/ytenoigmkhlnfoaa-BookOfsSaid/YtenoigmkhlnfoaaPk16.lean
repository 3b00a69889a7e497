/- the most units for an amount: step by step as the program takes them; what the halving of the reference looks for: plain law · what is wrong with what is asked of a tariff: the program, the reference -/
import Derived.Test.YtenoigmkhlnfoaaPk15
import Derived.Test.YtenoigmkhlnfoaaPk08
namespace Go.Proofs.Ytenoigmkhlnfoaa
set_option linter.unusedSimpArgs false
set_option linter.unusedVariables false
open Go.RowKit
set_option maxRecDepth 20000

def takeN (money u p : Int) (x : Int × Int) : Int := min x.1 (min ((money - p) / x.2) (2097151 - u))
def mostP (money : Int) : List (Int × Int) → Int → Int → Int × Int
  | [], u, p => (u, p)
  | x :: r, u, p => if takeN money u p x < x.1 then (u + takeN money u p x, p + takeN money u p x * x.2) else mostP money r (u + takeN money u p x) (p + takeN money u p x * x.2)
def endU : Int → List AStep → Int
  | lo, [] => lo
  | _, s :: r => endU s.upto r
theorem endU_le : ∀ {ts : List AStep} {lo : Int}, Rise lo ts → lo ≤ endU lo ts
  | [], _, _ => Int.le_refl _
  | s :: r, lo, h => by have := endU_le h.2; have := h.1; show lo ≤ endU s.upto r; omega
theorem sumR_zero {a b : Int} : ∀ {ts : List AStep} {lo : Int}, Rise lo ts → b ≤ lo → sumR a b ts lo = 0
  | [], _, _, _ => rfl
  | s :: r, lo, h, hb => by
    have h0 : lapI lo s.upto a b = 0 := by rw [lapI_max]; omega
    rw [sumR, h0, sumR_zero h.2 (by have := h.1; omega)]; omega
theorem sumR_pos {a b : Int} : ∀ {ts : List AStep} (lo : Int), (∀ s ∈ ts, 1 ≤ s.price) → 0 ≤ sumR a b ts lo
  | [], _, _ => Int.le_refl _
  | s :: r, lo, h => by
    have h1 : 0 ≤ lapI lo s.upto a b := by rw [lapI_max]; omega
    have h2 := Int.mul_nonneg h1 (by have := h s (by simp); omega : 0 ≤ s.price)
    have h3 := sumR_pos (a := a) (b := b) (ts := r) s.upto (fun x hx => h x (List.mem_cons_of_mem _ hx))
    rw [sumR]; omega
theorem most_law {a money : Int} : ∀ {ts : List AStep} {lo : Int} (u p : Int), Rise lo ts → (∀ s ∈ ts, 1 ≤ s.price) → u ≤ 2097151 → p ≤ money →
    ∃ k, 0 ≤ k ∧ k ≤ 2097151 - u ∧ max lo a + k ≤ max (max lo a) (endU lo ts) ∧ mostP money (piecesL ts (max lo a)) u p = (u + k, p + sumR a (max lo a + k) ts lo) ∧
      sumR a (max lo a + k) ts lo ≤ money - p ∧ ∀ m, k < m → m ≤ 2097151 - u → max lo a + m ≤ max (max lo a) (endU lo ts) → money - p < sumR a (max lo a + m) ts lo
  | [], lo, u, p, _, _, hu, hm => by
    refine ⟨0, Int.le_refl _, by omega, by omega, ?_, ?_, ?_⟩
    · show (u, p) = (u + 0, p + 0); simp
    · show (0 : Int) ≤ _; omega
    · intro m h1 h2 h3
      have : endU lo ([] : List AStep) = lo := rfl
      omega
  | s :: r, lo, u, p, h, hp, hu, hm => by
    obtain ⟨h1, h2⟩ := h
    have hpr : ∀ x ∈ r, 1 ≤ x.price := fun x hx => hp x (List.mem_cons_of_mem _ hx)
    have hc : 1 ≤ s.price := hp s (by simp)
    have he : endU lo (s :: r) = endU s.upto r := rfl
    have hel := endU_le h2
    by_cases hs : s.upto ≤ max lo a
    · obtain ⟨k, k0, k1, k2, k3, k4, k5⟩ := most_law (a := a) (money := money) u p h2 hpr hu hm
      have e : max s.upto a = max lo a := by omega
      have hS : ∀ b, sumR a b (s :: r) lo = sumR a b r s.upto := fun b => by
        have h0 : lapI lo s.upto a b = 0 := by rw [lapI_max]; omega
        rw [sumR, h0]; omega
      rw [e] at k2 k3 k4 k5
      refine ⟨k, k0, k1, by rw [he]; omega, ?_, by rw [hS]; exact k4, fun m m1 m2 m3 => by rw [hS]; exact k5 m m1 m2 (by rw [he] at m3; omega)⟩
      rw [piecesL, if_pos hs, hS]
      exact k3
    · rw [piecesL, if_neg hs]
      have hf : max lo a < s.upto := by omega
      generalize hfe : max lo a = f at *
      have hS : ∀ b, f ≤ b → sumR a b (s :: r) lo = min (s.upto - f) (b - f) * s.price + sumR a b r s.upto := fun b hb => by
        have h0 : lapI lo s.upto a b = min (s.upto - f) (b - f) := by rw [lapI_max]; omega
        rw [sumR, h0]
      have hn : takeN money u p (s.upto - f, s.price) = min (s.upto - f) (min ((money - p) / s.price) (2097151 - u)) := rfl
      have hd0 : 0 ≤ (money - p) / s.price := Int.ediv_nonneg (by omega) (by omega)
      have hd1 : (money - p) / s.price * s.price ≤ money - p := Int.ediv_mul_le _ (by omega)
      have hd2 : money - p < ((money - p) / s.price + 1) * s.price := Int.lt_ediv_add_one_mul_self _ (by omega)
      generalize hde : (money - p) / s.price = d at *
      have hmul : ∀ x y : Int, x ≤ y → x * s.price ≤ y * s.price := fun x y hxy => Int.mul_le_mul_of_nonneg_right hxy (by omega)
      rw [mostP]
      generalize takeN money u p (s.upto - f, s.price) = n at *
      by_cases hlt : n < s.upto - f
      · refine ⟨n, by omega, by omega, by rw [he]; omega, ?_, ?_, ?_⟩
        · rw [if_pos hlt, hS _ (by omega), sumR_zero h2 (by omega)]
          have : min (s.upto - f) (f + n - f) = n := by omega
          rw [this]; simp
        · rw [hS _ (by omega), sumR_zero h2 (by omega)]
          have : min (s.upto - f) (f + n - f) = n := by omega
          rw [this]
          have := hmul n d (by omega)
          omega
        · intro m m1 m2 m3
          rw [hS _ (by omega)]
          have hnd : n = d := by omega
          have := hmul (d + 1) (min (s.upto - f) (f + m - f)) (by omega)
          have := sumR_pos (a := a) (b := f + m) s.upto hpr
          omega
      · have hnl : n = s.upto - f := by omega
        have hle : n * s.price ≤ money - p := by have := hmul n d (by omega); omega
        obtain ⟨k, k0, k1, k2, k3, k4, k5⟩ := most_law (a := a) (money := money) (u + n) (p + n * s.price) h2 hpr (by omega) (by omega)
        have e : max s.upto a = s.upto := by omega
        rw [e] at k2 k3 k4 k5
        have hsum : ∀ j, 0 ≤ j → sumR a (f + (n + j)) (s :: r) lo = n * s.price + sumR a (s.upto + j) r s.upto := fun j hj => by
          rw [hS _ (by omega)]
          have e1 : min (s.upto - f) (f + (n + j) - f) = n := by omega
          have e2 : f + (n + j) = s.upto + j := by omega
          rw [e1, e2]
        refine ⟨n + k, by omega, by omega, by rw [he]; omega, ?_, ?_, ?_⟩
        · rw [if_neg hlt, hsum k k0]
          show mostP money (piecesL r s.upto) (u + n) (p + n * s.price) = _
          rw [k3]
          simp only [Prod.mk.injEq]
          omega
        · rw [hsum k k0]; omega
        · intro m m1 m2 m3
          have := k5 (m - n) (by omega) (by omega) (by rw [he] at m3; omega)
          have e3 : m = n + (m - n) := by omega
          rw [e3, hsum (m - n) (by omega)]
          omega
end Go.Proofs.Ytenoigmkhlnfoaa
namespace Go.Proofs.Ytenoigmkhlnfoaa
set_option linter.unusedSimpArgs false
set_option linter.unusedVariables false
open Go.RowKit
set_option maxRecDepth 20000

def unitsE (xs : List AStep) (a u : Int) : Int := if tariffE xs = 0 then (if 0 ≤ a ∧ a ≤ 10000000 ∧ 0 ≤ u ∧ u ≤ 2097151 ∧ a + u ≤ 10000000 then 0 else 2) else tariffE xs
theorem unitsE_two {xs : List AStep} {a u : Int} (hT : tariffE xs = 0) (h : ¬ (0 ≤ a ∧ a ≤ 10000000 ∧ 0 ≤ u ∧ u ≤ 2097151 ∧ a + u ≤ 10000000)) : unitsE xs a u = 2 := by rw [unitsE, if_pos hT, if_neg h]
theorem unitsE_zero {xs : List AStep} {a u : Int} (hT : tariffE xs = 0) (h : 0 ≤ a ∧ a ≤ 10000000 ∧ 0 ≤ u ∧ u ≤ 2097151 ∧ a + u ≤ 10000000) : unitsE xs a u = 0 := by rw [unitsE, if_pos hT, if_pos h]
theorem unitsE_bad {xs : List AStep} {a u : Int} (hT : tariffE xs ≠ 0) : unitsE xs a u = tariffE xs := by rw [unitsE, if_neg hT]
theorem unitsE_ok {xs : List AStep} {a u : Int} (h : unitsE xs a u = 0) : tariffE xs = 0 ∧ 0 ≤ a ∧ a ≤ 10000000 ∧ 0 ≤ u ∧ u ≤ 2097151 ∧ a + u ≤ 10000000 := by
  unfold unitsE at h
  split at h
  · split at h
    · exact ⟨by assumption, by assumption⟩
    · omega
  · contradiction
set_option maxHeartbeats 2000000 in
theorem asked_any (v : Value) (xs : List AStep) (a u : Int) (w : World) (h : Sl w v 2 xs.length (xs.flatMap AStep.cells)) :
    Calls Try.prog 126 #[v, I a, I u] w (Grew (I (unitsE xs a u)) w) := by
  have T := Lib.hid (fun W hW => CheckT_any v xs W hW)
  by_cases hT : tariffE xs = 0
  · rw [hT] at T
    by_cases q1 : a < 0
    · rw [unitsE_two hT (by omega)]
      clear hT
      go_enter Try.func126, Try.ntmps126
      go_wp2_with fail
      refine (T.out _ h).mono ?_
      rintro e w1 ⟨rfl, k1⟩
      go_wp2
      go_ret
      exact Grew.intro rfl (by repeat first | exact Below.refl _ _ | assumption | refine drewN_below ?_ _ | refine Below.alloc ?_ (by first | exact Nat.le_refl _ | exact Below.size (by assumption) | (simp; done) | (simp; omega) | omega) _ | refine Below.setCell ?_ (by first | exact Nat.le_refl _ | (simp; done) | (simp; omega) | omega) _)
    by_cases q2 : 10000000 < a
    · rw [unitsE_two hT (by omega)]
      clear hT
      go_enter Try.func126, Try.ntmps126
      go_wp2_with fail
      refine (T.out _ h).mono ?_
      rintro e w1 ⟨rfl, k1⟩
      go_wp2
      go_ret
      exact Grew.intro rfl (by repeat first | exact Below.refl _ _ | assumption | refine drewN_below ?_ _ | refine Below.alloc ?_ (by first | exact Nat.le_refl _ | exact Below.size (by assumption) | (simp; done) | (simp; omega) | omega) _ | refine Below.setCell ?_ (by first | exact Nat.le_refl _ | (simp; done) | (simp; omega) | omega) _)
    by_cases q3 : u < 0
    · rw [unitsE_two hT (by omega)]
      clear hT
      go_enter Try.func126, Try.ntmps126
      go_wp2_with fail
      refine (T.out _ h).mono ?_
      rintro e w1 ⟨rfl, k1⟩
      go_wp2
      go_ret
      exact Grew.intro rfl (by repeat first | exact Below.refl _ _ | assumption | refine drewN_below ?_ _ | refine Below.alloc ?_ (by first | exact Nat.le_refl _ | exact Below.size (by assumption) | (simp; done) | (simp; omega) | omega) _ | refine Below.setCell ?_ (by first | exact Nat.le_refl _ | (simp; done) | (simp; omega) | omega) _)
    by_cases q4 : 2097151 < u
    · rw [unitsE_two hT (by omega)]
      clear hT
      go_enter Try.func126, Try.ntmps126
      go_wp2_with fail
      refine (T.out _ h).mono ?_
      rintro e w1 ⟨rfl, k1⟩
      go_wp2
      go_ret
      exact Grew.intro rfl (by repeat first | exact Below.refl _ _ | assumption | refine drewN_below ?_ _ | refine Below.alloc ?_ (by first | exact Nat.le_refl _ | exact Below.size (by assumption) | (simp; done) | (simp; omega) | omega) _ | refine Below.setCell ?_ (by first | exact Nat.le_refl _ | (simp; done) | (simp; omega) | omega) _)
    have hw : IntKind.i64.wrap (a + u) = a + u := wrap_small _ (by omega) (by omega)
    by_cases q5 : 10000000 < a + u
    · rw [unitsE_two hT (by omega)]
      clear hT
      go_enter Try.func126, Try.ntmps126
      go_wp2_with fail
      refine (T.out _ h).mono ?_
      rintro e w1 ⟨rfl, k1⟩
      go_wp2
      go_ret
      exact Grew.intro rfl (by repeat first | exact Below.refl _ _ | assumption | refine drewN_below ?_ _ | refine Below.alloc ?_ (by first | exact Nat.le_refl _ | exact Below.size (by assumption) | (simp; done) | (simp; omega) | omega) _ | refine Below.setCell ?_ (by first | exact Nat.le_refl _ | (simp; done) | (simp; omega) | omega) _)
    · rw [unitsE_zero hT (by omega)]
      clear hT
      go_enter Try.func126, Try.ntmps126
      go_wp2_with fail
      refine (T.out _ h).mono ?_
      rintro e w1 ⟨rfl, k1⟩
      go_wp2
      go_ret
      exact Grew.intro rfl (by repeat first | exact Below.refl _ _ | assumption | refine drewN_below ?_ _ | refine Below.alloc ?_ (by first | exact Nat.le_refl _ | exact Below.size (by assumption) | (simp; done) | (simp; omega) | omega) _ | refine Below.setCell ?_ (by first | exact Nat.le_refl _ | (simp; done) | (simp; omega) | omega) _)
  · rw [unitsE_bad hT]
    generalize tariffE xs = r at *
    have q1 := hT
    clear hT
    go_enter Try.func126, Try.ntmps126
    go_wp2_with fail
    refine (T.out _ h).mono ?_
    rintro e w1 ⟨rfl, k1⟩
    go_wp2
    go_ret
    exact Grew.intro rfl (by repeat first | exact Below.refl _ _ | assumption | refine drewN_below ?_ _ | refine Below.alloc ?_ (by first | exact Nat.le_refl _ | exact Below.size (by assumption) | (simp; done) | (simp; omega) | omega) _ | refine Below.setCell ?_ (by first | exact Nat.le_refl _ | (simp; done) | (simp; omega) | omega) _)
set_option maxHeartbeats 2000000 in
theorem UnitsMay_any (v : Value) (xs : List AStep) (a u : Int) (w : World) (h : Sl w v 2 xs.length (xs.flatMap AStep.cells)) :
    Calls Try.prog 112 #[v, I a, I u] w (Grew (I (unitsE xs a u)) w) := by
  have T := Lib.hid (fun W hW => TariffFault_any v xs W hW)
  by_cases hT : tariffE xs = 0
  · rw [hT] at T
    cases p1 : inB a 0 10000000
    · rw [unitsE_two hT (by have := inB_false.1 p1; omega)]
      clear hT
      go_enter Try.func112, Try.ntmps112
      go_wp2_with fail
      refine (T.out _ h).mono ?_
      rintro e w1 ⟨rfl, k1⟩
      go_wp2_with (go_at_call 43; refine (In_any _ _ _ _).mono ?_; rintro e w' ⟨rfl, rfl⟩)
      go_ret
      exact Grew.intro rfl (by repeat first | exact Below.refl _ _ | assumption | refine drewN_below ?_ _ | refine Below.alloc ?_ (by first | exact Nat.le_refl _ | exact Below.size (by assumption) | (simp; done) | (simp; omega) | omega) _ | refine Below.setCell ?_ (by first | exact Nat.le_refl _ | (simp; done) | (simp; omega) | omega) _)
    cases p2 : inB u 0 2097151
    · rw [unitsE_two hT (by have := inB_false.1 p2; omega)]
      clear hT
      go_enter Try.func112, Try.ntmps112
      go_wp2_with fail
      refine (T.out _ h).mono ?_
      rintro e w1 ⟨rfl, k1⟩
      go_wp2_with (go_at_call 43; refine (In_any _ _ _ _).mono ?_; rintro e w' ⟨rfl, rfl⟩)
      go_ret
      exact Grew.intro rfl (by repeat first | exact Below.refl _ _ | assumption | refine drewN_below ?_ _ | refine Below.alloc ?_ (by first | exact Nat.le_refl _ | exact Below.size (by assumption) | (simp; done) | (simp; omega) | omega) _ | refine Below.setCell ?_ (by first | exact Nat.le_refl _ | (simp; done) | (simp; omega) | omega) _)
    obtain ⟨a0, a1⟩ := inB_true.1 p1
    obtain ⟨u0, u1⟩ := inB_true.1 p2
    have hw : IntKind.i64.wrap (a + u) = a + u := wrap_small _ (by omega) (by omega)
    by_cases q5 : 10000000 < a + u
    · rw [unitsE_two hT (by omega)]
      clear a0 a1 u0 u1
      clear hT
      go_enter Try.func112, Try.ntmps112
      go_wp2_with fail
      refine (T.out _ h).mono ?_
      rintro e w1 ⟨rfl, k1⟩
      go_wp2_with (go_at_call 43; refine (In_any _ _ _ _).mono ?_; rintro e w' ⟨rfl, rfl⟩)
      go_ret
      exact Grew.intro rfl (by repeat first | exact Below.refl _ _ | assumption | refine drewN_below ?_ _ | refine Below.alloc ?_ (by first | exact Nat.le_refl _ | exact Below.size (by assumption) | (simp; done) | (simp; omega) | omega) _ | refine Below.setCell ?_ (by first | exact Nat.le_refl _ | (simp; done) | (simp; omega) | omega) _)
    · rw [unitsE_zero hT (by omega)]
      clear a0 a1 u0 u1
      clear hT
      go_enter Try.func112, Try.ntmps112
      go_wp2_with fail
      refine (T.out _ h).mono ?_
      rintro e w1 ⟨rfl, k1⟩
      go_wp2_with (go_at_call 43; refine (In_any _ _ _ _).mono ?_; rintro e w' ⟨rfl, rfl⟩)
      go_ret
      exact Grew.intro rfl (by repeat first | exact Below.refl _ _ | assumption | refine drewN_below ?_ _ | refine Below.alloc ?_ (by first | exact Nat.le_refl _ | exact Below.size (by assumption) | (simp; done) | (simp; omega) | omega) _ | refine Below.setCell ?_ (by first | exact Nat.le_refl _ | (simp; done) | (simp; omega) | omega) _)
  · rw [unitsE_bad hT]
    generalize tariffE xs = r at *
    have q1 := hT
    clear hT
    go_enter Try.func112, Try.ntmps112
    go_wp2_with fail
    refine (T.out _ h).mono ?_
    rintro e w1 ⟨rfl, k1⟩
    go_wp2_with (go_at_call 43; refine (In_any _ _ _ _).mono ?_; rintro e w' ⟨rfl, rfl⟩)
    go_ret
    exact Grew.intro rfl (by repeat first | exact Below.refl _ _ | assumption | refine drewN_below ?_ _ | refine Below.alloc ?_ (by first | exact Nat.le_refl _ | exact Below.size (by assumption) | (simp; done) | (simp; omega) | omega) _ | refine Below.setCell ?_ (by first | exact Nat.le_refl _ | (simp; done) | (simp; omega) | omega) _)
end Go.Proofs.Ytenoigmkhlnfoaa
