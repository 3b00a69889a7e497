/- what units cost: line by line as the program counts, overlap by overlap as the reference does: plain law -/
import Derived.Test.YtcpljkjibhindaaTariffCost
namespace Go.Proofs.Ytcpljkjibhindaa
open Go.RowKit
set_option maxRecDepth 20000

/-- the steps from a number of units on, each with how many are left in it, and its price -/
def piecesL : List AStep → Int → List (Int × Int)
  | [], _ => []
  | s :: r, f => if s.upto ≤ f then piecesL r f else (s.upto - f, s.price) :: piecesL r s.upto
/-- units and price of each line -/
def billP : List (Int × Int) → Int → List (Int × Int)
  | [], _ => []
  | x :: r, u => if u = 0 then [] else (min x.1 u, x.2) :: billP r (u - min x.1 u)
def billR (a b : Int) : List AStep → Int → List (Int × Int)
  | [], _ => []
  | s :: r, lo => if 0 < lapI lo s.upto a b then (lapI lo s.upto a b, s.price) :: billR a b r s.upto else billR a b r s.upto
def sumR (a b : Int) : List AStep → Int → Int
  | [], _ => 0
  | s :: r, lo => lapI lo s.upto a b * s.price + sumR a b r s.upto
def sumL : List (Int × Int) → Int
  | [] => 0
  | x :: r => x.1 * x.2 + sumL r
/-- each step ends behind the one ahead of it, the first behind lo -/
def Rise : Int → List AStep → Prop
  | _, [] => True
  | lo, s :: r => lo < s.upto ∧ Rise s.upto r

theorem lapI_max (lo hi a b : Int) : lapI lo hi a b = max 0 (min hi b - max lo a) := by
  unfold lapI
  repeat' split
  all_goals omega
theorem billP_zero (l : List (Int × Int)) : billP l 0 = [] := by
  cases l with
  | nil => rfl
  | cons x r => simp [billP]
theorem billR_nil {a b : Int} : ∀ {ts : List AStep} {lo : Int}, Rise lo ts → b ≤ lo → billR a b ts lo = []
  | [], _, _, _ => rfl
  | s :: r, lo, h, hb => by
    have hl : ¬ 0 < lapI lo s.upto a b := by rw [lapI_max]; omega
    rw [billR, if_neg hl]
    exact billR_nil h.2 (by have := h.1; omega)
theorem bill_same {a b : Int} (hab : a ≤ b) : ∀ {ts : List AStep} {lo : Int}, Rise lo ts → max lo a ≤ b → billP (piecesL ts (max lo a)) (b - max lo a) = billR a b ts lo
  | [], _, _, _ => rfl
  | s :: r, lo, h, hb => by
    obtain ⟨h1, h2⟩ := h
    by_cases hs : s.upto ≤ max lo a
    · have hl : ¬ 0 < lapI lo s.upto a b := by rw [lapI_max]; omega
      rw [piecesL, if_pos hs, billR, if_neg hl]
      have e : max lo a = max s.upto a := by omega
      rw [e]
      exact bill_same hab h2 (by omega)
    · rw [piecesL, if_neg hs]
      by_cases hu : b - max lo a = 0
      · rw [hu, billP_zero, billR, if_neg (by rw [lapI_max]; omega), billR_nil h2 (by omega)]
      · have hl : lapI lo s.upto a b = min (s.upto - max lo a) (b - max lo a) := by rw [lapI_max]; omega
        rw [billP, if_neg hu, billR, if_pos (by rw [hl]; omega), hl]
        congr 1
        by_cases hh : s.upto ≤ b
        · have e1 : b - max lo a - min (s.upto - max lo a) (b - max lo a) = b - max s.upto a := by omega
          have e2 : s.upto = max s.upto a := by omega
          have := bill_same hab h2 (by omega : max s.upto a ≤ b)
          rw [← e2] at this
          show billP (piecesL r s.upto) (b - max lo a - min (s.upto - max lo a) (b - max lo a)) = _
          rw [e1, ← e2]
          exact this
        · have e1 : b - max lo a - min (s.upto - max lo a) (b - max lo a) = 0 := by omega
          show billP (piecesL r s.upto) (b - max lo a - min (s.upto - max lo a) (b - max lo a)) = _
          rw [e1, billP_zero, billR_nil h2 (by omega)]
theorem sum_bill (a b : Int) : ∀ (ts : List AStep) (lo : Int), sumL (billR a b ts lo) = sumR a b ts lo
  | [], _ => rfl
  | s :: r, lo => by
    rw [billR, sumR, ← sum_bill a b r s.upto]
    by_cases h : 0 < lapI lo s.upto a b
    · rw [if_pos h]; rfl
    · have h0 : lapI lo s.upto a b = 0 := by rw [lapI_max] at h ⊢; omega
      rw [if_neg h, h0]; omega
theorem costN_drop (xs : List AStep) (a b : Int) : ∀ k, k ≤ xs.length → costN xs a b k + sumR a b (xs.drop k) (loA xs k) = sumR a b xs 0
  | 0, _ => by show 0 + _ = _; rw [List.drop_zero]; show 0 + sumR a b xs 0 = _; omega
  | k + 1, hk => by
    have ih := costN_drop xs a b k (by omega)
    have hx : xs.drop k = xs.getD k default :: xs.drop (k + 1) := by
      rw [List.getD_eq_getElem?_getD, List.getElem?_eq_getElem (by omega)]
      exact List.drop_eq_getElem_cons (by omega)
    rw [hx, sumR] at ih
    show costN xs a b k + lapI (loA xs k) (xs.getD k default).upto a b * (xs.getD k default).price + sumR a b (xs.drop (k + 1)) (xs.getD k default).upto = _
    omega
theorem costA_sum (xs : List AStep) (a b : Int) : costA xs a b = sumR a b xs 0 := by
  have := costN_drop xs a b xs.length (Nat.le_refl _)
  rw [List.drop_length] at this
  show costN xs a b xs.length = _
  have h0 : sumR a b [] (loA xs xs.length) = 0 := rfl
  omega
theorem rise_of {xs : List AStep} (hall : xs.all okStep = true) (hr : rises xs = true) : ∀ n k, k ≤ xs.length → xs.length - k = n → Rise (loA xs k) (xs.drop k)
  | 0, k, hk, hn => by
    have : xs.drop k = [] := List.drop_eq_nil_of_le (by omega)
    rw [this]; trivial
  | n + 1, k, hk, hn => by
    have hx : xs.drop k = xs.getD k default :: xs.drop (k + 1) := by
      rw [List.getD_eq_getElem?_getD, List.getElem?_eq_getElem (by omega)]
      exact List.drop_eq_getElem_cons (by omega)
    rw [hx]
    refine ⟨?_, rise_of hall hr n (k + 1) (by omega) (by omega)⟩
    cases k with
    | zero => have := okStep_true.1 (okStepAt hall (show 0 < xs.length by omega)); show (0 : Int) < _; omega
    | succ j => exact rises_at hr (by omega)
/-- the program's lines are the reference's -/
theorem bill_law {xs : List AStep} {a u : Int} (hT : tariffE xs = 0) (a0 : 0 ≤ a) (u0 : 0 ≤ u) : billP (piecesL xs a) u = billR a (a + u) xs 0 := by
  obtain ⟨-, -, hall, hr, -⟩ := tariffE_zero hT
  have h := rise_of hall hr xs.length 0 (Nat.zero_le _) (by omega)
  rw [List.drop_zero] at h
  have := bill_same (a := a) (b := a + u) (by omega) (lo := 0) h (by omega)
  have e : max 0 a = a := by omega
  rw [e, show a + u - a = u by omega] at this
  exact this
theorem price_law {xs : List AStep} {a u : Int} (hT : tariffE xs = 0) (a0 : 0 ≤ a) (u0 : 0 ≤ u) : sumL (billP (piecesL xs a) u) = costA xs a (a + u) := by
  rw [bill_law hT a0 u0, sum_bill, costA_sum]
end Go.Proofs.Ytcpljkjibhindaa
