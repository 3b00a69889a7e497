/- tariff.Price: the program -/
import Derived.Test.YtcpljkjibhindaaBill
import Derived.Test.YtcpljkjibhindaaTariffPriced
namespace Go.Proofs.Ytcpljkjibhindaa
open Go.RowKit
set_option maxRecDepth 20000

def costTo (ls : List ALine) (k : Nat) : Int := ((ls.take k).map (·.cost)).sum
theorem costTo_succ {ls : List ALine} {k : Nat} (hk : k < ls.length) : costTo ls (k + 1) = costTo ls k + (ls.getD k default).cost := by
  unfold costTo
  rw [List.take_add_one, List.map_append, List.sum_append, List.getElem?_eq_getElem hk, List.getD_eq_getElem?_getD, List.getElem?_eq_getElem hk]
  simp
theorem sum_lines : ∀ l : List (Int × Int), ((l.map lineOf).map (·.cost)).sum = sumL l
  | [] => rfl
  | x :: r => by
    have := sum_lines r
    simp only [List.map_cons, List.sum_cons, sumL]
    rw [this]; rfl
theorem billP_bd : ∀ {l : List (Int × Int)} {u : Int}, (∀ x ∈ l, 1 ≤ x.1 ∧ x.1 ≤ 10000000 ∧ 1 ≤ x.2 ∧ x.2 ≤ 100000) → 0 ≤ u → u ≤ 2097151 → ∀ y ∈ billP l u, 0 ≤ y.1 * y.2 ∧ y.1 * y.2 ≤ 2097151 * 100000
  | [], _, _, _, _, y, hy => by simp [billP] at hy
  | x :: r, u, h, h0, h1, y, hy => by
    obtain ⟨a, b, c, d⟩ := h x (by simp)
    rw [billP] at hy
    split at hy
    · simp at hy
    · rcases List.mem_cons.1 hy with rfl | hy
      · exact ⟨Int.mul_nonneg (by show 0 ≤ min x.1 u; omega) (by show 0 ≤ x.2; omega), Int.mul_le_mul (by show min x.1 u ≤ _; omega) d (by show 0 ≤ x.2; omega) (by omega)⟩
      · exact billP_bd (fun z hz => h z (List.mem_cons_of_mem _ hz)) (by omega) (by omega) y hy
/-- the lines, their sum, and the bounds of both -/
theorem lines_sum (xs : List AStep) (a u : Int) : (linesA xs a u).length ≤ 8 ∧ costTo (linesA xs a u) (linesA xs a u).length = priceA xs a u ∧ ∀ k, k < (linesA xs a u).length → 0 ≤ ((linesA xs a u).getD k default).cost ∧ ((linesA xs a u).getD k default).cost ≤ 209715100000 := by
  by_cases hU : unitsE xs a u = 0
  · obtain ⟨hT, a0, a1, u0, u1, -⟩ := unitsE_ok hU
    obtain ⟨l0, l8, hall, -, -⟩ := tariffE_zero hT
    have hL : linesA xs a u = (billP (piecesL xs a) u).map lineOf := by rw [linesA, if_pos hU, bill_law hT a0 u0]
    have hb := billP_bd (u := u) (piecesL_ok a0 (List.all_eq_true.1 hall)) u0 u1
    refine ⟨by rw [hL, List.length_map]; exact Nat.le_trans billP_len (Nat.le_trans piecesL_len l8), ?_, fun k hk => ?_⟩
    · unfold costTo
      rw [List.take_length, hL, sum_lines, price_law hT a0 u0, priceA_ok hU]
    · have hm : (linesA xs a u).getD k default ∈ linesA xs a u := by
        rw [List.getD_eq_getElem?_getD, List.getElem?_eq_getElem hk]; exact List.getElem_mem hk
      rw [hL] at hm ⊢
      obtain ⟨y, hy, he⟩ := List.mem_map.1 hm
      have := hb y hy
      rw [← he]
      exact ⟨this.1, by have := this.2; show y.1 * y.2 ≤ _; omega⟩
  · have hL : linesA xs a u = [] := by rw [linesA, if_neg hU]
    rw [hL, priceA_err hU]
    exact ⟨Nat.zero_le _, rfl, fun k hk => absurd hk (Nat.not_lt_zero _)⟩
theorem costTo_bd {ls : List ALine} (h : ∀ k, k < ls.length → 0 ≤ (ls.getD k default).cost ∧ (ls.getD k default).cost ≤ 209715100000) : ∀ k, k ≤ ls.length → 0 ≤ costTo ls k ∧ costTo ls k ≤ 209715100000 * (k : Int)
  | 0, _ => ⟨Int.le_refl _, by show (0 : Int) ≤ _; omega⟩
  | k + 1, hk => by
    have ih := costTo_bd h k (by omega)
    have := h k (by omega)
    rw [costTo_succ (by omega)]
    omega
set_option maxHeartbeats 2000000 in
theorem Price_any (v : Value) (xs : List AStep) (a u : Int) (w : World) (h : Sl w v 2 xs.length (xs.flatMap AStep.cells)) :
    Calls Try.prog 24 #[v, I a, I u] w (Grew (T2 (I (priceA xs a u)) (I (unitsE xs a u))) w) := by
  have B := Lib.hid (Bill_any v xs a u w h)
  obtain ⟨h8, hs, hb⟩ := lines_sum xs a u
  have hbd := Lib.hid (costTo_bd hb)
  have HB := Lib.hid hb
  have HS := Lib.hid hs
  generalize linesA xs a u = ls at *
  generalize priceA xs a u = A at *
  generalize unitsE xs a u = r at *
  clear hb hs
  go_enter Try.func24, Try.ntmps24
  go_wp2_with fail
  refine B.out.mono ?_
  rintro e w1 ⟨v1, rfl, s1, k1⟩
  obtain ⟨a1, cap, rfl, hn, -, -, s1⟩ := s1
  go_wp2
  go_loopw [10, 22] (fun n i wr => ∃ k : Nat, k ≤ ls.length ∧ i = I k ∧ n = I (costTo ls k) ∧ Below w.heap.size w wr ∧ Below w1.heap.size w1 wr) (fun _ i _ => ls.length - (intOf i).toNat)
  case atStart => exact ⟨0, Nat.zero_le _, rfl, rfl, k1, Below.refl _ _⟩
  case round =>
    obtain ⟨k, hk, rfl, rfl, kw, kw1⟩ := hrel
    have hsz := kw.size
    have hsz1 := kw1.size
    by_cases hlt : k < ls.length
    · obtain ⟨g, off, rfl, hg, hc⟩ := s1.resolve_left (by omega)
      obtain ⟨e0, e1, e2⟩ := elLine hg hc kw1 k hlt
      have hi0 : (0 : Int) ≤ (k : Int) := by omega
      have hi1 : (k : Int) < (ls.length : Int) := by omega
      have hst := Lib.hid (costTo_succ hlt)
      obtain ⟨b0, b1⟩ := hbd.out k hk
      obtain ⟨c0, c1⟩ := HB.out k hlt
      clear s1 hc
      generalize costTo ls k = s at *
      generalize ls.getD k default = x at *
      have hw : IntKind.i64.wrap (s + x.cost) = s + x.cost := wrap_small _ (by omega) (by omega)
      go_wp2
      exact ⟨⟨k + 1, by omega, by go_num, by rw [hst.out], kw.alloc hsz _, kw1.alloc hsz1 _⟩, by simp [intOf]; omega⟩
    · have hge : (ls.length : Int) ≤ (k : Int) := by omega
      obtain rfl : k = ls.length := by omega
      rw [HS.out]
      go_wp2
      go_ret2
      exact Grew.intro rfl kw
end Go.Proofs.Ytcpljkjibhindaa
