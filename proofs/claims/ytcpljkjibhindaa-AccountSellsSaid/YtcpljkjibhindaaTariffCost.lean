/- what units cost: the reference -/
import Derived.Test.YtcpljkjibhindaaTariff
namespace Go.Proofs.Ytcpljkjibhindaa
open Go.RowKit
set_option maxRecDepth 20000

/-- of the units from lo to hi, how many lie from a to b -/
def lapI (lo hi a b : Int) : Int := if (if b < hi then b else hi) < (if lo < a then a else lo) then 0 else (if b < hi then b else hi) - (if lo < a then a else lo)
theorem lapI_bd {lo hi a b : Int} (h0 : 0 ≤ lo) (h1 : hi ≤ 10000000) : 0 ≤ lapI lo hi a b ∧ lapI lo hi a b ≤ 10000000 := by
  unfold lapI
  repeat' split
  all_goals omega
def loA (xs : List AStep) : Nat → Int | 0 => 0 | k + 1 => (xs.getD k default).upto
def costN (xs : List AStep) (a b : Int) : Nat → Int | 0 => 0 | k + 1 => costN xs a b k + lapI (loA xs k) (xs.getD k default).upto a b * (xs.getD k default).price
def costA (xs : List AStep) (a b : Int) : Int := costN xs a b xs.length
theorem loA_bd {xs : List AStep} (h : xs.all okStep = true) {k : Nat} (hk : k ≤ xs.length) : 0 ≤ loA xs k ∧ loA xs k ≤ 10000000 := by
  cases k with
  | zero => exact ⟨Int.le_refl _, by show (0 : Int) ≤ _; omega⟩
  | succ k =>
    have := okStep_true.1 (okStepAt h (show k < xs.length by omega))
    exact ⟨by show (0 : Int) ≤ (xs.getD k default).upto; omega, by show (xs.getD k default).upto ≤ _; omega⟩
theorem lapcost_bd {l u a b p : Int} (h0 : 0 ≤ l) (h1 : u ≤ 10000000) (p0 : 1 ≤ p) (p1 : p ≤ 100000) : 0 ≤ lapI l u a b * p ∧ lapI l u a b * p ≤ 1000000000000 := by
  obtain ⟨x0, x1⟩ := lapI_bd (lo := l) (hi := u) (a := a) (b := b) h0 h1
  refine ⟨Int.mul_nonneg x0 (by omega), ?_⟩
  have := Int.mul_le_mul x1 p1 (by omega) (by omega)
  omega
theorem costN_bd {xs : List AStep} (h : xs.all okStep = true) (a b : Int) {k : Nat} (hk : k ≤ xs.length) : 0 ≤ costN xs a b k ∧ costN xs a b k ≤ 1000000000000 * (k : Int) := by
  induction k with
  | zero => exact ⟨Int.le_refl _, by show (0 : Int) ≤ _; omega⟩
  | succ k ih =>
    obtain ⟨i0, i1⟩ := ih (by omega)
    have hx := okStep_true.1 (okStepAt h (show k < xs.length by omega))
    obtain ⟨l0, -⟩ := loA_bd h (show k ≤ xs.length by omega)
    obtain ⟨m0, m1⟩ := lapcost_bd (l := loA xs k) (u := (xs.getD k default).upto) (a := a) (b := b) (p := (xs.getD k default).price) l0 (by omega) (by omega) (by omega)
    have hs : costN xs a b (k + 1) = costN xs a b k + lapI (loA xs k) (xs.getD k default).upto a b * (xs.getD k default).price := rfl
    rw [hs]
    omega

theorem overlap_any (lo hi a b : Int) (w : World) (h0 : 0 ≤ lo) (h1 : lo ≤ 10000000) (h2 : 0 ≤ hi) (h3 : hi ≤ 10000000) (h4 : 0 ≤ a) (h5 : a ≤ 10000000) (h6 : 0 ≤ b) (h7 : b ≤ 10000000) :
    Calls Try.prog 53 #[I lo, I hi, I a, I b] w (Pure (I (lapI lo hi a b)) w) := by
  go_enter Try.func53, Try.ntmps53
  go_wp2
  all_goals
    go_ret
    refine Pure.intro (congrArg (Value.int .i64) ?_)
    (try rw [wrap_small _ (by omega) (by omega)])
    unfold lapI
    repeat' split
    all_goals omega

set_option maxHeartbeats 2000000 in
theorem cost_any (v : Value) (xs : List AStep) (a b : Int) (w : World) (h : Sl w v 2 xs.length (xs.flatMap AStep.cells)) (hT : tariffE xs = 0) (a0 : 0 ≤ a) (a1 : a ≤ 10000000) (b0 : 0 ≤ b) (b1 : b ≤ 10000000) :
    Calls Try.prog 54 #[v, I a, I b] w (Grew (I (costA xs a b)) w) := by
  obtain ⟨p, cap, rfl, hn, hl, -, h⟩ := h
  obtain ⟨l0, l8, hall, -, -⟩ := tariffE_zero hT
  obtain ⟨g, off, rfl, hg, hc⟩ := h.resolve_left (by omega)
  have HC := Lib.hid hc
  have HA := Lib.hid (show costA xs a b = costN xs a b xs.length from rfl)
  generalize costA xs a b = A at *
  have HB := Lib.hid (fun k hk => And.intro (costN_bd hall a b (k := k) hk) (loA_bd hall (k := k) hk))
  have HO := Lib.hid (fun k hk => okStep_true.1 (okStepAt hall (k := k) hk))
  have HL := Lib.hid (fun lo hi w h0 h1 h2 h3 => overlap_any lo hi a b w h0 h1 h2 h3 a0 a1 b0 b1)
  clear h hc hT hall hl
  go_enter Try.func54, Try.ntmps54
  go_wp2
  go_loopw [7, 8, 9] (fun n l i wr => ∃ k : Nat, k ≤ xs.length ∧ n = I (costN xs a b k) ∧ l = I (loA xs k) ∧ i = I k ∧ ∃ q, wr = w.drewN q) (fun _ _ i _ => xs.length - (intOf i).toNat)
  case atStart => exact ⟨0, Nat.zero_le _, rfl, rfl, rfl, 0, rfl⟩
  case round =>
    obtain ⟨k, hk, rfl, rfl, rfl, q, rfl⟩ := hrel
    by_cases hlt : k < xs.length
    · obtain ⟨e0, e1⟩ := elStep hg HC.out (Below.refl _ _) k hlt
      have hi0 : (0 : Int) ≤ (k : Int) := by omega
      have hi1 : (k : Int) < (xs.length : Int) := by omega
      obtain ⟨⟨c0, c1⟩, m0, m1⟩ := HB.out k (by omega)
      obtain ⟨u0, u1, p0, p1⟩ := HO.out k hlt
      have hstep := Lib.hid (And.intro (show costN xs a b (k + 1) = costN xs a b k + lapI (loA xs k) (xs.getD k default).upto a b * (xs.getD k default).price from rfl) (show loA xs (k + 1) = (xs.getD k default).upto from rfl))
      have hmul := lapcost_bd (l := loA xs k) (u := (xs.getD k default).upto) (a := a) (b := b) (p := (xs.getD k default).price) m0 (by omega) p0 p1
      generalize costN xs a b k = c at *
      generalize loA xs k = l at *
      generalize xs.getD k default = x at *
      have L := fun W => HL.out l x.upto W m0 m1 (by omega) (by omega)
      generalize lapI l x.upto a b = t at *
      have w1 : IntKind.i64.wrap (t * x.price) = t * x.price := wrap_small _ (by omega) (by omega)
      have w2 : IntKind.i64.wrap (c + t * x.price) = c + t * x.price := wrap_small _ (by omega) (by omega)
      clear hmul u0 u1 p0 p1 c0 c1 m0 m1 HL
      go_wp2
      go_quiet ((first | (go_at_call 53; exact Pure.quiet2 (L _))))
      go_wp2
      go_round
      case rel => exact ⟨k + 1, by omega, by rw [hstep.out.1], by rw [hstep.out.2], by go_num, _, rfl⟩
      case measure => simp [intOf]; omega
    · have hge : (xs.length : Int) ≤ (k : Int) := by omega
      obtain rfl : k = xs.length := by omega
      rw [← HA.out]
      clear HB HO HL
      go_wp2
      go_ret
      exact Grew.intro rfl (by repeat first | exact Below.refl _ _ | assumption | refine drewN_below ?_ _ | refine Below.alloc ?_ (by first | exact Nat.le_refl _ | exact Below.size (by assumption) | (simp; done) | (simp; omega) | omega) _ | refine Below.setCell ?_ (by first | exact Nat.le_refl _ | (simp; done) | (simp; omega) | omega) _)
end Go.Proofs.Ytcpljkjibhindaa
