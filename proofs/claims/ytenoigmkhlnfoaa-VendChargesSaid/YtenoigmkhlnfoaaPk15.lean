/- what units cost: the reference · what units cost: line by line as the program counts, overlap by overlap as the reference does: plain law · tariff.pieces: the iterator (under way) -/
import Derived.Test.YtenoigmkhlnfoaaPk09
import Derived.Test.YtenoigmkhlnfoaaPk14
import Derived.Test.YtenoigmkhlnfoaaPk02
import Derived.RangeFuncNested
import Derived.RangeFuncCalls
import Derived.RangeFuncLeaves
import Derived.Shelf.Abstract
import Derived.Shelf.RegionOpen
import Derived.WalkKit
import Derived.OwnWalkIn
import Derived.TacticsInMore
import Derived.LoopNIn
import Derived.LoopIn
namespace Go.Proofs.Ytenoigmkhlnfoaa
set_option linter.unusedSimpArgs false
set_option linter.unusedVariables false
open Go.RowKit
set_option maxRecDepth 20000

/-- of the units from lo to hi, how many lie from a to b -/
def lapI (lo hi a b : Int) : Int := if (if b < hi then b else hi) < (if lo < a then a else lo) then 0 else (if b < hi then b else hi) - (if lo < a then a else lo)
theorem lapI_bd {lo hi a b : Int} (h0 : 0 ≤ lo) (h1 : hi ≤ 10000000) : 0 ≤ lapI lo hi a b ∧ lapI lo hi a b ≤ 10000000 := by
  unfold lapI
  repeat' split
  all_goals omega
def loA (xs : List AStep) : Nat → Int | 0 => 0 | k + 1 => (xs.getD k default).upto
def costN (xs : List AStep) (a b : Int) : Nat → Int | 0 => 0 | k + 1 => costN xs a b k + lapI (loA xs k) (xs.getD k default).upto a b * (xs.getD k default).price
def costA (xs : List AStep) (a b : Int) : Int := costN xs a b xs.length
theorem loA_bd {xs : List AStep} (h : xs.all okStep = true) {k : Nat} (hk : k ≤ xs.length) : 0 ≤ loA xs k ∧ loA xs k ≤ 10000000 := by
  cases k with
  | zero => exact ⟨Int.le_refl _, by show (0 : Int) ≤ _; omega⟩
  | succ k =>
    have := okStep_true.1 (okStepAt h (show k < xs.length by omega))
    exact ⟨by show (0 : Int) ≤ (xs.getD k default).upto; omega, by show (xs.getD k default).upto ≤ _; omega⟩
theorem lapcost_bd {l u a b p : Int} (h0 : 0 ≤ l) (h1 : u ≤ 10000000) (p0 : 1 ≤ p) (p1 : p ≤ 100000) : 0 ≤ lapI l u a b * p ∧ lapI l u a b * p ≤ 1000000000000 := by
  obtain ⟨x0, x1⟩ := lapI_bd (lo := l) (hi := u) (a := a) (b := b) h0 h1
  refine ⟨Int.mul_nonneg x0 (by omega), ?_⟩
  have := Int.mul_le_mul x1 p1 (by omega) (by omega)
  omega
theorem costN_bd {xs : List AStep} (h : xs.all okStep = true) (a b : Int) {k : Nat} (hk : k ≤ xs.length) : 0 ≤ costN xs a b k ∧ costN xs a b k ≤ 1000000000000 * (k : Int) := by
  induction k with
  | zero => exact ⟨Int.le_refl _, by show (0 : Int) ≤ _; omega⟩
  | succ k ih =>
    obtain ⟨i0, i1⟩ := ih (by omega)
    have hx := okStep_true.1 (okStepAt h (show k < xs.length by omega))
    obtain ⟨l0, -⟩ := loA_bd h (show k ≤ xs.length by omega)
    obtain ⟨m0, m1⟩ := lapcost_bd (l := loA xs k) (u := (xs.getD k default).upto) (a := a) (b := b) (p := (xs.getD k default).price) l0 (by omega) (by omega) (by omega)
    have hs : costN xs a b (k + 1) = costN xs a b k + lapI (loA xs k) (xs.getD k default).upto a b * (xs.getD k default).price := rfl
    rw [hs]
    omega

theorem overlap_any (lo hi a b : Int) (w : World) (h0 : 0 ≤ lo) (h1 : lo ≤ 10000000) (h2 : 0 ≤ hi) (h3 : hi ≤ 10000000) (h4 : 0 ≤ a) (h5 : a ≤ 10000000) (h6 : 0 ≤ b) (h7 : b ≤ 10000000) :
    Calls Try.prog 122 #[I lo, I hi, I a, I b] w (Pure (I (lapI lo hi a b)) w) := by
  go_enter Try.func122, Try.ntmps122
  go_wp2
  all_goals
    go_ret
    refine Pure.intro (congrArg (Value.int .i64) ?_)
    (try rw [wrap_small _ (by omega) (by omega)])
    unfold lapI
    repeat' split
    all_goals omega

set_option maxHeartbeats 2000000 in
theorem cost_any (v : Value) (xs : List AStep) (a b : Int) (w : World) (h : Sl w v 2 xs.length (xs.flatMap AStep.cells)) (hT : tariffE xs = 0) (a0 : 0 ≤ a) (a1 : a ≤ 10000000) (b0 : 0 ≤ b) (b1 : b ≤ 10000000) :
    Calls Try.prog 113 #[v, I a, I b] w (Grew (I (costA xs a b)) w) := by
  obtain ⟨p, cap, rfl, hn, hl, -, h⟩ := h
  obtain ⟨l0, l8, hall, -, -⟩ := tariffE_zero hT
  obtain ⟨g, off, rfl, hg, hc⟩ := h.resolve_left (by omega)
  have HC := Lib.hid hc
  have HA := Lib.hid (show costA xs a b = costN xs a b xs.length from rfl)
  generalize costA xs a b = A at *
  have HB := Lib.hid (fun k hk => And.intro (costN_bd hall a b (k := k) hk) (loA_bd hall (k := k) hk))
  have HO := Lib.hid (fun k hk => okStep_true.1 (okStepAt hall (k := k) hk))
  have HL := Lib.hid (fun lo hi w h0 h1 h2 h3 => overlap_any lo hi a b w h0 h1 h2 h3 a0 a1 b0 b1)
  clear h hc hT hall hl
  go_enter Try.func113, Try.ntmps113
  go_wp2
  go_loopw [7, 8, 9] (fun n l i wr => ∃ k : Nat, k ≤ xs.length ∧ n = I (costN xs a b k) ∧ l = I (loA xs k) ∧ i = I k ∧ ∃ q, wr = w.drewN q) (fun _ _ i _ => xs.length - (intOf i).toNat)
  case atStart => exact ⟨0, Nat.zero_le _, rfl, rfl, rfl, 0, rfl⟩
  case round =>
    obtain ⟨k, hk, rfl, rfl, rfl, q, rfl⟩ := hrel
    by_cases hlt : k < xs.length
    · obtain ⟨e0, e1⟩ := elStep hg HC.out (Below.refl _ _) k hlt
      have hi0 : (0 : Int) ≤ (k : Int) := by omega
      have hi1 : (k : Int) < (xs.length : Int) := by omega
      obtain ⟨⟨c0, c1⟩, m0, m1⟩ := HB.out k (by omega)
      obtain ⟨u0, u1, p0, p1⟩ := HO.out k hlt
      have hstep := Lib.hid (And.intro (show costN xs a b (k + 1) = costN xs a b k + lapI (loA xs k) (xs.getD k default).upto a b * (xs.getD k default).price from rfl) (show loA xs (k + 1) = (xs.getD k default).upto from rfl))
      have hmul := lapcost_bd (l := loA xs k) (u := (xs.getD k default).upto) (a := a) (b := b) (p := (xs.getD k default).price) m0 (by omega) p0 p1
      generalize costN xs a b k = c at *
      generalize loA xs k = l at *
      generalize xs.getD k default = x at *
      have L := fun W => HL.out l x.upto W m0 m1 (by omega) (by omega)
      generalize lapI l x.upto a b = t at *
      have w1 : IntKind.i64.wrap (t * x.price) = t * x.price := wrap_small _ (by omega) (by omega)
      have w2 : IntKind.i64.wrap (c + t * x.price) = c + t * x.price := wrap_small _ (by omega) (by omega)
      clear hmul u0 u1 p0 p1 c0 c1 m0 m1 HL
      go_wp2
      go_quiet ((first | (go_at_call 122; exact Pure.quiet2 (L _))))
      go_wp2
      go_round
      case rel => exact ⟨k + 1, by omega, by rw [hstep.out.1], by rw [hstep.out.2], by go_num, _, rfl⟩
      case measure => simp [intOf]; omega
    · have hge : (xs.length : Int) ≤ (k : Int) := by omega
      obtain rfl : k = xs.length := by omega
      rw [← HA.out]
      clear HB HO HL
      go_wp2
      go_ret
      exact Grew.intro rfl below_auto
end Go.Proofs.Ytenoigmkhlnfoaa
namespace Go.Proofs.Ytenoigmkhlnfoaa
set_option linter.unusedSimpArgs false
set_option linter.unusedVariables false
open Go.RowKit
set_option maxRecDepth 20000

/-- the steps from a number of units on, each with how many are left in it, and its price -/
def piecesL : List AStep → Int → List (Int × Int)
  | [], _ => []
  | s :: r, f => if s.upto ≤ f then piecesL r f else (s.upto - f, s.price) :: piecesL r s.upto
/-- units and price of each line -/
def billP : List (Int × Int) → Int → List (Int × Int)
  | [], _ => []
  | x :: r, u => if u = 0 then [] else (min x.1 u, x.2) :: billP r (u - min x.1 u)
def billR (a b : Int) : List AStep → Int → List (Int × Int)
  | [], _ => []
  | s :: r, lo => if 0 < lapI lo s.upto a b then (lapI lo s.upto a b, s.price) :: billR a b r s.upto else billR a b r s.upto
def sumR (a b : Int) : List AStep → Int → Int
  | [], _ => 0
  | s :: r, lo => lapI lo s.upto a b * s.price + sumR a b r s.upto
def sumL : List (Int × Int) → Int
  | [] => 0
  | x :: r => x.1 * x.2 + sumL r
/-- each step ends behind the one ahead of it, the first behind lo -/
def Rise : Int → List AStep → Prop
  | _, [] => True
  | lo, s :: r => lo < s.upto ∧ Rise s.upto r

theorem lapI_max (lo hi a b : Int) : lapI lo hi a b = max 0 (min hi b - max lo a) := by
  unfold lapI
  repeat' split
  all_goals omega
theorem costN_drop (xs : List AStep) (a b : Int) : ∀ k, k ≤ xs.length → costN xs a b k + sumR a b (xs.drop k) (loA xs k) = sumR a b xs 0
  | 0, _ => by show 0 + _ = _; rw [List.drop_zero]; show 0 + sumR a b xs 0 = _; omega
  | k + 1, hk => by
    have ih := costN_drop xs a b k (by omega)
    have hx : xs.drop k = xs.getD k default :: xs.drop (k + 1) := by
      rw [List.getD_eq_getElem?_getD, List.getElem?_eq_getElem (by omega)]
      exact List.drop_eq_getElem_cons (by omega)
    rw [hx, sumR] at ih
    show costN xs a b k + lapI (loA xs k) (xs.getD k default).upto a b * (xs.getD k default).price + sumR a b (xs.drop (k + 1)) (xs.getD k default).upto = _
    omega
theorem costA_sum (xs : List AStep) (a b : Int) : costA xs a b = sumR a b xs 0 := by
  have := costN_drop xs a b xs.length (Nat.le_refl _)
  rw [List.drop_length] at this
  show costN xs a b xs.length = _
  have h0 : sumR a b [] (loA xs xs.length) = 0 := rfl
  omega
theorem rise_of {xs : List AStep} (hall : xs.all okStep = true) (hr : rises xs = true) : ∀ n k, k ≤ xs.length → xs.length - k = n → Rise (loA xs k) (xs.drop k)
  | 0, k, hk, hn => by
    have : xs.drop k = [] := List.drop_eq_nil_of_le (by omega)
    rw [this]; trivial
  | n + 1, k, hk, hn => by
    have hx : xs.drop k = xs.getD k default :: xs.drop (k + 1) := by
      rw [List.getD_eq_getElem?_getD, List.getElem?_eq_getElem (by omega)]
      exact List.drop_eq_getElem_cons (by omega)
    rw [hx]
    refine ⟨?_, rise_of hall hr n (k + 1) (by omega) (by omega)⟩
    cases k with
    | zero => have := okStep_true.1 (okStepAt hall (show 0 < xs.length by omega)); show (0 : Int) < _; omega
    | succ j => exact rises_at hr (by omega)
end Go.Proofs.Ytenoigmkhlnfoaa
namespace Go.Proofs.Ytenoigmkhlnfoaa
set_option linter.unusedSimpArgs false
set_option linter.unusedVariables false
open Go Go.RowKit Go.Shelf
set_option maxRecDepth 20000
attribute [local go_sem] Oper.semAt_some

/-- what lay below z lies as it lay, but for two blocks that the loop's body writes; and so does every step that was laid since -/
def KpB (U V z : Nat) (A B : World) : Prop := A.heap.size ≤ B.heap.size ∧ (∀ k o, A.heap[k]? = some o → o.isCells = true → k < z → k ≠ U → k ≠ V → B.heap[k]? = some o) ∧
  ∀ k cur fz, A.heap[k]? = some (.cells cur 137 fz) → z ≤ k → B.heap[k]? = some (.cells cur 137 fz)
theorem KpB.block {U V z : Nat} {A B : World} (h : KpB U V z A B) {a : Addr} {v : Value} (hc : A.cell? a = some v) (hz : a.block < z) (h1 : a.block ≠ U) (h2 : a.block ≠ V) : B.heap[a.block]? = A.heap[a.block]? := by
  obtain ⟨o, ho, hoc⟩ := cells_of_cell hc
  rw [h.2.1 _ o ho hoc hz h1 h2, ho]
theorem piece_drop {xs : List AStep} {k : Nat} (hk : k < xs.length) (f : Int) : piecesL (xs.drop k) f = if (xs.getD k default).upto ≤ f then piecesL (xs.drop (k + 1)) f else ((xs.getD k default).upto - f, (xs.getD k default).price) :: piecesL (xs.drop (k + 1)) (xs.getD k default).upto := by
  have hx : xs.drop k = xs.getD k default :: xs.drop (k + 1) := by
    rw [List.getD_eq_getElem?_getD, List.getElem?_eq_getElem hk]
    exact List.drop_eq_getElem_cons hk
  rw [hx]; rfl
set_option maxRecDepth 100000 in
set_option maxHeartbeats 2000000 in
theorem pieces_in (F : Fence) (n : Nat) (hF : F.fn 128) (hro : F.round = none) (hn : 1 ≤ n) (l bt Bf g off cap U V z : Nat) (xs : List AStep) (a : Int) (J Jx : List (Int × Int) → World → Prop) (W : World)
    (hJ : Turned W.heap.size Bf J) (hb1 : bt < W.heap.size) (hb2 : Bf < W.heap.size) (hb3 : g < W.heap.size) (hne1 : bt ≠ Bf) (hne2 : g ≠ Bf) (hz : z ≤ W.heap.size) (hbz : bt < z) (hfz : Bf < z) (hgz : g < z) (hbU : bt ≠ U) (hbV : bt ≠ V) (hfU : Bf ≠ U) (hfV : Bf ≠ V) (hgU : g ≠ U) (hgV : g ≠ V)
    (hY : ∀ pre x W1, J pre W1 → pre ++ [x] <+: piecesL xs a → YieldAt F (n - 1) Try.prog l #[I x.1, I x.2] W1 fun e W' =>
      (e = .returned (.bool true) ∧ J (pre ++ [x]) W' ∧ KpB U V z W1 W') ∨ (e = .returned (.bool false) ∧ Jx (pre ++ [x]) W'))
    (hT : tariffE xs = 0) (a0 : 0 ≤ a) (hct : W.cell? ⟨bt, 0, none⟩ = some (.slice (some ⟨g, off, none⟩) xs.length cap)) (hcf : W.cell? ⟨Bf, 0, none⟩ = some (I a)) (hff : W.frozen? ⟨Bf, 0, none⟩ = false)
    (hc : ∀ j, j < (xs.flatMap AStep.cells).length → W.cell? ⟨g, off + j, none⟩ = some ((xs.flatMap AStep.cells).getD j undef)) (h0 : J [] W) :
    CallsIn F n Try.prog 128 #[.func (.yield l) #[] #[], .pointer (some ⟨bt, 0, none⟩), .pointer (some ⟨Bf, 0, none⟩)] W fun e W' => (∃ v, e = .returned v) ∧
      ((∃ ys, ys = piecesL xs a ∧ J ys W') ∨ (∃ pre, pre <+: piecesL xs a ∧ Jx pre W')) := by
  refine callsIn_of_wp Try.func128 rfl hF ?_ hro
  simp only [Try.ntmps128, List.size_toArray, List.length_cons, List.length_nil, Nat.reduceAdd, Nat.reduceSub, Array.replicate_succ, Array.replicate_zero, List.push_toArray, List.append_toArray, List.nil_append, List.cons_append]
  have HC := Lib.hid hc
  clear hc
  gi_wp2
  gi_loopw [5, 8] (fun _ i wr => ∃ (k : Nat) (pre : List (Int × Int)) (f : Int), k ≤ xs.length ∧ i = I k ∧ Hid (piecesL xs a = pre ++ piecesL (xs.drop k) f ∧ 0 ≤ f ∧ J pre wr ∧ wr.cell? ⟨bt, 0, none⟩ = some (.slice (some ⟨g, off, none⟩) xs.length cap) ∧ wr.cell? ⟨Bf, 0, none⟩ = some (I f) ∧ wr.frozen? ⟨Bf, 0, none⟩ = false ∧ W.heap.size ≤ wr.heap.size ∧ wr.heap[g]? = W.heap[g]?))
    (fun _ i _ => xs.length - (intOf i).toNat)
  case atStart => exact ⟨0, [], a, Nat.zero_le _, rfl, Lib.hid ⟨by rw [List.drop_zero]; rfl, a0, h0, hct, hcf, hff, Nat.le_refl _, rfl⟩⟩
  case round =>
    obtain ⟨k, pre, f, hk, rfl, HR⟩ := hrel
    obtain ⟨r1, f0, hJp, c1, c2, c3, hsz, hgk⟩ := HR.out
    by_cases hlt : k < xs.length
    · have HE : ∀ A : World, A.heap[g]? = W.heap[g]? → A.cell? ⟨g, off + k * 2, none⟩ = some (I (xs.getD k default).upto) ∧ A.cell? ⟨g, off + k * 2 + 1, none⟩ = some (I (xs.getD k default).price) := fun A hA => by
        obtain ⟨e0, e1⟩ := elStep hb3 HC.out (Below.refl _ _) k hlt
        exact ⟨(World.cell?_of_block hA).trans e0, (World.cell?_of_block hA).trans e1⟩
      obtain ⟨e0, e1⟩ := HE wr hgk
      obtain ⟨-, l8, hall, -, -⟩ := tariffE_zero hT
      obtain ⟨u0, u1, p0, p1⟩ := okStep_true.1 (okStepAt hall hlt)
      have hpd := Lib.hid (piece_drop hlt f)
      have hi0 : (0 : Int) ≤ (k : Int) := by omega
      have hi1 : (k : Int) < (xs.length : Int) := by omega
      have R1 := Lib.hid r1
      generalize xs.getD k default = x at *
      clear r1 HR
      have d1 : ∀ o, (wr.alloc o).cell? ⟨bt, 0, none⟩ = some (.slice (some ⟨g, off, none⟩) xs.length cap) := fun o => ((boxed_below wr o).cell (p := ⟨bt, 0, none⟩) (by show bt < _; omega)).trans c1
      have d2 : ∀ o, (wr.alloc o).cell? ⟨Bf, 0, none⟩ = some (I f) := fun o => ((boxed_below wr o).cell (p := ⟨Bf, 0, none⟩) (by show Bf < _; omega)).trans c2
      have d3 : ∀ o, (wr.alloc o).frozen? ⟨Bf, 0, none⟩ = false := fun o => ((boxed_below wr o).frozen (p := ⟨Bf, 0, none⟩) (by show Bf < _; omega)).trans c3
      have d4 : ∀ o, (wr.alloc o).heap[g]? = W.heap[g]? := fun o => ((boxed_below wr o).block g (by omega)).trans hgk
      have d5 : ∀ o, J pre (wr.alloc o) := fun o => hJ _ _ _ none hJp (World.grownBy_alloc wr o none) (fun r e => by cases e)
      have D := Lib.hid (And.intro d4 d5)
      clear d4 d5 hgk hJp
      by_cases hle : x.upto ≤ f
      · gi_wp2
        go_roundw
        case rel => exact ⟨k + 1, pre, f, by omega, by go_num, Lib.hid ⟨by rw [R1.out, hpd.out, if_pos hle], f0, D.out.2 _, d1 _, d2 _, d3 _, Nat.le_trans hsz (boxed_below wr _).size, D.out.1 _⟩⟩
        case measure => simp [intOf]; omega
      · have hw : IntKind.i64.wrap (x.upto - f) = x.upto - f := wrap_small _ (by clear D R1 hpd; omega) (by clear D R1 hpd; omega)
        obtain ⟨fn, tmps, assign, body, hy, hR⟩ := hY pre (x.upto - f, x.price) (wr.alloc (.cells #[I x.upto, I x.price] 137)) (D.out.2 _) ⟨piecesL (xs.drop (k + 1)) x.upto, by rw [R1.out, hpd.out, if_neg (by omega)]; simp⟩
        dsimp only at hy
        gi_wp2
        refine hR.mono ?_
        rintro e W3 (⟨rfl, hJ3, hk3⟩ | ⟨rfl, hJx3⟩)
        · have s1 : wr.heap.size + 1 ≤ W3.heap.size := by have := hk3.1; rwa [World.size_alloc] at this
          have f1 : W3.cell? ⟨bt, 0, none⟩ = some (.slice (some ⟨g, off, none⟩) xs.length cap) := (World.cell?_of_block (hk3.block (d1 _) hbz hbU hbV)).trans (d1 _)
          have f2 : W3.cell? ⟨Bf, 0, none⟩ = some (I f) := (World.cell?_of_block (hk3.block (d2 _) hfz hfU hfV)).trans (d2 _)
          have f3 : W3.frozen? ⟨Bf, 0, none⟩ = false := (World.frozen?_of_block (hk3.block (d2 (.cells #[I x.upto, I x.price] 137)) hfz hfU hfV)).trans (d3 _)
          have eA := ((boxed_below wr (.cells #[I x.upto, I x.price] 137)).cell (p := ⟨g, off + k * 2, none⟩) (by show g < _; omega)).trans e0
          have f4 : W3.heap[g]? = W.heap[g]? := (hk3.block eA hgz hgU hgV).trans (D.out.1 _)
          have eN : (wr.alloc (.cells #[I x.upto, I x.price] 137)).heap[wr.heap.size]? = some (.cells #[I x.upto, I x.price] 137 (0, 0)) := heap_alloc_new wr _
          have f5 : W3.cell? ⟨wr.heap.size, 0, none⟩ = some (I x.upto) := by rw [cell_of_cells (hk3.2.2 _ _ _ eN (by omega))]; rfl
          have F4 := Lib.hid f4
          clear eN eA d1 d2 d3 e0 e1 c1 c2 c3 f4
          have hset := set_same
          have hoff := set_blk
          have hq := Lib.hid (show J (pre ++ [(x.upto - f, x.price)]) (W3.setCell ⟨Bf, 0, none⟩ (I x.upto)) from hJ _ _ _ _ hJ3 (grownBy_setCell' W3 Bf (I x.upto)) (fun r e => by cases e; exact Or.inl rfl))
          have hb := Lib.hid (show (W3.setCell ⟨Bf, 0, none⟩ (I x.upto)).cell? ⟨bt, 0, none⟩ = some (.slice (some ⟨g, off, none⟩) xs.length cap) by rw [set_blk _ _ _ _ _ _ (Ne.symm hne1)]; exact f1)
          have hs := Lib.hid (show (W3.setCell ⟨Bf, 0, none⟩ (I x.upto)).cell? ⟨Bf, 0, none⟩ = some (I x.upto) by rw [set_same, f2]; rfl)
          have hz := Lib.hid (show (W3.setCell ⟨Bf, 0, none⟩ (I x.upto)).frozen? ⟨Bf, 0, none⟩ = false by rw [World.frozen?_setCell]; exact f3)
          have hg4 := Lib.hid (show (W3.setCell ⟨Bf, 0, none⟩ (I x.upto)).heap[g]? = W.heap[g]? by
            rw [(grownBy_setCell' W3 Bf (I x.upto)).block g (by omega) (fun e => hne2 (by cases e; rfl))]; exact F4.out)
          have hsz3 := Lib.hid (show W.heap.size ≤ (W3.setCell ⟨Bf, 0, none⟩ (I x.upto)).heap.size from Nat.le_trans (by omega) (grownBy_setCell' W3 Bf (I x.upto)).size)
          gi_wp2
          go_roundw
          case rel => exact ⟨k + 1, pre ++ [(x.upto - f, x.price)], x.upto, by omega, by go_num, Lib.hid ⟨by rw [R1.out, hpd.out, if_neg (by omega)]; simp, by omega, hq.out, hb.out, hs.out, hz.out, hsz3.out, hg4.out⟩⟩
          case measure => simp [intOf]; omega
        · gi_wp2
          refine bodyPost_ret (results_none rfl _ _ _) rfl ?_
          exact ⟨⟨_, rfl⟩, .inr ⟨pre ++ [(x.upto - f, x.price)], ⟨piecesL (xs.drop (k + 1)) x.upto, by rw [R1.out, hpd.out, if_neg (by omega)]; simp⟩, hJx3⟩⟩
    · obtain rfl : k = xs.length := by omega
      gi_wp2
      go_end0
      exact ⟨⟨_, rfl⟩, .inl ⟨pre, by rw [r1, List.drop_length]; simp [piecesL], hJp⟩⟩
end Go.Proofs.Ytenoigmkhlnfoaa
