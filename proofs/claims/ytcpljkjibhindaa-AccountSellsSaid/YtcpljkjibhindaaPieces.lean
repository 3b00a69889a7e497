/- tariff.pieces: the iterator (under way) -/
import Derived.Test.YtcpljkjibhindaaRangeStore
import Derived.Test.YtcpljkjibhindaaTariffLaw
import Derived.Test.YtcpljkjibhindaaOwn
import Derived.RangeFuncNested
import Derived.RangeFuncCalls
import Derived.RangeFuncLeaves
import Derived.Shelf.Abstract
import Derived.Shelf.RegionOpen
import Derived.WalkKit
import Derived.OwnWalkIn
import Derived.TacticsInMore
import Derived.LoopNIn
import Derived.LoopIn
namespace Go.Proofs.Ytcpljkjibhindaa
open Go Go.RowKit Go.Shelf
attribute [local go_sem] Oper.semAt_some

/-- what lay below z lies as it lay, but for two blocks that the loop's body writes; and so does every step that was laid since -/
def KpB (U V z : Nat) (A B : World) : Prop := A.heap.size ≤ B.heap.size ∧ (∀ k o, A.heap[k]? = some o → o.isCells = true → k < z → k ≠ U → k ≠ V → B.heap[k]? = some o) ∧
  ∀ k cur fz, A.heap[k]? = some (.cells cur 78 fz) → z ≤ k → B.heap[k]? = some (.cells cur 78 fz)
theorem KpB.block {U V z : Nat} {A B : World} (h : KpB U V z A B) {a : Addr} {v : Value} (hc : A.cell? a = some v) (hz : a.block < z) (h1 : a.block ≠ U) (h2 : a.block ≠ V) : B.heap[a.block]? = A.heap[a.block]? := by
  obtain ⟨o, ho, hoc⟩ := cells_of_cell hc
  rw [h.2.1 _ o ho hoc hz h1 h2, ho]
theorem piece_drop {xs : List AStep} {k : Nat} (hk : k < xs.length) (f : Int) : piecesL (xs.drop k) f = if (xs.getD k default).upto ≤ f then piecesL (xs.drop (k + 1)) f else ((xs.getD k default).upto - f, (xs.getD k default).price) :: piecesL (xs.drop (k + 1)) (xs.getD k default).upto := by
  have hx : xs.drop k = xs.getD k default :: xs.drop (k + 1) := by
    rw [List.getD_eq_getElem?_getD, List.getElem?_eq_getElem hk]
    exact List.drop_eq_getElem_cons hk
  rw [hx]; rfl
set_option maxRecDepth 100000 in
set_option maxHeartbeats 2000000 in
theorem pieces_in (F : Fence) (n : Nat) (hF : F.fn 78) (hro : F.round = none) (hn : 1 ≤ n) (l bt Bf g off cap U V z : Nat) (xs : List AStep) (a : Int) (J Jx : List (Int × Int) → World → Prop) (W : World)
    (hJ : Turned W.heap.size Bf J) (hb1 : bt < W.heap.size) (hb2 : Bf < W.heap.size) (hb3 : g < W.heap.size) (hne1 : bt ≠ Bf) (hne2 : g ≠ Bf) (hz : z ≤ W.heap.size) (hbz : bt < z) (hfz : Bf < z) (hgz : g < z) (hbU : bt ≠ U) (hbV : bt ≠ V) (hfU : Bf ≠ U) (hfV : Bf ≠ V) (hgU : g ≠ U) (hgV : g ≠ V)
    (hY : ∀ pre x W1, J pre W1 → pre ++ [x] <+: piecesL xs a → YieldAt F (n - 1) Try.prog l #[I x.1, I x.2] W1 fun e W' =>
      (e = .returned (.bool true) ∧ J (pre ++ [x]) W' ∧ KpB U V z W1 W') ∨ (e = .returned (.bool false) ∧ Jx (pre ++ [x]) W'))
    (hT : tariffE xs = 0) (a0 : 0 ≤ a) (hct : W.cell? ⟨bt, 0, none⟩ = some (.slice (some ⟨g, off, none⟩) xs.length cap)) (hcf : W.cell? ⟨Bf, 0, none⟩ = some (I a)) (hff : W.frozen? ⟨Bf, 0, none⟩ = false)
    (hc : ∀ j, j < (xs.flatMap AStep.cells).length → W.cell? ⟨g, off + j, none⟩ = some ((xs.flatMap AStep.cells).getD j undef)) (h0 : J [] W) :
    CallsIn F n Try.prog 78 #[.func (.yield l) #[] #[], .pointer (some ⟨bt, 0, none⟩), .pointer (some ⟨Bf, 0, none⟩)] W fun e W' => (∃ v, e = .returned v) ∧
      ((∃ ys, ys = piecesL xs a ∧ J ys W') ∨ (∃ pre, pre <+: piecesL xs a ∧ Jx pre W')) := by
  refine callsIn_of_wp Try.func78 rfl hF ?_ hro
  simp only [Try.ntmps78, List.size_toArray, List.length_cons, List.length_nil, Nat.reduceAdd, Nat.reduceSub, Array.replicate_succ, Array.replicate_zero, List.push_toArray, List.append_toArray, List.nil_append, List.cons_append]
  have HC := Lib.hid hc
  clear hc
  gi_wp2
  gi_loopw [5, 8] (fun _ i wr => ∃ (k : Nat) (pre : List (Int × Int)) (f : Int), k ≤ xs.length ∧ i = I k ∧ Hid (piecesL xs a = pre ++ piecesL (xs.drop k) f ∧ 0 ≤ f ∧ J pre wr ∧ wr.cell? ⟨bt, 0, none⟩ = some (.slice (some ⟨g, off, none⟩) xs.length cap) ∧ wr.cell? ⟨Bf, 0, none⟩ = some (I f) ∧ wr.frozen? ⟨Bf, 0, none⟩ = false ∧ W.heap.size ≤ wr.heap.size ∧ wr.heap[g]? = W.heap[g]?))
    (fun _ i _ => xs.length - (intOf i).toNat)
  case atStart => exact ⟨0, [], a, Nat.zero_le _, rfl, Lib.hid ⟨by rw [List.drop_zero]; rfl, a0, h0, hct, hcf, hff, Nat.le_refl _, rfl⟩⟩
  case round =>
    obtain ⟨k, pre, f, hk, rfl, HR⟩ := hrel
    obtain ⟨r1, f0, hJp, c1, c2, c3, hsz, hgk⟩ := HR.out
    by_cases hlt : k < xs.length
    · have HE : ∀ A : World, A.heap[g]? = W.heap[g]? → A.cell? ⟨g, off + k * 2, none⟩ = some (I (xs.getD k default).upto) ∧ A.cell? ⟨g, off + k * 2 + 1, none⟩ = some (I (xs.getD k default).price) := fun A hA => by
        obtain ⟨e0, e1⟩ := elStep hb3 HC.out (Below.refl _ _) k hlt
        exact ⟨(World.cell?_of_block hA).trans e0, (World.cell?_of_block hA).trans e1⟩
      obtain ⟨e0, e1⟩ := HE wr hgk
      obtain ⟨-, l8, hall, -, -⟩ := tariffE_zero hT
      obtain ⟨u0, u1, p0, p1⟩ := okStep_true.1 (okStepAt hall hlt)
      have hpd := Lib.hid (piece_drop hlt f)
      have hi0 : (0 : Int) ≤ (k : Int) := by omega
      have hi1 : (k : Int) < (xs.length : Int) := by omega
      have R1 := Lib.hid r1
      generalize xs.getD k default = x at *
      clear r1 HR
      have d1 : ∀ o, (wr.alloc o).cell? ⟨bt, 0, none⟩ = some (.slice (some ⟨g, off, none⟩) xs.length cap) := fun o => ((boxed_below wr o).cell (p := ⟨bt, 0, none⟩) (by show bt < _; omega)).trans c1
      have d2 : ∀ o, (wr.alloc o).cell? ⟨Bf, 0, none⟩ = some (I f) := fun o => ((boxed_below wr o).cell (p := ⟨Bf, 0, none⟩) (by show Bf < _; omega)).trans c2
      have d3 : ∀ o, (wr.alloc o).frozen? ⟨Bf, 0, none⟩ = false := fun o => ((boxed_below wr o).frozen (p := ⟨Bf, 0, none⟩) (by show Bf < _; omega)).trans c3
      have d4 : ∀ o, (wr.alloc o).heap[g]? = W.heap[g]? := fun o => ((boxed_below wr o).block g (by omega)).trans hgk
      have d5 : ∀ o, J pre (wr.alloc o) := fun o => hJ _ _ _ none hJp (World.grownBy_alloc wr o none) (fun r e => by cases e)
      have D := Lib.hid (And.intro d4 d5)
      clear d4 d5 hgk hJp
      by_cases hle : x.upto ≤ f
      · gi_wp2
        go_roundw
        case rel => exact ⟨k + 1, pre, f, by omega, by go_num, Lib.hid ⟨by rw [R1.out, hpd.out, if_pos hle], f0, D.out.2 _, d1 _, d2 _, d3 _, Nat.le_trans hsz (boxed_below wr _).size, D.out.1 _⟩⟩
        case measure => simp [intOf]; omega
      · have hw : IntKind.i64.wrap (x.upto - f) = x.upto - f := wrap_small _ (by clear D R1 hpd; omega) (by clear D R1 hpd; omega)
        obtain ⟨fn, tmps, assign, body, hy, hR⟩ := hY pre (x.upto - f, x.price) (wr.alloc (.cells #[I x.upto, I x.price] 78)) (D.out.2 _) ⟨piecesL (xs.drop (k + 1)) x.upto, by rw [R1.out, hpd.out, if_neg (by omega)]; simp⟩
        dsimp only at hy
        gi_wp2
        refine hR.mono ?_
        rintro e W3 (⟨rfl, hJ3, hk3⟩ | ⟨rfl, hJx3⟩)
        · have s1 : wr.heap.size + 1 ≤ W3.heap.size := by have := hk3.1; rwa [World.size_alloc] at this
          have f1 : W3.cell? ⟨bt, 0, none⟩ = some (.slice (some ⟨g, off, none⟩) xs.length cap) := (World.cell?_of_block (hk3.block (d1 _) hbz hbU hbV)).trans (d1 _)
          have f2 : W3.cell? ⟨Bf, 0, none⟩ = some (I f) := (World.cell?_of_block (hk3.block (d2 _) hfz hfU hfV)).trans (d2 _)
          have f3 : W3.frozen? ⟨Bf, 0, none⟩ = false := (World.frozen?_of_block (hk3.block (d2 (.cells #[I x.upto, I x.price] 78)) hfz hfU hfV)).trans (d3 _)
          have eA := ((boxed_below wr (.cells #[I x.upto, I x.price] 78)).cell (p := ⟨g, off + k * 2, none⟩) (by show g < _; omega)).trans e0
          have f4 : W3.heap[g]? = W.heap[g]? := (hk3.block eA hgz hgU hgV).trans (D.out.1 _)
          have eN : (wr.alloc (.cells #[I x.upto, I x.price] 78)).heap[wr.heap.size]? = some (.cells #[I x.upto, I x.price] 78 (0, 0)) := heap_alloc_new wr _
          have f5 : W3.cell? ⟨wr.heap.size, 0, none⟩ = some (I x.upto) := by rw [cell_of_cells (hk3.2.2 _ _ _ eN (by omega))]; rfl
          have F4 := Lib.hid f4
          clear eN eA d1 d2 d3 e0 e1 c1 c2 c3 f4
          have hset := set_same
          have hoff := set_blk
          have hq := Lib.hid (show J (pre ++ [(x.upto - f, x.price)]) (W3.setCell ⟨Bf, 0, none⟩ (I x.upto)) from hJ _ _ _ _ hJ3 (grownBy_setCell' W3 Bf (I x.upto)) (fun r e => by cases e; exact Or.inl rfl))
          have hb := Lib.hid (show (W3.setCell ⟨Bf, 0, none⟩ (I x.upto)).cell? ⟨bt, 0, none⟩ = some (.slice (some ⟨g, off, none⟩) xs.length cap) by rw [set_blk _ _ _ _ _ _ (Ne.symm hne1)]; exact f1)
          have hs := Lib.hid (show (W3.setCell ⟨Bf, 0, none⟩ (I x.upto)).cell? ⟨Bf, 0, none⟩ = some (I x.upto) by rw [set_same, f2]; rfl)
          have hz := Lib.hid (show (W3.setCell ⟨Bf, 0, none⟩ (I x.upto)).frozen? ⟨Bf, 0, none⟩ = false by rw [World.frozen?_setCell]; exact f3)
          have hg4 := Lib.hid (show (W3.setCell ⟨Bf, 0, none⟩ (I x.upto)).heap[g]? = W.heap[g]? by
            rw [(grownBy_setCell' W3 Bf (I x.upto)).block g (by omega) (fun e => hne2 (by cases e; rfl))]; exact F4.out)
          have hsz3 := Lib.hid (show W.heap.size ≤ (W3.setCell ⟨Bf, 0, none⟩ (I x.upto)).heap.size from Nat.le_trans (by omega) (grownBy_setCell' W3 Bf (I x.upto)).size)
          gi_wp2
          go_roundw
          case rel => exact ⟨k + 1, pre ++ [(x.upto - f, x.price)], x.upto, by omega, by go_num, Lib.hid ⟨by rw [R1.out, hpd.out, if_neg (by omega)]; simp, by omega, hq.out, hb.out, hs.out, hz.out, hsz3.out, hg4.out⟩⟩
          case measure => simp [intOf]; omega
        · gi_wp2
          refine bodyPost_ret (results_none rfl _ _ _) rfl ?_
          exact ⟨⟨_, rfl⟩, .inr ⟨pre ++ [(x.upto - f, x.price)], ⟨piecesL (xs.drop (k + 1)) x.upto, by rw [R1.out, hpd.out, if_neg (by omega)]; simp⟩, hJx3⟩⟩
    · obtain rfl : k = xs.length := by omega
      gi_wp2
      go_end0
      exact ⟨⟨_, rfl⟩, .inl ⟨pre, by rw [r1, List.drop_length]; simp [piecesL], hJp⟩⟩
end Go.Proofs.Ytcpljkjibhindaa
