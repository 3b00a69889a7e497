/- steps of a book in memory: what both sides' loops want · a book's bounds: plain · disk: the tape, program and reference, as far as where the next record goes · disk: the walk over a tape, program and reference -/
import Derived.Test.YtdjgcenjonegjaaGreatPk25
import Derived.Test.YtdjgcenjonegjaaGreatPk20
import Derived.Test.YtdjgcenjonegjaaGreatPk01
import Derived.Test.YtdjgcenjonegjaaGreatOwn
import Derived.Test.YtdjgcenjonegjaaGreatPk10
set_option maxRecDepth 20000
set_option maxHeartbeats 8000000
set_option linter.unusedSimpArgs false
set_option linter.unusedVariables false
namespace Go.Proofs.YtdjgcenjonegjaaGreat
section
open Go Go.RowKit

theorem elEv {w W : World} {b off : Nat} {xs : List AEvent} (hb : b < w.heap.size) (hc : ∀ j, j < (xs.flatMap AEvent.cells).length → w.cell? ⟨b, off + j, none⟩ = some ((xs.flatMap AEvent.cells).getD j undef)) (hbw : Below w.heap.size w W) (k : Nat) (hk : k < xs.length) :
    ∀ i, i < 13 → W.cell? ⟨b, off + k * 13 + i, none⟩ = some ((xs.getD k default).cells.getD i undef) := by
  intro i hi; have := (hbw.cell (p := ⟨b, off + (k * 13 + i), none⟩) hb).trans (hc (k * 13 + i) (by rw [length_flat _ 13 AEvent.cells_len]; exact pos_lt hk hi)); rw [getD_flat _ 13 AEvent.cells_len _ _ _ hk hi] at this; rw [Nat.add_assoc]; exact this
theorem info_custs : (Tryz.prog.info? 67).map (fun i => (i.zero, i.size, i.bytes)) = some (some (.agg #[.int .i64 0, .int .i64 0, .int .i64 0, .int .i64 0, .int .i64 0, .int .i64 0, .slice none 0 0, .slice none 0 0]), 8, 96) := by kernel_rfl
theorem CRep.mono {W : World} {B C : Nat} {x : ACust} {c : PCust} (h : CRep W B x c) (hC : C ≤ B) : CRep W C x c := ⟨h.1, h.2.1, owns_mono h.2.2 hC⟩
theorem BookAt.mono {W : World} {B C : Nat} {v : Value} {cs : List PCust} {xs : List ACust} (h : BookAt W B v cs xs) (hC : C ≤ B) : BookAt W C v cs xs :=
  ⟨h.1, owns_mono h.2.1 hC, fun k hk => (h.2.2.1 k hk).mono hC, fun k hk z => ⟨fun hz => ⟨Nat.le_trans hC ((h.2.2.2 k hk z).1 hz).1, ((h.2.2.2 k hk z).1 hz).2⟩, (h.2.2.2 k hk z).2⟩⟩
/-- what comes back: a book in new memory, a place, a code -/
def BookP (t : PTerms) (l : List AEvent) (w : World) (e : Ending) (w' : World) : Prop :=
  ∃ v xs, e = .returned (T3 (.agg #[v]) (I ((bookR t l).2.1 : Nat)) (I (bookR t l).1)) ∧ BookAt w' w.heap.size v (bookR t l).2.2 xs ∧ Below w.heap.size w w'
theorem BookP.bad {t : PTerms} {l : List AEvent} {w w' : World} {E : Int} {k : Nat} (h : bookR t l = (E, k, [])) (kw : Below w.heap.size w w') : BookP t l w (.returned (T3 (.agg #[.slice none 0 0]) (I (k : Nat)) (I E))) w' := by
  unfold BookP; rw [h]; exact ⟨_, [], rfl, BookAt.nil _ _, kw⟩
theorem BookP.good {t : PTerms} {l : List AEvent} {w w' : World} {v : Value} {B : Nat} {cs : List PCust} {xs : List ACust} (h : bookR t l = (0, 0, cs)) (hB : BookAt w' B v cs xs) (hw : w.heap.size ≤ B) (kw : Below w.heap.size w w') : BookP t l w (.returned (T3 (.agg #[v]) (I 0) (I 0))) w' := by
  unfold BookP; rw [h]; exact ⟨_, xs, rfl, hB.mono hw, kw⟩
theorem bookR_terms {t : PTerms} {l : List AEvent} (h : t.E ≠ 0) : bookR t l = (t.E, 0, []) := by unfold bookR; rw [if_neg h]
theorem bookR_size {t : PTerms} {l : List AEvent} (h : t.E = 0) (h2 : 120 < l.length) : bookR t l = (1, 0, []) := by unfold bookR; rw [if_pos h, if_pos h2]
theorem bookR_run {t : PTerms} {l : List AEvent} (h : t.E = 0) (h2 : ¬ 120 < l.length) : bookR t l = runB t [] l 0 := by unfold bookR; rw [if_pos h, if_neg h2]
theorem drop_at {α : Type} [Inhabited α] {l : List α} {k : Nat} (h : k < l.length) : l.drop k = l.getD k default :: l.drop (k + 1) := by
  rw [List.drop_eq_getElem_cons h, List.getD_eq_getElem?_getD, List.getElem?_eq_getElem h]; rfl
theorem HapG.pre {B : Nat} {y : ACust} {c : PCust} {so : Option Nat} {w P w' : World} (h : HapG B y c so P w') (hb : Below w.heap.size w P) : HapG B y c so w w' := by
  obtain ⟨h1, h2, h3, h4⟩ := h; exact ⟨h1, fun z hz => ⟨Nat.le_trans hb.size (h2 z hz).1, (h2 z hz).2⟩, fun z hz => (h3 z hz).imp _root_.id (fun h => Nat.le_trans hb.size h), grown_pre h4 hb⟩
theorem HapG.post {B : Nat} {y : ACust} {c : PCust} {so : Option Nat} {w w' w'' : World} (h : HapG B y c so w w') (hb : Below w'.heap.size w' w'') : HapG B y c so w w'' := by
  obtain ⟨h1, h2, h3, h4⟩ := h; exact ⟨h1.below hb, h2, h3, hb.os.trans h4.os, hb.tape.trans h4.tape, hb.output.trans h4.output, Nat.le_trans h4.size hb.size, fun k hk hr => (hb.block k (Nat.lt_of_lt_of_le hk h4.size)).trans (h4.block k hk hr)⟩
theorem grown_post {w w' w'' : World} {so : Option Nat} (h4 : w.grownBy w' so) (hb : Below w'.heap.size w' w'') : w.grownBy w'' so :=
  ⟨hb.os.trans h4.os, hb.tape.trans h4.tape, hb.output.trans h4.output, Nat.le_trans h4.size hb.size, fun k hk hr => (hb.block k (Nat.lt_of_lt_of_le hk h4.size)).trans (h4.block k hk hr)⟩
theorem grown_store {w w' : World} {row : Option Nat} (h : w.grownBy w' row) {z : Nat} (hz : w.heap.size ≤ z) (j : Nat) (x : Value) : w.grownBy (w'.setCell ⟨z, j, none⟩ x) row :=
  ⟨h.os, h.tape, h.output, by simp [World.setCell]; exact h.size, fun k hk hr => by
    rw [← h.block k hk hr]; simp [World.setCell, Array.getElem?_modify, show ¬ z = k by omega]⟩
theorem sBlk_own {x : ACust} : sBlk x = (Value.slice x.sa x.sn x.sc).ownBlock := by
  unfold sBlk; cases x.sa with
  | none => rfl
  | some a => rfl
/-- a customer's new cells are written into the book -/
theorem book_put {W W1 : World} {B g cap : Nat} {cs : List PCust} {xs : List ACust} {k : Nat} {y : ACust} {c : PCust} {so : Option Nat} (h : BookAt W B (.slice (some ⟨g, 0, none⟩) cs.length cap) cs xs) (hB : B ≤ W.heap.size) (hk : k < cs.length) (hso : so = sBlk (xs.getD k default)) (hg : HapG B y c so W W1) :
    BookAt ((((((((W1.setCell ⟨g, k * 8, none⟩ (I y.meter)).setCell ⟨g, k * 8 + 1, none⟩ (I y.rev)).setCell ⟨g, k * 8 + 2, none⟩ (I y.next)).setCell ⟨g, k * 8 + 3, none⟩ (I y.month)).setCell ⟨g, k * 8 + 4, none⟩ (I y.bought)).setCell ⟨g, k * 8 + 5, none⟩ (I y.free)).setCell ⟨g, k * 8 + 6, none⟩ (.slice y.da y.dn y.dc)).setCell ⟨g, k * 8 + 7, none⟩ (.slice y.sa y.sn y.sc)) B (.slice (some ⟨g, 0, none⟩) cs.length cap) (cs.set k c) (xs.set k y) := by
  have hkx : k < xs.length := by rw [h.1]; exact hk
  obtain ⟨g1, g2, g3, g4⟩ := hg; have hgW := (h.2.1.lt g rfl).2
  have hgso : so ≠ some g := fun e => by
    have := ((h.2.2.2 k hkx g).2 (by rw [← hso]; exact e)).1; exact this rfl
  have hrow1 : W1.ownsRow B 67 8 (.slice (some ⟨g, 0, none⟩) cs.length cap) cs.length (xs.flatMap ACust.cells) := owns_heap h.2.1 fun z hz => by
    have e : g = z := by injection hz
    subst e; exact g4.block g hgW (fun e => hgso e.symm)
  have hrow := owns_store (owns_store (owns_store (owns_store (owns_store (owns_store (owns_store (owns_store hrow1 (k * 8) (I y.meter)) (k * 8 + 1) (I y.rev)) (k * 8 + 2) (I y.next)) (k * 8 + 3) (I y.month)) (k * 8 + 4) (I y.bought)) (k * 8 + 5) (I y.free)) (k * 8 + 6) (.slice y.da y.dn y.dc)) (k * 8 + 7) (.slice y.sa y.sn y.sc); rw [flat_set8 hkx] at hrow
  have hh : ∀ z, z ≠ g → ((((((((W1.setCell ⟨g, k * 8, none⟩ (I y.meter)).setCell ⟨g, k * 8 + 1, none⟩ (I y.rev)).setCell ⟨g, k * 8 + 2, none⟩ (I y.next)).setCell ⟨g, k * 8 + 3, none⟩ (I y.month)).setCell ⟨g, k * 8 + 4, none⟩ (I y.bought)).setCell ⟨g, k * 8 + 5, none⟩ (I y.free)).setCell ⟨g, k * 8 + 6, none⟩ (.slice y.da y.dn y.dc)).setCell ⟨g, k * 8 + 7, none⟩ (.slice y.sa y.sn y.sc)).heap[z]? = W1.heap[z]? := fun z hz => by
    simp [World.setCell, Array.getElem?_modify, show ¬ g = z by omega]
  have hsz : ((((((((W1.setCell ⟨g, k * 8, none⟩ (I y.meter)).setCell ⟨g, k * 8 + 1, none⟩ (I y.rev)).setCell ⟨g, k * 8 + 2, none⟩ (I y.next)).setCell ⟨g, k * 8 + 3, none⟩ (I y.month)).setCell ⟨g, k * 8 + 4, none⟩ (I y.bought)).setCell ⟨g, k * 8 + 5, none⟩ (I y.free)).setCell ⟨g, k * 8 + 6, none⟩ (.slice y.da y.dn y.dc)).setCell ⟨g, k * 8 + 7, none⟩ (.slice y.sa y.sn y.sc)).heap.size = W1.heap.size := by simp [World.setCell]
  generalize ((((((((W1.setCell ⟨g, k * 8, none⟩ (I y.meter)).setCell ⟨g, k * 8 + 1, none⟩ (I y.rev)).setCell ⟨g, k * 8 + 2, none⟩ (I y.next)).setCell ⟨g, k * 8 + 3, none⟩ (I y.month)).setCell ⟨g, k * 8 + 4, none⟩ (I y.bought)).setCell ⟨g, k * 8 + 5, none⟩ (I y.free)).setCell ⟨g, k * 8 + 6, none⟩ (.slice y.da y.dn y.dc)).setCell ⟨g, k * 8 + 7, none⟩ (.slice y.sa y.sn y.sc)) = W2 at *; subst hso; refine h.set hB hk (by rw [hsz]; exact g4.size) (fun z hz hv hs => ?_) hrow (g1.heap (by omega) (fun z hz => hh z ?_) (fun z hz => hh z ?_)) g2 (fun z hz => g3 z hz)
  · rw [hh z (fun e => hv (by rw [e]; rfl))]
    exact g4.block z hz hs
  · have := (g2 z hz).1; omega
  · rcases g3 z hz with h3 | h3
    · intro e; subst e; exact hgso h3
    · omega
/-- a customer's cells in the book's row -/
theorem book_cells {W : World} {B g n cap : Nat} {cs : List PCust} {xs : List ACust} (h : BookAt W B (.slice (some ⟨g, 0, none⟩) n cap) cs xs) {j : Nat} (hj : j < cs.length) : ∀ i, i < 8 → W.cell? ⟨g, j * 8 + i, none⟩ = some ((xs.getD j default).cells.getD i undef) ∧ W.frozen? ⟨g, j * 8 + i, none⟩ = false := by
  intro i hi; have o := Own.of_owns h.2.1; have hjx : j < xs.length := by rw [h.1]; exact hj
  have hc := o.cell (j * 8 + i) (by rw [length_flat _ 8 ACust.cells_len]; exact pos_lt hjx hi); rw [getD_flat _ 8 ACust.cells_len _ _ _ hjx hi, Nat.zero_add] at hc; exact ⟨hc, o.frozen _⟩
theorem row_cells {W : World} {g : Nat} {xs : List ACust} (o : Own W g (xs.flatMap ACust.cells)) {j : Nat} (hj : j < xs.length) : ∀ i, i < 8 → W.cell? ⟨g, j * 8 + i, none⟩ = some ((xs.getD j default).cells.getD i undef) ∧ W.frozen? ⟨g, j * 8 + i, none⟩ = false := by
  intro i hi; have hc := o.cell (j * 8 + i) (by rw [length_flat _ 8 ACust.cells_len]; exact pos_lt hj hi); rw [getD_flat _ 8 ACust.cells_len _ _ _ hj hi, Nat.zero_add] at hc; exact ⟨hc, o.frozen _⟩
theorem below_grown {w w4 w5 : World} {row : Option Nat} (kw : Below w.heap.size w w4) (hg : w4.grownBy w5 row) (hr : ∀ z, row = some z → w.heap.size ≤ z) : Below w.heap.size w w5 := Below.grown (B := w.heap.size) kw hg kw.size hr
theorem BookAt.ge {W : World} {B : Nat} {v : Value} {cs : List PCust} {xs : List ACust} (h : BookAt W B v cs xs) : ∀ z, v.ownBlock = some z → B ≤ z ∧ z < W.heap.size := fun z hz => h.2.1.lt z hz
theorem book_slice {W : World} {B : Nat} {v : Value} {cs : List PCust} {xs : List ACust} (h : BookAt W B v cs xs) : ∃ a c, v = .slice a cs.length c := by
  rcases owns_cases h.2.1 with ⟨rfl, hn⟩ | ⟨g, cap, rfl, -⟩
  · exact ⟨none, 0, by rw [hn]⟩
  · exact ⟨_, _, rfl⟩
/-- a new customer behind the others -/
theorem book_new {W P w5 : World} {B g cap : Nat} {v : Value} {cs : List PCust} {xs : List ACust} {X : AAcc} {ua : Option Addr} {uc : Nat} (h : BookAt W B v cs xs) (hu : Sl W (.slice ua 0 uc) 2 0 []) (hP : Below W.heap.size W P)
    (hown : w5.ownsRow B 67 8 (.slice (some ⟨g, 0, none⟩) (cs.length + 1) cap) (cs.length + 1) (xs.flatMap ACust.cells ++ [I X.meter, I X.rev, I X.next, I X.month, I X.bought, I X.free, .slice ua 0 uc, .slice none 0 0])) (hgrow : P.grownBy w5 v.ownBlock) (hat : v.ownBlock = some g ∨ g = P.heap.size) :
    ∃ ys, BookAt w5 B (.slice (some ⟨g, 0, none⟩) (cs.length + 1) cap) (cs ++ [⟨X, [], []⟩]) ys := by
  have hG := grown_pre hgrow hP; refine ⟨xs ++ [ofCust ⟨X, [], []⟩ ua uc none 0], (h.below hP).snoc ?_ hgrow hat ⟨rfl, ?_, World.ownsRow_nil _ _ _ _⟩ rfl rfl⟩
  · rw [List.flatMap_append]; exact hown
  · exact sl_heap hu hG.size fun _ _ _ _ hp => absurd hp (by simp)
/-- the loop's state -/
def BRel (w : World) (gb : Nat) (t : PTerms) (tv : Value) (l : List AEvent) (k : Nat) (wr : World) : Prop :=
  ∃ cs xs v, cs.length ≤ k ∧ (∀ c ∈ cs, c.sold.length ≤ k) ∧ Own wr w.heap.size [tv, I t.f, I t.b, I t.d, I t.al] ∧ Own wr (w.heap.size + 1) [.slice none 0 0] ∧ Own wr gb [v] ∧ BookAt wr (gb + 1) v cs xs ∧ Below w.heap.size w wr ∧ runB t cs (l.drop k) k = bookR t l
theorem hapC_sold (t : PTerms) (c : PCust) (v : AEvent) : (hapC t c v).sold.length ≤ c.sold.length + 1 := by
  unfold hapC
  split
  · exact Nat.le_succ _
  · simp
theorem getD_mem {α : Type} [Inhabited α] {l : List α} {k : Nat} (h : k < l.length) : l.getD k default ∈ l := by
  rw [List.getD_eq_getElem?_getD, List.getElem?_eq_getElem h]; exact List.getElem_mem h
theorem evE_no {t : PTerms} {cs : List PCust} {v : AEvent} (h : v.may = false) : evE t cs v = 5 := by unfold evE; rw [h]; rfl
theorem evE_twice {t : PTerms} {cs : List PCust} {v : AEvent} (h : v.may = true) (h1 : v.kind = 1) (ha : 0 ≤ idxOf cs v.meter) : evE t cs v = 21 := by unfold evE; rw [if_pos h, if_pos h1, if_pos ha]
theorem evE_reg {t : PTerms} {cs : List PCust} {v : AEvent} (h : v.may = true) (h1 : v.kind = 1) (ha : ¬ 0 ≤ idxOf cs v.meter) : evE t cs v = 0 := by unfold evE; rw [if_pos h, if_pos h1, if_neg ha]
theorem evE_none {t : PTerms} {cs : List PCust} {v : AEvent} (h : v.may = true) (h1 : ¬ v.kind = 1) (ha : ¬ 0 ≤ idxOf cs v.meter) : evE t cs v = 18 := by unfold evE; rw [if_pos h, if_neg h1, if_neg ha]
theorem evE_hap {t : PTerms} {cs : List PCust} {v : AEvent} (h : v.may = true) (h1 : ¬ v.kind = 1) (ha : 0 ≤ idxOf cs v.meter) : evE t cs v = hapE t (cs.getD (idxOf cs v.meter).toNat default) v := by unfold evE; rw [if_pos h, if_neg h1, if_pos ha]
theorem evC_reg {t : PTerms} {cs : List PCust} {v : AEvent} (h1 : v.kind = 1) : evC t cs v = cs ++ [⟨openX v.meter, [], []⟩] := by unfold evC; rw [if_pos h1]
theorem evC_hap {t : PTerms} {cs : List PCust} {v : AEvent} (h1 : ¬ v.kind = 1) : evC t cs v = cs.set (idxOf cs v.meter).toNat (hapC t (cs.getD (idxOf cs v.meter).toNat default) v) := by unfold evC; rw [if_neg h1]
end
section
open Go Go.RowKit
theorem evC_len (t : PTerms) (cs : List PCust) (v : AEvent) : (evC t cs v).length ≤ cs.length + 1 := by
  unfold evC
  split <;> simp
theorem evC_sold {t : PTerms} {cs : List PCust} {v : AEvent} {k : Nat} (h : ∀ c ∈ cs, c.sold.length ≤ k) : ∀ c ∈ evC t cs v, c.sold.length ≤ k + 1 := by
  intro c hc; unfold evC at hc
  split at hc
  · rcases List.mem_append.1 hc with hc | hc
    · exact Nat.le_succ_of_le (h c hc)
    · rw [List.mem_singleton.1 hc]; exact Nat.zero_le _
  · rcases List.mem_or_eq_of_mem_set hc with hc | hc
    · exact Nat.le_succ_of_le (h c hc)
    · rw [hc]
      refine Nat.le_trans (hapC_sold _ _ _) ?_
      by_cases hj : (idxOf cs v.meter).toNat < cs.length
      · have := h _ (getD_mem (α := PCust) hj); omega
      · rw [List.getD_eq_getElem?_getD, List.getElem?_eq_none (by omega)]
        exact Nat.succ_le_succ (Nat.zero_le _)
theorem runB_bd (t : PTerms) : ∀ (l : List AEvent) (cs : List PCust) (i k : Nat), cs.length ≤ k → (∀ c ∈ cs, c.sold.length ≤ k) → (runB t cs l i).2.2.length ≤ k + l.length ∧ ∀ c ∈ (runB t cs l i).2.2, c.sold.length ≤ k + l.length
  | [], cs, i, k, h1, h2 => ⟨h1, h2⟩
  | v :: vs, cs, i, k, h1, h2 => by
    by_cases h : evE t cs v = 0
    · rw [runB_go h]
      have := runB_bd t vs (evC t cs v) (i + 1) (k + 1) (Nat.le_trans (evC_len t cs v) (by omega)) (evC_sold h2)
      rw [List.length_cons]
      refine ⟨by omega, fun c hc => ?_⟩
      have := this.2 c hc
      omega
    · rw [runB_bad h]
      exact ⟨Nat.zero_le _, fun c hc => absurd hc (by simp)⟩
theorem bookR_bd (t : PTerms) (l : List AEvent) : (bookR t l).2.2.length ≤ 120 ∧ ∀ c ∈ (bookR t l).2.2, c.sold.length ≤ 120 := by
  unfold bookR
  split
  · split
    · exact ⟨Nat.zero_le _, fun c hc => absurd hc (by simp)⟩
    · rename_i h
      have := runB_bd t l [] 0 0 (Nat.zero_le _) (fun c hc => absurd hc (by simp)); refine ⟨by omega, fun c hc => ?_⟩
      have := this.2 c hc; omega
  · exact ⟨Nat.zero_le _, fun c hc => absurd hc (by simp)⟩
end
section
open Go.RowKit

/-- how long the record at a place is: 0 where none is, -1 where it may not be -/
def stepI (xs : List Int) (at_ : Nat) : Int :=
  if at_ = xs.length then 0 else if xs.getD at_ 0 = 0 then 0 else if 64 < xs.getD at_ 0 then -1 else if (xs.length : Int) ≤ at_ + xs.getD at_ 0 then -1 else xs.getD at_ 0
/-- where the next one goes, and whether all is well -/
def runT (xs : List Int) : Nat → Nat → Nat × Bool
  | 0, at_ => (at_, true)
  | f + 1, at_ => if stepI xs at_ = 0 then (at_, true) else if stepI xs at_ < 0 then (at_, false) else runT xs f (at_ + (stepI xs at_).toNat + 1)
def tapeR (xs : List Int) : Nat × Bool := runT xs (xs.length + 1) 0
def tapeE (xs : List Int) : Int := if inB xs.length 1 2048 then (if (tapeR xs).2 then 0 else 3) else 1
def tapeA (xs : List Int) : Int := if tapeE xs = 0 then (((tapeR xs).1 : Nat) : Int) else 0
theorem runT_stop {xs : List Int} {f at_ : Nat} (h : stepI xs at_ = 0) : runT xs (f + 1) at_ = (at_, true) := by simp [runT, h]
theorem runT_bad {xs : List Int} {f at_ : Nat} (h : stepI xs at_ < 0) : runT xs (f + 1) at_ = (at_, false) := by
  have : ¬ stepI xs at_ = 0 := by omega
  simp [runT, h, this]
theorem runT_go {xs : List Int} {f at_ : Nat} (h : 0 < stepI xs at_) : runT xs (f + 1) at_ = runT xs f (at_ + (stepI xs at_).toNat + 1) := by
  have h1 : ¬ stepI xs at_ = 0 := by omega
  have h2 : ¬ stepI xs at_ < 0 := by omega
  simp [runT, h1, h2]
theorem stepI_bd {xs : List Int} (hw : ∀ x ∈ xs, W32 x) {at_ : Nat} (ha : at_ ≤ xs.length) : -1 ≤ stepI xs at_ ∧ stepI xs at_ ≤ 64 ∧ (0 < stepI xs at_ → (at_ : Int) + stepI xs at_ < xs.length) := by
  have h0 : 0 ≤ xs.getD at_ 0 := by
    by_cases h : at_ < xs.length
    · rw [List.getD_eq_getElem?_getD, List.getElem?_eq_getElem h]; exact (hw _ (List.getElem_mem h)).1
    · rw [List.getD_eq_getElem?_getD, List.getElem?_eq_none (by omega)]; exact Int.le_refl _
  unfold stepI; generalize xs.getD at_ 0 = x at *
  split
  · omega
  · split
    · omega
    · split
      · omega
      · split
        · omega
        · omega
theorem lengthAt_any (v : Value) (xs : List Int) (at_ : Nat) (w : World) (h : Sl w v 1 xs.length (xs.map U32)) (hw : ∀ x ∈ xs, W32 x) (ha : at_ ≤ xs.length) (hn1 : 1 ≤ xs.length) (hn2 : xs.length ≤ 2048) :
    Calls Tryz.prog 138 #[v, I at_] w (Pure (I (stepI xs at_)) w) := by
  obtain ⟨a, cap, rfl, hn, hl, h0, hr⟩ := h; obtain ⟨b, off, rfl, hb, hcell⟩ := hr.resolve_left (by omega); clear hl h0 hr; have HS := Lib.hid (show stepI xs at_ = if at_ = xs.length then 0 else if xs.getD at_ 0 = 0 then 0 else if 64 < xs.getD at_ 0 then -1 else if (xs.length : Int) ≤ at_ + xs.getD at_ 0 then -1 else xs.getD at_ 0 from rfl)
  by_cases hend : at_ = xs.length
  · have H := Lib.hid (show stepI xs at_ = 0 by rw [HS.out, if_pos hend])
    have hb1 : ((at_ : Int) == (xs.length : Int)) = true := by simp; omega
    clear HS hcell hend; go_enter Tryz.func138, Tryz.ntmps138; go_wp2; go_ret; exact Pure.intro (eI H.out.symm)
  · have hlt : at_ < xs.length := by omega
    have e0 := hcell at_ (by simpa using hlt); rw [getD_map' _ _ hlt] at e0
    obtain ⟨x0, x1⟩ : W32 (xs.getD at_ 0) := by
      rw [List.getD_eq_getElem?_getD, List.getElem?_eq_getElem hlt]; exact hw _ (List.getElem_mem hlt)
    have hb1 : ((at_ : Int) == (xs.length : Int)) = false := by simp; omega
    have hi0 : (0 : Int) ≤ (at_ : Int) := by omega
    have hi1 : (at_ : Int) < (xs.length : Int) := by omega
    rw [if_neg hend] at HS; clear hcell hend; generalize xs.getD at_ 0 = x at *
    by_cases hz : x = 0
    · have H := Lib.hid (show stepI xs at_ = 0 by rw [HS.out, if_pos hz])
      have hb2 : (x == 0) = true := by simp [hz]
      clear HS hz; go_enter Tryz.func138, Tryz.ntmps138; go_wp2; go_ret; exact Pure.intro (eI H.out.symm)
    · rw [if_neg hz] at HS
      have hb2 : (x == 0) = false := by simp [hz]
      by_cases h64 : 64 < x
      · have H := Lib.hid (show stepI xs at_ = -1 by rw [HS.out, if_pos h64])
        clear HS hz; go_enter Tryz.func138, Tryz.ntmps138; go_wp2; go_ret; exact Pure.intro (eI H.out.symm)
      · rw [if_neg h64] at HS
        by_cases hlen : (xs.length : Int) ≤ at_ + x
        · have H := Lib.hid (show stepI xs at_ = -1 by rw [HS.out, if_pos hlen])
          clear HS hz; go_enter Tryz.func138, Tryz.ntmps138; go_wp2; go_ret; exact Pure.intro (eI H.out.symm)
        · have H := Lib.hid (show stepI xs at_ = x by rw [HS.out, if_neg hlen])
          clear HS hz; go_enter Tryz.func138, Tryz.ntmps138; go_wp2; go_ret; exact Pure.intro (eI H.out.symm)
end
section
open Go.RowKit

theorem infoRec : (Tryz.prog.info? 25).map (fun i => (i.zero, i.size, i.bytes)) = some (some (.slice none 0 0), 1, 24) := by kernel_rfl
theorem infoU32d : (Tryz.prog.info? 80).map (fun i => (i.zero, i.size, i.bytes)) = some (some (.int .u32 0), 1, 4) := by kernel_rfl
def GrewV3 (p k : Int) (w : World) (e : Ending) (w' : World) : Prop := ∃ v, e = .returned (T3 v (I p) (I k)) ∧ Below w.heap.size w w'
def DRel (w : World) (k : Nat) (v : Value) (wr : World) : Prop := (∃ cs, wr.ownsRow w.heap.size 25 1 v k cs) ∧ Below w.heap.size w wr

end
end Go.Proofs.YtdjgcenjonegjaaGreat
