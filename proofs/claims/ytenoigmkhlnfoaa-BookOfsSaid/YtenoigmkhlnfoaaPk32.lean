/- a customer behind an event: what both sides answer · steps of a book in memory: what both sides' loops want -/
import Derived.Test.YtenoigmkhlnfoaaPk23
import Derived.Test.YtenoigmkhlnfoaaPk24
import Derived.Test.YtenoigmkhlnfoaaSoldForT
import Derived.Test.YtenoigmkhlnfoaaPk29
import Derived.Test.YtenoigmkhlnfoaaAcctRekeyed
import Derived.Test.YtenoigmkhlnfoaaAcctOwes
namespace Go.Proofs.Ytenoigmkhlnfoaa
set_option linter.unusedSimpArgs false
set_option linter.unusedVariables false
open Go Go.RowKit
set_option maxRecDepth 20000

abbrev custV (x1 x2 x3 x4 x5 x6 : Int) (dv sv : Value) : Value := .agg #[I x1, I x2, I x3, I x4, I x5, I x6, dv, sv]
theorem neqBill2 (x3 x4 x5 x6 x7 x8 x9 y3 y4 y5 y6 y7 y8 y9 : Int) (w : World) : (binOp .neq 70 (.agg #[I x3, I x4, I x5, I x6, I x7, I x8, I x9]) (.agg #[I y3, I y4, I y5, I y6, I y7, I y8, I y9])).run Try.prog w = .ok (.bool (!eqE7 x3 x4 x5 x6 x7 x8 x9 y3 y4 y5 y6 y7 y8 y9)) w := by
  have := neqBill_run ⟨x3, x4, x5, x6, x7, x8, x9⟩ ⟨y3, y4, y5, y6, y7, y8, y9⟩ w
  simpa [eqE7] using this
theorem grownBy_of {w w' : World} {row : Option Nat} (h : Below w.heap.size w w') : w.grownBy w' row := ⟨h.os, h.tape, h.output, h.size, fun k hk _ => h.block k hk⟩
theorem grown_pre {W P w5 : World} {row : Option Nat} (hg : P.grownBy w5 row) (h : Below W.heap.size W P) : W.grownBy w5 row :=
  ⟨hg.os.trans h.os, hg.tape.trans h.tape, hg.output.trans h.output, Nat.le_trans h.size hg.size, fun k hk hr => (hg.block k (Nat.lt_of_lt_of_le hk h.size) hr).trans (h.block k hk)⟩
theorem grown_pre2 {B : Nat} {w W w5 : World} {row : Option Nat} (hb : w.heap.size ≤ B) (h : Below B w W) (hg : W.grownBy w5 row) : w.grownBy w5 row :=
  ⟨hg.os.trans h.os, hg.tape.trans h.tape, hg.output.trans h.output, Nat.le_trans h.size hg.size, fun k hk hr => (hg.block k (Nat.lt_of_lt_of_le hk h.size) hr).trans (h.block k (by omega))⟩
/-- a good end: the customer lies, his debts in new memory, what he was sold where it lay or in new memory -/
def HapG (B : Nat) (y : ACust) (c : PCust) (so : Option Nat) (w w' : World) : Prop :=
  CRep w' B y c ∧ (∀ z, dBlk y = some z → w.heap.size ≤ z ∧ sBlk y ≠ some z) ∧ (∀ z, sBlk y = some z → so = some z ∨ w.heap.size ≤ z) ∧ w.grownBy w' so
theorem HapG.store {B : Nat} {y : ACust} {c : PCust} {so : Option Nat} {w w' : World} (h : HapG B y c so w w') {z j : Nat} {x : Value} (hz : w.heap.size ≤ z) (hd : dBlk y ≠ some z) (hs : sBlk y ≠ some z) : HapG B y c so w (w'.setCell ⟨z, j, none⟩ x) := by
  obtain ⟨h1, h2, h3, h4⟩ := h
  have hh : ∀ k, k ≠ z → (w'.setCell ⟨z, j, none⟩ x).heap[k]? = w'.heap[k]? := fun k hk => by simp [World.setCell, Array.getElem?_modify, show ¬ z = k by omega]
  refine ⟨h1.heap (by simp [World.setCell]) (fun k hk => hh k fun e => hd (e ▸ hk)) (fun k hk => hh k fun e => hs (e ▸ hk)), h2, h3, h4.os, h4.tape, h4.output, by simp [World.setCell]; exact h4.size, fun k hk hr => ?_⟩
  rw [hh k (by omega)]
  exact h4.block k hk hr
theorem HapG.drew {B : Nat} {y : ACust} {c : PCust} {so : Option Nat} {w w' : World} (h : HapG B y c so w w') : HapG B y c so w w'.drew := ⟨h.1, h.2.1, h.2.2.1, ⟨h.2.2.2.os, h.2.2.2.tape, h.2.2.2.output, h.2.2.2.size, h.2.2.2.block⟩⟩
theorem Own.set7 {w : World} {g : Nat} {a0 a1 a2 a3 a4 a5 a6 : Value} (h : Own w g [a0, a1, a2, a3, a4, a5, a6]) (x0 x1 x2 x3 x4 x5 x6 : Value) :
    Own (((((((w.setCell ⟨g, 0, none⟩ x0).setCell ⟨g, 1, none⟩ x1).setCell ⟨g, 2, none⟩ x2).setCell ⟨g, 3, none⟩ x3).setCell ⟨g, 4, none⟩ x4).setCell ⟨g, 5, none⟩ x5).setCell ⟨g, 6, none⟩ x6) g [x0, x1, x2, x3, x4, x5, x6] :=
  ((((((h.set 0 x0).set 1 x1).set 2 x2).set 3 x3).set 4 x4).set 5 x5).set 6 x6
theorem Own.set12 {w : World} {g : Nat} {a0 a1 a2 a3 a4 : Value} (h : Own w g [a0, a1, a2, a3, a4]) (x1 x2 : Value) : Own ((w.setCell ⟨g, 1, none⟩ x1).setCell ⟨g, 2, none⟩ x2) g [a0, x1, x2, a3, a4] := (h.set 1 x1).set 2 x2
def HapQ (B : Nat) (F : Int) (c : PCust) (so : Option Nat) (w : World) (e : Ending) (w' : World) : Prop :=
  ∃ y : ACust, e = .returned (T2 (.agg y.cells.toArray) (I F)) ∧ (F = 0 → HapG B y c so w w') ∧ w.grownBy w' so
theorem HapQ.bad {B : Nat} {F k : Int} {c : PCust} {so : Option Nat} {w w' : World} (h : F = k) (hk : k ≠ 0) (hb : Below w.heap.size w w') : HapQ B F c so w (.returned (T2 (custV 0 0 0 0 0 0 (.slice none 0 0) (.slice none 0 0)) (I k))) w' := by
  subst h
  exact ⟨⟨0, 0, 0, 0, 0, 0, none, 0, 0, none, 0, 0⟩, rfl, fun h => absurd h hk, grownBy_of hb⟩
theorem HapQ.good {B : Nat} {F : Int} {c : PCust} {so : Option Nat} {w w' : World} {da sa : Option Addr} {dc sc : Nat} (h : F = 0) (hg : HapG B (ofCust c da dc sa sc) c so w w') : HapQ B F c so w (.returned (T2 (custV c.acc.meter c.acc.rev c.acc.next c.acc.month c.acc.bought c.acc.free (.slice da c.debts.length dc) (.slice sa c.sold.length sc)) (I 0))) w' := by
  subst h
  exact ⟨_, rfl, fun _ => hg, hg.2.2.2⟩
/-- behind the append -/
theorem hapG_of {B g cap : Nat} {c : PCust} {S : List ASold} {s : ASold} {ua : Option Addr} {uc n : Nat} {so : Option Nat} {w wc w5 : World} (hu : Sl wc (.slice ua c.debts.length uc) 2 c.debts.length (c.debts.flatMap ADebt.cells)) (hF : FarB w.heap.size (.slice ua c.debts.length uc))
    (hown : w5.ownsRow B 122 5 (.slice (some ⟨g, 0, none⟩) n cap) n (S.flatMap ASold.cells ++ s.cells)) (hc : c.sold = S ++ [s]) (hn : n = S.length + 1) (hgr : w.grownBy w5 so) (hgr2 : wc.grownBy w5 so) (hso : ∀ z, so = some z → z < w.heap.size) (hat : so = some g ∨ (w.heap.size ≤ g ∧ wc.heap.size ≤ g)) :
    HapG B (ofCust c ua uc (some ⟨g, 0, none⟩) cap) c so w w5 := by
  have hcl : c.sold.length = n := by rw [hc, hn]; simp
  have hd : ∀ z, dBlk (ofCust c ua uc (some ⟨g, 0, none⟩) cap) = some z → w.heap.size ≤ z ∧ z < wc.heap.size := fun z hz => by
    unfold dBlk ofCust at hz
    simp only at hz
    split at hz
    · rename_i hp
      cases ua with
      | none => cases hz
      | some a =>
        injection hz with hz
        have h1 := hF a _ _ rfl
        obtain ⟨a', cap', hv, -, -, -, hr⟩ := hu
        injection hv with e1 e2 e3
        rcases hr with hr | ⟨b, off, hb, hbl, -⟩
        · omega
        · rw [hb] at e1
          injection e1 with e1
          subst e1
          have h1 : w.heap.size ≤ b := h1
          have hz : b = z := hz
          omega
    · cases hz
  refine ⟨⟨rfl, ?_, ?_⟩, ?_, ?_, hgr⟩
  · refine sl_heap hu hgr2.size fun a m cc hv hp => ?_
    injection hv with e1 e2 e3
    have e1 : ua = some a := e1
    have h1 := hF a _ _ (by rw [e1])
    obtain ⟨a', cap', hv', -, -, -, hr⟩ := hu
    injection hv' with f1 f2 f3
    rcases hr with hr | ⟨b, off, hb, hbl, -⟩
    · omega
    · rw [← f1, e1] at hb
      injection hb with hb
      subst hb
      exact hgr2.block b hbl (fun e => by have := hso b e.symm; have : w.heap.size ≤ b := h1; omega)
  · have : (ofCust c ua uc (some ⟨g, 0, none⟩) cap).sn = n := hcl
    show w5.ownsRow B _ 5 (.slice (some ⟨g, 0, none⟩) c.sold.length cap) c.sold.length (c.sold.flatMap ASold.cells)
    rw [hcl, hc, List.flatMap_append]
    simpa using hown
  · intro z hz
    obtain ⟨h1, h2⟩ := hd z hz
    refine ⟨h1, fun e => ?_⟩
    have e : g = z := by injection e
    subst e
    rcases hat with hat | hat
    · have := hso g hat; omega
    · omega
  · intro z hz
    have e : g = z := by injection hz
    subst e
    rcases hat with hat | hat
    · exact .inl hat
    · exact .inr hat.1
theorem retG {B : Nat} {F x1 x2 x3 x4 x5 x6 : Int} {L : List ADebt} {ss : List ASold} {s : ASold} {so : Option Nat} {w w' : World} {da sa : Option Addr} {dc sc : Nat} (h : F = 0) (hg : HapG B (ofCust ⟨⟨x1, x2, x3, x4, x5, x6⟩, L, ss ++ [s]⟩ da dc sa sc) ⟨⟨x1, x2, x3, x4, x5, x6⟩, L, ss ++ [s]⟩ so w w') :
    HapQ B F ⟨⟨x1, x2, x3, x4, x5, x6⟩, L, ss ++ [s]⟩ so w (.returned (T2 (custV x1 x2 x3 x4 x5 x6 (.slice da L.length dc) (.slice sa (ss.length + 1) sc)) (I 0))) w' := by
  have := HapQ.good h hg
  simpa using this
/-- a good end where nothing was sold -/
theorem hapG_owe {B : Nat} {X : AAcc} {L : List ADebt} {ss : List ASold} {ua sa : Option Addr} {uc sc : Nat} {w w' : World} (hu : Sl w' (.slice ua L.length uc) 2 L.length (L.flatMap ADebt.cells)) (hF : FarB w.heap.size (.slice ua L.length uc))
    (hso : w.ownsRow B 122 5 (.slice sa ss.length sc) ss.length (ss.flatMap ASold.cells)) (k : Below w.heap.size w w') : HapG B (ofCust ⟨X, L, ss⟩ ua uc sa sc) ⟨X, L, ss⟩ (Value.slice sa ss.length sc).ownBlock w w' := by
  have hs : ∀ z, sBlk (ofCust ⟨X, L, ss⟩ ua uc sa sc) = some z → (Value.slice sa ss.length sc).ownBlock = some z := fun z hz => by
    cases sa with
    | none => cases hz
    | some a => exact hz
  refine ⟨⟨rfl, hu, owns_below hso k⟩, ?_, fun z hz => .inl (hs z hz), grownBy_of k⟩
  intro z hz
  have h1 : w.heap.size ≤ z := by
    unfold dBlk ofCust at hz
    simp only at hz
    split at hz
    · cases ua with
      | none => cases hz
      | some a =>
        injection hz with hz
        have hz : a.block = z := hz
        have := hF a _ _ rfl
        omega
    · cases hz
  refine ⟨h1, fun e => ?_⟩
  have := (hso.lt z (hs z e)).2
  omega
theorem HapQ.mk' {B : Nat} {F : Int} {X : AAcc} {L : List ADebt} {ss : List ASold} {so : Option Nat} {w w' : World} {da sa : Option Addr} {dc sc : Nat} (hg : HapG B (ofCust ⟨X, L, ss⟩ da dc sa sc) ⟨X, L, ss⟩ so w w') :
    HapQ B F ⟨X, L, ss⟩ so w (.returned (T2 (custV X.meter X.rev X.next X.month X.bought X.free (.slice da L.length dc) (.slice sa ss.length sc)) (I F))) w' := ⟨_, rfl, fun _ => hg, hg.2.2.2⟩
theorem HapQ.congr {B : Nat} {F : Int} {c c' : PCust} {so : Option Nat} {w w' : World} {e : Ending} (h : HapQ B F c so w e w') (hc : F = 0 → c = c') : HapQ B F c' so w e w' := by
  obtain ⟨y, h1, h2, h3⟩ := h
  exact ⟨y, h1, fun h0 => by rw [← hc h0]; exact h2 h0, h3⟩
end Go.Proofs.Ytenoigmkhlnfoaa
namespace Go.Proofs.Ytenoigmkhlnfoaa
set_option linter.unusedSimpArgs false
set_option linter.unusedVariables false
open Go Go.RowKit
set_option maxRecDepth 20000

theorem elEv {w W : World} {b off : Nat} {xs : List AEvent} (hb : b < w.heap.size) (hc : ∀ j, j < (xs.flatMap AEvent.cells).length → w.cell? ⟨b, off + j, none⟩ = some ((xs.flatMap AEvent.cells).getD j undef)) (hbw : Below w.heap.size w W) (k : Nat) (hk : k < xs.length) :
    ∀ i, i < 13 → W.cell? ⟨b, off + k * 13 + i, none⟩ = some ((xs.getD k default).cells.getD i undef) := by
  intro i hi
  have := (hbw.cell (p := ⟨b, off + (k * 13 + i), none⟩) hb).trans (hc (k * 13 + i) (by rw [length_flat _ 13 AEvent.cells_len]; exact pos_lt hk hi))
  rw [getD_flat _ 13 AEvent.cells_len _ _ _ hk hi] at this
  rw [Nat.add_assoc]; exact this
theorem info_custs : (Try.prog.info? 84).map (fun i => (i.zero, i.size, i.bytes)) = some (some (.agg #[.int .i64 0, .int .i64 0, .int .i64 0, .int .i64 0, .int .i64 0, .int .i64 0, .slice none 0 0, .slice none 0 0]), 8, 96) := by kernel_rfl
theorem CRep.mono {W : World} {B C : Nat} {x : ACust} {c : PCust} (h : CRep W B x c) (hC : C ≤ B) : CRep W C x c := ⟨h.1, h.2.1, owns_mono h.2.2 hC⟩
theorem BookAt.mono {W : World} {B C : Nat} {v : Value} {cs : List PCust} {xs : List ACust} (h : BookAt W B v cs xs) (hC : C ≤ B) : BookAt W C v cs xs :=
  ⟨h.1, owns_mono h.2.1 hC, fun k hk => (h.2.2.1 k hk).mono hC, fun k hk z => ⟨fun hz => ⟨Nat.le_trans hC ((h.2.2.2 k hk z).1 hz).1, ((h.2.2.2 k hk z).1 hz).2⟩, (h.2.2.2 k hk z).2⟩⟩
/-- what comes back: a book in new memory, a place, a code -/
def BookP (t : PTerms) (l : List AEvent) (w : World) (e : Ending) (w' : World) : Prop :=
  ∃ v xs, e = .returned (T3 (.agg #[v]) (I ((bookR t l).2.1 : Nat)) (I (bookR t l).1)) ∧ BookAt w' w.heap.size v (bookR t l).2.2 xs ∧ Below w.heap.size w w'
theorem BookP.bad {t : PTerms} {l : List AEvent} {w w' : World} {E : Int} {k : Nat} (h : bookR t l = (E, k, [])) (kw : Below w.heap.size w w') : BookP t l w (.returned (T3 (.agg #[.slice none 0 0]) (I (k : Nat)) (I E))) w' := by
  unfold BookP
  rw [h]
  exact ⟨_, [], rfl, BookAt.nil _ _, kw⟩
theorem BookP.good {t : PTerms} {l : List AEvent} {w w' : World} {v : Value} {B : Nat} {cs : List PCust} {xs : List ACust} (h : bookR t l = (0, 0, cs)) (hB : BookAt w' B v cs xs) (hw : w.heap.size ≤ B) (kw : Below w.heap.size w w') : BookP t l w (.returned (T3 (.agg #[v]) (I 0) (I 0))) w' := by
  unfold BookP
  rw [h]
  exact ⟨_, xs, rfl, hB.mono hw, kw⟩
theorem bookR_terms {t : PTerms} {l : List AEvent} (h : t.E ≠ 0) : bookR t l = (t.E, 0, []) := by unfold bookR; rw [if_neg h]
theorem bookR_size {t : PTerms} {l : List AEvent} (h : t.E = 0) (h2 : 120 < l.length) : bookR t l = (1, 0, []) := by unfold bookR; rw [if_pos h, if_pos h2]
theorem bookR_run {t : PTerms} {l : List AEvent} (h : t.E = 0) (h2 : ¬ 120 < l.length) : bookR t l = runB t [] l 0 := by unfold bookR; rw [if_pos h, if_neg h2]
theorem drop_at {α : Type} [Inhabited α] {l : List α} {k : Nat} (h : k < l.length) : l.drop k = l.getD k default :: l.drop (k + 1) := by
  rw [List.drop_eq_getElem_cons h, List.getD_eq_getElem?_getD, List.getElem?_eq_getElem h]; rfl
theorem HapG.pre {B : Nat} {y : ACust} {c : PCust} {so : Option Nat} {w P w' : World} (h : HapG B y c so P w') (hb : Below w.heap.size w P) : HapG B y c so w w' := by
  obtain ⟨h1, h2, h3, h4⟩ := h
  exact ⟨h1, fun z hz => ⟨Nat.le_trans hb.size (h2 z hz).1, (h2 z hz).2⟩, fun z hz => (h3 z hz).imp _root_.id (fun h => Nat.le_trans hb.size h), grown_pre h4 hb⟩
theorem HapG.post {B : Nat} {y : ACust} {c : PCust} {so : Option Nat} {w w' w'' : World} (h : HapG B y c so w w') (hb : Below w'.heap.size w' w'') : HapG B y c so w w'' := by
  obtain ⟨h1, h2, h3, h4⟩ := h
  exact ⟨h1.below hb, h2, h3, hb.os.trans h4.os, hb.tape.trans h4.tape, hb.output.trans h4.output, Nat.le_trans h4.size hb.size, fun k hk hr => (hb.block k (Nat.lt_of_lt_of_le hk h4.size)).trans (h4.block k hk hr)⟩
theorem grown_post {w w' w'' : World} {so : Option Nat} (h4 : w.grownBy w' so) (hb : Below w'.heap.size w' w'') : w.grownBy w'' so :=
  ⟨hb.os.trans h4.os, hb.tape.trans h4.tape, hb.output.trans h4.output, Nat.le_trans h4.size hb.size, fun k hk hr => (hb.block k (Nat.lt_of_lt_of_le hk h4.size)).trans (h4.block k hk hr)⟩
theorem grown_store {w w' : World} {row : Option Nat} (h : w.grownBy w' row) {z : Nat} (hz : w.heap.size ≤ z) (j : Nat) (x : Value) : w.grownBy (w'.setCell ⟨z, j, none⟩ x) row :=
  ⟨h.os, h.tape, h.output, by simp [World.setCell]; exact h.size, fun k hk hr => by
    rw [← h.block k hk hr]; simp [World.setCell, Array.getElem?_modify, show ¬ z = k by omega]⟩
theorem sBlk_own {x : ACust} : sBlk x = (Value.slice x.sa x.sn x.sc).ownBlock := by
  unfold sBlk
  cases x.sa with
  | none => rfl
  | some a => rfl
/-- a customer's new cells are written into the book -/
theorem book_put {W W1 : World} {B g cap : Nat} {cs : List PCust} {xs : List ACust} {k : Nat} {y : ACust} {c : PCust} {so : Option Nat} (h : BookAt W B (.slice (some ⟨g, 0, none⟩) cs.length cap) cs xs) (hB : B ≤ W.heap.size) (hk : k < cs.length) (hso : so = sBlk (xs.getD k default)) (hg : HapG B y c so W W1) :
    BookAt ((((((((W1.setCell ⟨g, k * 8, none⟩ (I y.meter)).setCell ⟨g, k * 8 + 1, none⟩ (I y.rev)).setCell ⟨g, k * 8 + 2, none⟩ (I y.next)).setCell ⟨g, k * 8 + 3, none⟩ (I y.month)).setCell ⟨g, k * 8 + 4, none⟩ (I y.bought)).setCell ⟨g, k * 8 + 5, none⟩ (I y.free)).setCell ⟨g, k * 8 + 6, none⟩ (.slice y.da y.dn y.dc)).setCell ⟨g, k * 8 + 7, none⟩ (.slice y.sa y.sn y.sc)) B (.slice (some ⟨g, 0, none⟩) cs.length cap) (cs.set k c) (xs.set k y) := by
  have hkx : k < xs.length := by rw [h.1]; exact hk
  obtain ⟨g1, g2, g3, g4⟩ := hg
  have hgW := (h.2.1.lt g rfl).2
  have hgso : so ≠ some g := fun e => by
    have := ((h.2.2.2 k hkx g).2 (by rw [← hso]; exact e)).1
    exact this rfl
  have hrow1 : W1.ownsRow B 84 8 (.slice (some ⟨g, 0, none⟩) cs.length cap) cs.length (xs.flatMap ACust.cells) := owns_heap h.2.1 fun z hz => by
    have e : g = z := by injection hz
    subst e
    exact g4.block g hgW (fun e => hgso e.symm)
  have hrow := owns_store (owns_store (owns_store (owns_store (owns_store (owns_store (owns_store (owns_store hrow1 (k * 8) (I y.meter)) (k * 8 + 1) (I y.rev)) (k * 8 + 2) (I y.next)) (k * 8 + 3) (I y.month)) (k * 8 + 4) (I y.bought)) (k * 8 + 5) (I y.free)) (k * 8 + 6) (.slice y.da y.dn y.dc)) (k * 8 + 7) (.slice y.sa y.sn y.sc)
  rw [flat_set8 hkx] at hrow
  have hh : ∀ z, z ≠ g → ((((((((W1.setCell ⟨g, k * 8, none⟩ (I y.meter)).setCell ⟨g, k * 8 + 1, none⟩ (I y.rev)).setCell ⟨g, k * 8 + 2, none⟩ (I y.next)).setCell ⟨g, k * 8 + 3, none⟩ (I y.month)).setCell ⟨g, k * 8 + 4, none⟩ (I y.bought)).setCell ⟨g, k * 8 + 5, none⟩ (I y.free)).setCell ⟨g, k * 8 + 6, none⟩ (.slice y.da y.dn y.dc)).setCell ⟨g, k * 8 + 7, none⟩ (.slice y.sa y.sn y.sc)).heap[z]? = W1.heap[z]? := fun z hz => by
    simp [World.setCell, Array.getElem?_modify, show ¬ g = z by omega]
  have hsz : ((((((((W1.setCell ⟨g, k * 8, none⟩ (I y.meter)).setCell ⟨g, k * 8 + 1, none⟩ (I y.rev)).setCell ⟨g, k * 8 + 2, none⟩ (I y.next)).setCell ⟨g, k * 8 + 3, none⟩ (I y.month)).setCell ⟨g, k * 8 + 4, none⟩ (I y.bought)).setCell ⟨g, k * 8 + 5, none⟩ (I y.free)).setCell ⟨g, k * 8 + 6, none⟩ (.slice y.da y.dn y.dc)).setCell ⟨g, k * 8 + 7, none⟩ (.slice y.sa y.sn y.sc)).heap.size = W1.heap.size := by simp [World.setCell]
  generalize ((((((((W1.setCell ⟨g, k * 8, none⟩ (I y.meter)).setCell ⟨g, k * 8 + 1, none⟩ (I y.rev)).setCell ⟨g, k * 8 + 2, none⟩ (I y.next)).setCell ⟨g, k * 8 + 3, none⟩ (I y.month)).setCell ⟨g, k * 8 + 4, none⟩ (I y.bought)).setCell ⟨g, k * 8 + 5, none⟩ (I y.free)).setCell ⟨g, k * 8 + 6, none⟩ (.slice y.da y.dn y.dc)).setCell ⟨g, k * 8 + 7, none⟩ (.slice y.sa y.sn y.sc)) = W2 at *
  subst hso
  refine h.set hB hk (by rw [hsz]; exact g4.size) (fun z hz hv hs => ?_) hrow (g1.heap (by omega) (fun z hz => hh z ?_) (fun z hz => hh z ?_)) g2 (fun z hz => g3 z hz)
  · rw [hh z (fun e => hv (by rw [e]; rfl))]
    exact g4.block z hz hs
  · have := (g2 z hz).1; omega
  · rcases g3 z hz with h3 | h3
    · intro e; subst e; exact hgso h3
    · omega
/-- a customer's cells in the book's row -/
theorem book_cells {W : World} {B g n cap : Nat} {cs : List PCust} {xs : List ACust} (h : BookAt W B (.slice (some ⟨g, 0, none⟩) n cap) cs xs) {j : Nat} (hj : j < cs.length) : ∀ i, i < 8 → W.cell? ⟨g, j * 8 + i, none⟩ = some ((xs.getD j default).cells.getD i undef) ∧ W.frozen? ⟨g, j * 8 + i, none⟩ = false := by
  intro i hi
  have o := Own.of_owns h.2.1
  have hjx : j < xs.length := by rw [h.1]; exact hj
  have hc := o.cell (j * 8 + i) (by rw [length_flat _ 8 ACust.cells_len]; exact pos_lt hjx hi)
  rw [getD_flat _ 8 ACust.cells_len _ _ _ hjx hi, Nat.zero_add] at hc
  exact ⟨hc, o.frozen _⟩
theorem row_cells {W : World} {g : Nat} {xs : List ACust} (o : Own W g (xs.flatMap ACust.cells)) {j : Nat} (hj : j < xs.length) : ∀ i, i < 8 → W.cell? ⟨g, j * 8 + i, none⟩ = some ((xs.getD j default).cells.getD i undef) ∧ W.frozen? ⟨g, j * 8 + i, none⟩ = false := by
  intro i hi
  have hc := o.cell (j * 8 + i) (by rw [length_flat _ 8 ACust.cells_len]; exact pos_lt hj hi)
  rw [getD_flat _ 8 ACust.cells_len _ _ _ hj hi, Nat.zero_add] at hc
  exact ⟨hc, o.frozen _⟩
theorem below_grown {w w4 w5 : World} {row : Option Nat} (kw : Below w.heap.size w w4) (hg : w4.grownBy w5 row) (hr : ∀ z, row = some z → w.heap.size ≤ z) : Below w.heap.size w w5 := Below.grown (B := w.heap.size) kw hg kw.size hr
theorem BookAt.ge {W : World} {B : Nat} {v : Value} {cs : List PCust} {xs : List ACust} (h : BookAt W B v cs xs) : ∀ z, v.ownBlock = some z → B ≤ z ∧ z < W.heap.size := fun z hz => h.2.1.lt z hz
theorem book_slice {W : World} {B : Nat} {v : Value} {cs : List PCust} {xs : List ACust} (h : BookAt W B v cs xs) : ∃ a c, v = .slice a cs.length c := by
  rcases owns_cases h.2.1 with ⟨rfl, hn⟩ | ⟨g, cap, rfl, -⟩
  · exact ⟨none, 0, by rw [hn]⟩
  · exact ⟨_, _, rfl⟩
/-- a new customer behind the others -/
theorem book_new {W P w5 : World} {B g cap : Nat} {v : Value} {cs : List PCust} {xs : List ACust} {X : AAcc} {ua : Option Addr} {uc : Nat} (h : BookAt W B v cs xs) (hu : Sl W (.slice ua 0 uc) 2 0 []) (hP : Below W.heap.size W P)
    (hown : w5.ownsRow B 84 8 (.slice (some ⟨g, 0, none⟩) (cs.length + 1) cap) (cs.length + 1) (xs.flatMap ACust.cells ++ [I X.meter, I X.rev, I X.next, I X.month, I X.bought, I X.free, .slice ua 0 uc, .slice none 0 0])) (hgrow : P.grownBy w5 v.ownBlock) (hat : v.ownBlock = some g ∨ g = P.heap.size) :
    ∃ ys, BookAt w5 B (.slice (some ⟨g, 0, none⟩) (cs.length + 1) cap) (cs ++ [⟨X, [], []⟩]) ys := by
  have hG := grown_pre hgrow hP
  refine ⟨xs ++ [ofCust ⟨X, [], []⟩ ua uc none 0], (h.below hP).snoc ?_ hgrow hat ⟨rfl, ?_, World.ownsRow_nil _ _ _ _⟩ rfl rfl⟩
  · rw [List.flatMap_append]; exact hown
  · exact sl_heap hu hG.size fun _ _ _ _ hp => absurd hp (by simp)
/-- the loop's state -/
def BRel (w : World) (gb : Nat) (t : PTerms) (tv : Value) (l : List AEvent) (k : Nat) (wr : World) : Prop :=
  ∃ cs xs v, cs.length ≤ k ∧ (∀ c ∈ cs, c.sold.length ≤ k) ∧ Own wr w.heap.size [tv, I t.f, I t.b, I t.d, I t.al] ∧ Own wr (w.heap.size + 1) [.slice none 0 0] ∧ Own wr gb [v] ∧ BookAt wr (gb + 1) v cs xs ∧ Below w.heap.size w wr ∧ runB t cs (l.drop k) k = bookR t l
theorem hapC_sold (t : PTerms) (c : PCust) (v : AEvent) : (hapC t c v).sold.length ≤ c.sold.length + 1 := by
  unfold hapC
  split
  · exact Nat.le_succ _
  · simp
theorem getD_mem {α : Type} [Inhabited α] {l : List α} {k : Nat} (h : k < l.length) : l.getD k default ∈ l := by
  rw [List.getD_eq_getElem?_getD, List.getElem?_eq_getElem h]; exact List.getElem_mem h
theorem evE_no {t : PTerms} {cs : List PCust} {v : AEvent} (h : v.may = false) : evE t cs v = 5 := by unfold evE; rw [h]; rfl
theorem evE_twice {t : PTerms} {cs : List PCust} {v : AEvent} (h : v.may = true) (h1 : v.kind = 1) (ha : 0 ≤ idxOf cs v.meter) : evE t cs v = 21 := by unfold evE; rw [if_pos h, if_pos h1, if_pos ha]
theorem evE_reg {t : PTerms} {cs : List PCust} {v : AEvent} (h : v.may = true) (h1 : v.kind = 1) (ha : ¬ 0 ≤ idxOf cs v.meter) : evE t cs v = 0 := by unfold evE; rw [if_pos h, if_pos h1, if_neg ha]
theorem evE_none {t : PTerms} {cs : List PCust} {v : AEvent} (h : v.may = true) (h1 : ¬ v.kind = 1) (ha : ¬ 0 ≤ idxOf cs v.meter) : evE t cs v = 18 := by unfold evE; rw [if_pos h, if_neg h1, if_neg ha]
theorem evE_hap {t : PTerms} {cs : List PCust} {v : AEvent} (h : v.may = true) (h1 : ¬ v.kind = 1) (ha : 0 ≤ idxOf cs v.meter) : evE t cs v = hapE t (cs.getD (idxOf cs v.meter).toNat default) v := by unfold evE; rw [if_pos h, if_neg h1, if_pos ha]
theorem evC_reg {t : PTerms} {cs : List PCust} {v : AEvent} (h1 : v.kind = 1) : evC t cs v = cs ++ [⟨openX v.meter, [], []⟩] := by unfold evC; rw [if_pos h1]
theorem evC_hap {t : PTerms} {cs : List PCust} {v : AEvent} (h1 : ¬ v.kind = 1) : evC t cs v = cs.set (idxOf cs v.meter).toNat (hapC t (cs.getD (idxOf cs v.meter).toNat default) v) := by unfold evC; rw [if_neg h1]
end Go.Proofs.Ytenoigmkhlnfoaa
