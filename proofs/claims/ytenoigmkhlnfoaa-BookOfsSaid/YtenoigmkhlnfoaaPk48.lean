/- ref.happens at a charge · ref.happens at every event -/
import Derived.Test.YtenoigmkhlnfoaaPk32
import Derived.Test.YtenoigmkhlnfoaaHapS
import Derived.Test.YtenoigmkhlnfoaaHapG
import Derived.Test.YtenoigmkhlnfoaaHapR
import Derived.Test.YtenoigmkhlnfoaaPk24
namespace Go.Proofs.Ytenoigmkhlnfoaa
set_option linter.unusedSimpArgs false
set_option linter.unusedVariables false
open Go Go.RowKit
set_option maxRecDepth 20000
set_option maxHeartbeats 8000000 in
theorem hap_charge (x1 x2 x3 x4 x5 x6 me mo id te de fe pr ch un ta ow bp f b d al F : Int) (da sa : Option Addr) (dc sc : Nat) (xs L : List ADebt) (ss : List ASold) (tv : Value) (X : AAcc) (B : Nat) (w : World)
    (A : Hid (∀ W, Sl W (.slice da xs.length dc) 2 xs.length (xs.flatMap ADebt.cells) → Calls Try.prog 56 #[.agg #[I x1, I x2, I x3, I x4, I x5, I x6, .slice da xs.length dc], .agg #[I ow, I bp]] W (GrewAccF X L F W)))
    (hS : Sl w (.slice da xs.length dc) 2 xs.length (xs.flatMap ADebt.cells)) (hso : w.ownsRow B 122 5 (.slice sa ss.length sc) ss.length (ss.flatMap ASold.cells)) :
    Calls Try.prog 36 #[.agg #[tv, I f, I b, I d, I al], custV x1 x2 x3 x4 x5 x6 (.slice da xs.length dc) (.slice sa ss.length sc), evV 5 me mo id te de fe pr ch un ta ow bp] w (HapQ B F ⟨X, L, ss⟩ (Value.slice sa ss.length sc).ownBlock w) := by
  have oT := (((Own.new (w := w) (g := w.heap.size) (by rfl) [tv, I f, I b, I d, I al] 24).alloc (.cells #[I x1, I x2, I x3, I x4, I x5, I x6, .slice da xs.length dc, .slice sa ss.length sc] 84)).alloc (.cells #[I 5, I me, I mo, I id, I te, I de, I fe, I pr, I ch, I un, I ta, I ow, I bp] 72)).alloc (.cells #[I 0, I 0, I 0, I 0, I 0, I 0, .slice none 0 0, .slice none 0 0] 84)
  have oC := ((Own.new (w := (w.alloc (.cells #[tv, I f, I b, I d, I al] 24))) (g := w.heap.size + 1) (by simp) [I x1, I x2, I x3, I x4, I x5, I x6, .slice da xs.length dc, .slice sa ss.length sc] 84).alloc (.cells #[I 5, I me, I mo, I id, I te, I de, I fe, I pr, I ch, I un, I ta, I ow, I bp] 72)).alloc (.cells #[I 0, I 0, I 0, I 0, I 0, I 0, .slice none 0 0, .slice none 0 0] 84)
  have oV := (Own.new (w := ((w.alloc (.cells #[tv, I f, I b, I d, I al] 24)).alloc (.cells #[I x1, I x2, I x3, I x4, I x5, I x6, .slice da xs.length dc, .slice sa ss.length sc] 84))) (g := w.heap.size + 2) (by simp) [I 5, I me, I mo, I id, I te, I de, I fe, I pr, I ch, I un, I ta, I ow, I bp] 72).alloc (.cells #[I 0, I 0, I 0, I 0, I 0, I 0, .slice none 0 0, .slice none 0 0] 84)
  have oZ := Own.new (w := (((w.alloc (.cells #[tv, I f, I b, I d, I al] 24)).alloc (.cells #[I x1, I x2, I x3, I x4, I x5, I x6, .slice da xs.length dc, .slice sa ss.length sc] 84)).alloc (.cells #[I 5, I me, I mo, I id, I te, I de, I fe, I pr, I ch, I un, I ta, I ow, I bp] 72))) (g := w.heap.size + 3) (by simp) [I 0, I 0, I 0, I 0, I 0, I 0, .slice none 0 0, .slice none 0 0] 84
  have bx0 := boxed_below w (.cells #[tv, I f, I b, I d, I al] 24)
  have bx1 := bx0.alloc bx0.size (.cells #[I x1, I x2, I x3, I x4, I x5, I x6, .slice da xs.length dc, .slice sa ss.length sc] 84)
  have bx2 := bx1.alloc bx1.size (.cells #[I 5, I me, I mo, I id, I te, I de, I fe, I pr, I ch, I un, I ta, I ow, I bp] 72)
  have kB := bx2.alloc bx2.size (.cells #[I 0, I 0, I 0, I 0, I 0, I 0, .slice none 0 0, .slice none 0 0] 84)
  clear bx0 bx1 bx2
  obtain ⟨X1, X2, X3, X4, X5, X6⟩ := X
  go_enter Try.func36, Try.ntmps36
  go_wp2_with fail
  refine (A.out _ (hS.below kB)).mono ?_
  rintro e w1 ⟨u, rfl, hu, k1, hFu⟩
  obtain ⟨ua, uc, rfl, -⟩ := _root_.id hu
  have kw := kB.trans (k1.mono kB.size)
  have hs1 : w.heap.size + 4 ≤ w1.heap.size := by have := k1.size; simp at this; omega
  have hFu2 : FarB w.heap.size (.slice ua L.length uc) := hFu.mono (by simp; omega)
  have hfz : dBlk (ofCust ⟨⟨X1, X2, X3, X4, X5, X6⟩, L, ss⟩ ua uc sa sc) ≠ some (w.heap.size + 3) := fun e => by
    unfold dBlk ofCust at e
    simp only at e
    split at e
    · cases ua with
      | none => cases e
      | some a =>
        injection e with e
        have e : a.block = w.heap.size + 3 := e
        have := hFu a _ _ rfl
        simp at this
        omega
    · cases e
  have hsz : sBlk (ofCust ⟨⟨X1, X2, X3, X4, X5, X6⟩, L, ss⟩ ua uc sa sc) ≠ some (w.heap.size + 3) := fun e => by
    cases sa with
    | none => cases e
    | some a =>
      have := (hso.lt (w.heap.size + 3) (by exact e)).2
      omega
  have HG := Lib.hid (hapG_owe (X := ⟨X1, X2, X3, X4, X5, X6⟩) hu hFu2 hso kw)
  have HX1 := Lib.hid hfz
  have HX2 := Lib.hid hsz
  have hx0 : w.heap.size ≤ w.heap.size + 3 := by omega
  have ra : ∀ (o : Obj) (g j : Nat), g < w1.heap.size → (w1.alloc o).cell? ⟨g, j, none⟩ = w1.cell? ⟨g, j, none⟩ := fun o g j h => (boxed_below w1 o).cell (p := ⟨g, j, none⟩) h
  have rb : ∀ (o : Obj) (g j : Nat), g < w1.heap.size → (w1.alloc o).frozen? ⟨g, j, none⟩ = w1.frozen? ⟨g, j, none⟩ := fun o g j h => (boxed_below w1 o).frozen (p := ⟨g, j, none⟩) h
  have hl1 : w.heap.size + 1 < w1.heap.size := by omega
  have hl3 : w.heap.size + 3 < w1.heap.size := by omega
  have r1 := set_same
  have r2 := set_off
  have r3 := set_blk
  have cO := oC.below k1
  obtain ⟨⟨c0, cf0⟩, ⟨c1, cf1⟩, ⟨c2, cf2⟩, ⟨c3, cf3⟩, ⟨c4, cf4⟩, ⟨c5, cf5⟩, ⟨c6, cf6⟩, ⟨c7, cf7⟩, -⟩ := cO.a8
  simp only [List.getD_cons_zero, List.getD_cons_succ] at c0 c1 c2 c3 c4 c5 c6 c7
  clear cO
  have zO := oZ.below k1
  obtain ⟨⟨z0, zf0⟩, ⟨z1, zf1⟩, ⟨z2, zf2⟩, ⟨z3, zf3⟩, ⟨z4, zf4⟩, ⟨z5, zf5⟩, ⟨z6, zf6⟩, ⟨z7, zf7⟩, -⟩ := zO.a8
  simp only [List.getD_cons_zero, List.getD_cons_succ] at z0 z1 z2 z3 z4 z5 z6 z7
  clear zO
  clear oC oV oZ oT k1 hFu hu kB kw hFu2 hfz hsz A hS hso
  go_wp2
  exact bodyPost_ret (v := T2 (custV X1 X2 X3 X4 X5 X6 (.slice ua L.length uc) (.slice sa ss.length sc)) (I F)) (by simp [results, Try.results36, go_sem, *]; try omega) rfl (HapQ.mk' (X := ⟨X1, X2, X3, X4, X5, X6⟩) (HapG.post (by repeat (first | with_reducible exact HG.out | with_reducible refine HapG.store ?_ (by assumption) HX1.out HX2.out | with_reducible refine HapG.drew ?_)) (boxed_below _ _)))
end Go.Proofs.Ytenoigmkhlnfoaa
namespace Go.Proofs.Ytenoigmkhlnfoaa
set_option linter.unusedSimpArgs false
set_option linter.unusedVariables false
open Go Go.RowKit
set_option maxRecDepth 20000
theorem happens_any (t : PTerms) (c : PCust) (v : AEvent) (da sa : Option Addr) (dc sc : Nat) (tv : Value) (B : Nat) (w : World) (hv : v.kind = 2 ∨ v.kind = 3 ∨ v.kind = 4 ∨ v.kind = 5)
    (hS : Sl w (.slice da c.debts.length dc) 2 c.debts.length (c.debts.flatMap ADebt.cells)) (tS : Sl w tv 2 t.ts.length (t.ts.flatMap AStep.cells)) (hso : w.ownsRow B 122 5 (.slice sa c.sold.length sc) c.sold.length (c.sold.flatMap ASold.cells)) (hBw : B ≤ w.heap.size) (hlen : c.sold.length ≤ 1000) :
    Calls Try.prog 36 #[t.v tv, custV c.acc.meter c.acc.rev c.acc.next c.acc.month c.acc.bought c.acc.free (.slice da c.debts.length dc) (.slice sa c.sold.length sc), v.v] w (HapQ B (hapE t c v) (hapC t c v) (Value.slice sa c.sold.length sc).ownBlock w) := by
  have hq := sells_eq t c v
  obtain ⟨ki, me, mo, ⟨id, te, de, fe, pr, ch, un⟩, ta, ⟨ow, bp⟩⟩ := v
  obtain ⟨⟨x1, x2, x3, x4, x5, x6⟩, xs, ss⟩ := c
  obtain ⟨ts, f, b, d, al⟩ := t
  simp only at hv hS tS hso hlen hq ⊢
  rcases hv with rfl | rfl | rfl | rfl
  · exact (hap_sale x1 x2 x3 x4 x5 x6 me mo id te de fe pr ch un ta ow bp f b d al _ da sa dc sc xs _ ss ts tv _ _ B w (Lib.hid fun W h1 h2 => SoldFor_f ⟨x1, x2, x3, x4, x5, x6⟩ _ tv xs ts f b d al te mo W h1 h2) hS tS hso hBw hlen _ (Lib.hid hq)).mono fun e w' h => h.congr fun _ => rfl
  · exact (hap_grant x1 x2 x3 x4 x5 x6 me mo id te de fe pr ch un ta ow bp f b d al _ da sa dc sc xs _ ss ts tv _ _ B w (Lib.hid fun W h1 h2 => Granted_f ⟨x1, x2, x3, x4, x5, x6⟩ _ tv xs ts f b d al mo W h1 h2) hS tS hso hBw hlen _ (Lib.hid hq)).mono fun e w' h => h.congr fun _ => rfl
  · exact (hap_rekey x1 x2 x3 x4 x5 x6 me mo id te de fe pr ch un ta ow bp f b d al _ _ da sa dc sc xs _ ss ts tv _ _ B w (Lib.hid fun W h1 => Rekeyed_f ⟨x1, x2, x3, x4, x5, x6⟩ _ xs W h1) hS tS hso hBw hlen _ (Lib.hid hq) rfl).mono fun e w' h => h.congr fun h0 => by
      have h1 : rekeyE ⟨x1, x2, x3, x4, x5, x6⟩ xs = 0 := sells_zero (v := ⟨4, me, mo, ⟨id, te, de, fe, pr, ch, un⟩, ta, ⟨ow, bp⟩⟩) (t := ⟨ts, f, b, d, al⟩) (c := ⟨⟨x1, x2, x3, x4, x5, x6⟩, xs, ss⟩) h0
      rw [rekey_wrap h1]
      rfl
  · exact (hap_charge x1 x2 x3 x4 x5 x6 me mo id te de fe pr ch un ta ow bp f b d al _ da sa dc sc xs _ ss tv _ B w (Lib.hid fun W h1 => Owes_f ⟨x1, x2, x3, x4, x5, x6⟩ _ xs ⟨ow, bp⟩ W h1) hS hso).mono fun e w' h => h.congr fun _ => rfl
end Go.Proofs.Ytenoigmkhlnfoaa
