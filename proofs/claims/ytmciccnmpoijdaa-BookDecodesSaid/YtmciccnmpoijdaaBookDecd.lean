/- ref.Decoded -/
import Derived.Test.YtmciccnmpoijdaaBookDecode
import Derived.Deep.RegionHeld3
namespace Go.Proofs.Ytmciccnmpoijdaa
open Go Go.RowKit
set_option maxRecDepth 20000

theorem Decoded_len (v : Value) (l : List Int) (w : World) (hS : Sl w v 1 l.length (l.map U32)) (h : l.length ≠ 13) : Calls Try.prog 16 #[v] w (DecdP l w) := by
  have HE := Lib.hid (show decE l = 1 by unfold decE; rw [if_neg h])
  obtain ⟨a, cap, rfl, hn, hl, h0, hr⟩ := hS
  have h1 : ((l.length : Int) == 13) = false := by rw [beq_eq_false_iff_ne]; omega
  have h2 : ¬ ((l.length : Nat) : Int) = 13 := by omega
  clear hl h0 hr h
  generalize l.length = n at *
  have zO := (Own.new (w := w) rfl z13 43)
  have z0 := zO.cell 0 (by simp)
  have zf0 := zO.frozen 0
  have z1 := zO.cell 1 (by simp)
  have zf1 := zO.frozen 1
  have z2 := zO.cell 2 (by simp)
  have zf2 := zO.frozen 2
  have z3 := zO.cell 3 (by simp)
  have zf3 := zO.frozen 3
  have z4 := zO.cell 4 (by simp)
  have zf4 := zO.frozen 4
  have z5 := zO.cell 5 (by simp)
  have zf5 := zO.frozen 5
  have z6 := zO.cell 6 (by simp)
  have zf6 := zO.frozen 6
  have z7 := zO.cell 7 (by simp)
  have zf7 := zO.frozen 7
  have z8 := zO.cell 8 (by simp)
  have zf8 := zO.frozen 8
  have z9 := zO.cell 9 (by simp)
  have zf9 := zO.frozen 9
  have z10 := zO.cell 10 (by simp)
  have zf10 := zO.frozen 10
  have z11 := zO.cell 11 (by simp)
  have zf11 := zO.frozen 11
  have z12 := zO.cell 12 (by simp)
  have zf12 := zO.frozen 12
  simp only [Nat.zero_add, List.getD_cons_zero, List.getD_cons_succ] at z0 z1 z2 z3 z4 z5 z6 z7 z8 z9 z10 z11 z12
  clear zO
  have r1 := set_same
  have r2 := set_off
  have r3 := set_blk
  go_enter Try.func16, Try.ntmps16
  go_wp2
  exact bodyPost_ret (v := T2 (evV 0 0 0 0 0 0 0 0 0 0 0 0 0) (I 1)) (by simp [results, Try.results16, go_sem, *]; try omega) rfl (DecdP.bad HE.out (by decide) (by repeat first | with_reducible assumption | with_reducible exact Below.refl _ _ | with_reducible refine Below.setCell ?_ (by first | exact Nat.le_refl _ | exact Below.size (by assumption) | (simp; done) | (simp; omega) | omega) _ | with_reducible refine Below.alloc ?_ (by first | exact Nat.le_refl _ | exact Below.size (by assumption) | (simp; done) | (simp; omega) | omega) _ | with_reducible refine drewN_below ?_ _ | with_reducible refine Below.drew ?_))
set_option maxHeartbeats 8000000 in
theorem Decoded_13 (v : Value) (l : List Int) (w : World) (hlen : l.length = 13) (hw : ∀ k, k < 13 → 0 ≤ l.getD k 0 ∧ l.getD k 0 < 4294967296) (hS : Sl w v 1 13 (l.map U32)) : Calls Try.prog 16 #[v] w (DecdP l w) := by
  have M := Lib.hid (fun W => EventMay_any (l.getD 0 0) (l.getD 1 0) (l.getD 2 0) (l.getD 3 0) (l.getD 4 0) (l.getD 5 0) (l.getD 6 0) (l.getD 7 0) (l.getD 8 0) (l.getD 9 0) (l.getD 10 0) (l.getD 11 0) (l.getD 12 0) W)
  change Hid (∀ W, Calls _ _ _ W (Grew (.bool (evL l)) W)) at M
  have HE : Hid (decE l = if evL l then 0 else 5) := by unfold Hid decE; rw [if_pos hlen]
  obtain ⟨a, cap, rfl, hn, hl, h0, hr⟩ := hS
  obtain ⟨b, off, rfl, hbl, hcl⟩ := hr.resolve_left (by decide)
  have hcell : ∀ k, k < 13 → w.cell? ⟨b, off + k, none⟩ = some (U32 (l.getD k 0)) := fun k hk => by
    rw [hcl k (by rw [hl]; omega)]
    rw [List.getD_eq_getElem?_getD, List.getElem?_map, List.getD_eq_getElem?_getD]
    have : k < l.length := by omega
    rw [List.getElem?_eq_getElem this]
    rfl
  have k0 := boxed_below w (.cells z13.toArray 43)
  have HO := Lib.hid (Own.new (w := w) rfl z13 43)
  have HC : Hid (∀ k, k < 13 → (w.alloc (.cells z13.toArray 43)).cell? ⟨b, off + k, none⟩ = some (U32 (l.getD k 0))) := Lib.hid fun k hk => (k0.cell (p := ⟨b, off + k, none⟩) hbl).trans (hcell k hk)
  generalize evL l = eb at *
  have b0 := hw 0 (by decide)
  have b1 := hw 1 (by decide)
  have b2 := hw 2 (by decide)
  have b3 := hw 3 (by decide)
  have b4 := hw 4 (by decide)
  have b5 := hw 5 (by decide)
  have b6 := hw 6 (by decide)
  have b7 := hw 7 (by decide)
  have b8 := hw 8 (by decide)
  have b9 := hw 9 (by decide)
  have b10 := hw 10 (by decide)
  have b11 := hw 11 (by decide)
  have b12 := hw 12 (by decide)
  generalize hy0 : l.getD 0 0 = y0 at *
  have HY0 := Lib.hid hy0
  clear hy0
  generalize hy1 : l.getD 1 0 = y1 at *
  have HY1 := Lib.hid hy1
  clear hy1
  generalize hy2 : l.getD 2 0 = y2 at *
  have HY2 := Lib.hid hy2
  clear hy2
  generalize hy3 : l.getD 3 0 = y3 at *
  have HY3 := Lib.hid hy3
  clear hy3
  generalize hy4 : l.getD 4 0 = y4 at *
  have HY4 := Lib.hid hy4
  clear hy4
  generalize hy5 : l.getD 5 0 = y5 at *
  have HY5 := Lib.hid hy5
  clear hy5
  generalize hy6 : l.getD 6 0 = y6 at *
  have HY6 := Lib.hid hy6
  clear hy6
  generalize hy7 : l.getD 7 0 = y7 at *
  have HY7 := Lib.hid hy7
  clear hy7
  generalize hy8 : l.getD 8 0 = y8 at *
  have HY8 := Lib.hid hy8
  clear hy8
  generalize hy9 : l.getD 9 0 = y9 at *
  have HY9 := Lib.hid hy9
  clear hy9
  generalize hy10 : l.getD 10 0 = y10 at *
  have HY10 := Lib.hid hy10
  clear hy10
  generalize hy11 : l.getD 11 0 = y11 at *
  have HY11 := Lib.hid hy11
  clear hy11
  generalize hy12 : l.getD 12 0 = y12 at *
  have HY12 := Lib.hid hy12
  clear hy12
  have q0 : IntKind.i64.wrap y0 = y0 := IntWalk.i64_in _ (by omega)
  have q1 : IntKind.i64.wrap y1 = y1 := IntWalk.i64_in _ (by omega)
  have q2 : IntKind.i64.wrap y2 = y2 := IntWalk.i64_in _ (by omega)
  have q3 : IntKind.i64.wrap y3 = y3 := IntWalk.i64_in _ (by omega)
  have q4 : IntKind.i64.wrap y4 = y4 := IntWalk.i64_in _ (by omega)
  have q5 : IntKind.i64.wrap y5 = y5 := IntWalk.i64_in _ (by omega)
  have q6 : IntKind.i64.wrap y6 = y6 := IntWalk.i64_in _ (by omega)
  have q7 : IntKind.i64.wrap y7 = y7 := IntWalk.i64_in _ (by omega)
  have q8 : IntKind.i64.wrap y8 = y8 := IntWalk.i64_in _ (by omega)
  have q9 : IntKind.i64.wrap y9 = y9 := IntWalk.i64_in _ (by omega)
  have q10 : IntKind.i64.wrap y10 = y10 := IntWalk.i64_in _ (by omega)
  have q11 : IntKind.i64.wrap y11 = y11 := IntWalk.i64_in _ (by omega)
  have q12 : IntKind.i64.wrap y12 = y12 := IntWalk.i64_in _ (by omega)
  have HBL := Lib.hid (show b < (w.alloc (.cells z13.toArray 43)).heap.size by simp; omega)
  clear hw hcl hl h0 hr hcell hbl hlen
  go_enter Try.func16, Try.ntmps16
  go_wp2
  have K0 := Lib.hid k0
  clear k0
  generalize hW : w.alloc (.cells z13.toArray 43) = W at *
  have HWW := Lib.hid hW
  clear hW
  have g0 : W.cell? ⟨b, off, none⟩ = some (U32 y0) := by rw [← HY0.out]; exact HC.out 0 (by decide)
  have g1 : W.cell? ⟨b, off + 1, none⟩ = some (U32 y1) := by rw [← HY1.out]; exact HC.out 1 (by decide)
  have g2 : W.cell? ⟨b, off + 2, none⟩ = some (U32 y2) := by rw [← HY2.out]; exact HC.out 2 (by decide)
  have g3 : W.cell? ⟨b, off + 3, none⟩ = some (U32 y3) := by rw [← HY3.out]; exact HC.out 3 (by decide)
  have g4 : W.cell? ⟨b, off + 4, none⟩ = some (U32 y4) := by rw [← HY4.out]; exact HC.out 4 (by decide)
  have g5 : W.cell? ⟨b, off + 5, none⟩ = some (U32 y5) := by rw [← HY5.out]; exact HC.out 5 (by decide)
  have g6 : W.cell? ⟨b, off + 6, none⟩ = some (U32 y6) := by rw [← HY6.out]; exact HC.out 6 (by decide)
  have g7 : W.cell? ⟨b, off + 7, none⟩ = some (U32 y7) := by rw [← HY7.out]; exact HC.out 7 (by decide)
  have g8 : W.cell? ⟨b, off + 8, none⟩ = some (U32 y8) := by rw [← HY8.out]; exact HC.out 8 (by decide)
  have g9 : W.cell? ⟨b, off + 9, none⟩ = some (U32 y9) := by rw [← HY9.out]; exact HC.out 9 (by decide)
  have g10 : W.cell? ⟨b, off + 10, none⟩ = some (U32 y10) := by rw [← HY10.out]; exact HC.out 10 (by decide)
  have g11 : W.cell? ⟨b, off + 11, none⟩ = some (U32 y11) := by rw [← HY11.out]; exact HC.out 11 (by decide)
  have g12 : W.cell? ⟨b, off + 12, none⟩ = some (U32 y12) := by rw [← HY12.out]; exact HC.out 12 (by decide)
  go_region_held3 (fun w' => w'.cell? ⟨b, off + 3, none⟩ = some (U32 y3) ∧ w'.cell? ⟨b, off + 4, none⟩ = some (U32 y4) ∧ w'.cell? ⟨b, off + 5, none⟩ = some (U32 y5) ∧ w'.cell? ⟨b, off + 6, none⟩ = some (U32 y6) ∧ w'.cell? ⟨b, off + 7, none⟩ = some (U32 y7) ∧ w'.cell? ⟨b, off + 8, none⟩ = some (U32 y8) ∧ w'.cell? ⟨b, off + 9, none⟩ = some (U32 y9)) (first | go_keep | (go_split_ands; refine ⟨?_, ?_, ?_, ?_, ?_, ?_, ?_⟩ <;> assumption)) (fail)
  have hb2 := Lib.hid (Own.new (w := W) rfl [I y3, I y4, I y5, I y6, I y7, I y8, I y9] 39)
  have k2 := boxed_below W (.cells #[I y3, I y4, I y5, I y6, I y7, I y8, I y9] 39)
  have h0 : (W.alloc (.cells #[I y3, I y4, I y5, I y6, I y7, I y8, I y9] 39)).drew.cell? ⟨b, off, none⟩ = some (U32 y0) := (k2.cell (p := ⟨b, off, none⟩) HBL.out).trans g0
  have h1 : (W.alloc (.cells #[I y3, I y4, I y5, I y6, I y7, I y8, I y9] 39)).drew.cell? ⟨b, off + 1, none⟩ = some (U32 y1) := (k2.cell (p := ⟨b, off + 1, none⟩) HBL.out).trans g1
  have h2 : (W.alloc (.cells #[I y3, I y4, I y5, I y6, I y7, I y8, I y9] 39)).drew.cell? ⟨b, off + 2, none⟩ = some (U32 y2) := (k2.cell (p := ⟨b, off + 2, none⟩) HBL.out).trans g2
  have h10 : (W.alloc (.cells #[I y3, I y4, I y5, I y6, I y7, I y8, I y9] 39)).drew.cell? ⟨b, off + 10, none⟩ = some (U32 y10) := (k2.cell (p := ⟨b, off + 10, none⟩) HBL.out).trans g10
  have h11 : (W.alloc (.cells #[I y3, I y4, I y5, I y6, I y7, I y8, I y9] 39)).drew.cell? ⟨b, off + 11, none⟩ = some (U32 y11) := (k2.cell (p := ⟨b, off + 11, none⟩) HBL.out).trans g11
  have h12 : (W.alloc (.cells #[I y3, I y4, I y5, I y6, I y7, I y8, I y9] 39)).drew.cell? ⟨b, off + 12, none⟩ = some (U32 y12) := (k2.cell (p := ⟨b, off + 12, none⟩) HBL.out).trans g12
  have e0 : (W.alloc (.cells #[I y3, I y4, I y5, I y6, I y7, I y8, I y9] 39)).drew.cell? ⟨W.heap.size, 0, none⟩ = some (I y3) := by have := hb2.out.cell 0 (by simp); rw [Nat.zero_add] at this; exact this
  have e1 : (W.alloc (.cells #[I y3, I y4, I y5, I y6, I y7, I y8, I y9] 39)).drew.cell? ⟨W.heap.size, 1, none⟩ = some (I y4) := by have := hb2.out.cell 1 (by simp); rw [Nat.zero_add] at this; exact this
  have e2 : (W.alloc (.cells #[I y3, I y4, I y5, I y6, I y7, I y8, I y9] 39)).drew.cell? ⟨W.heap.size, 2, none⟩ = some (I y5) := by have := hb2.out.cell 2 (by simp); rw [Nat.zero_add] at this; exact this
  have e3 : (W.alloc (.cells #[I y3, I y4, I y5, I y6, I y7, I y8, I y9] 39)).drew.cell? ⟨W.heap.size, 3, none⟩ = some (I y6) := by have := hb2.out.cell 3 (by simp); rw [Nat.zero_add] at this; exact this
  have e4 : (W.alloc (.cells #[I y3, I y4, I y5, I y6, I y7, I y8, I y9] 39)).drew.cell? ⟨W.heap.size, 4, none⟩ = some (I y7) := by have := hb2.out.cell 4 (by simp); rw [Nat.zero_add] at this; exact this
  have e5 : (W.alloc (.cells #[I y3, I y4, I y5, I y6, I y7, I y8, I y9] 39)).drew.cell? ⟨W.heap.size, 5, none⟩ = some (I y8) := by have := hb2.out.cell 5 (by simp); rw [Nat.zero_add] at this; exact this
  have e6 : (W.alloc (.cells #[I y3, I y4, I y5, I y6, I y7, I y8, I y9] 39)).drew.cell? ⟨W.heap.size, 6, none⟩ = some (I y9) := by have := hb2.out.cell 6 (by simp); rw [Nat.zero_add] at this; exact this
  have kW : Below w.heap.size w (W.alloc (.cells #[I y3, I y4, I y5, I y6, I y7, I y8, I y9] 39)).drew := (K0.out.alloc K0.out.size _).drew
  have hoW : Own (W.alloc (.cells #[I y3, I y4, I y5, I y6, I y7, I y8, I y9] 39)).drew w.heap.size z13 := HO.out.alloc _
  have HOW := Lib.hid hoW
  clear hb2 k2 hoW HO K0 g0 g1 g2 g3 g4 g5 g6 g7 g8 g9 g10 g11 g12 HC HBL HWW
  generalize (W.alloc (.cells #[I y3, I y4, I y5, I y6, I y7, I y8, I y9] 39)).drew = W2 at *
  generalize W.heap.size = zb at *
  go_wp2
  go_region_held3 (fun w' => w'.cell? ⟨b, off, none⟩ = some (U32 y0) ∧ w'.cell? ⟨b, off + 1, none⟩ = some (U32 y1) ∧ w'.cell? ⟨b, off + 2, none⟩ = some (U32 y2) ∧ w'.cell? ⟨b, off + 10, none⟩ = some (U32 y10) ∧ w'.cell? ⟨b, off + 11, none⟩ = some (U32 y11) ∧ w'.cell? ⟨b, off + 12, none⟩ = some (U32 y12) ∧ w'.cell? ⟨zb, 0, none⟩ = some (I y3) ∧ w'.cell? ⟨zb, 1, none⟩ = some (I y4) ∧ w'.cell? ⟨zb, 2, none⟩ = some (I y5) ∧ w'.cell? ⟨zb, 3, none⟩ = some (I y6) ∧ w'.cell? ⟨zb, 4, none⟩ = some (I y7) ∧ w'.cell? ⟨zb, 5, none⟩ = some (I y8) ∧ w'.cell? ⟨zb, 6, none⟩ = some (I y9)) (first | go_keep | (go_split_ands; refine ⟨?_, ?_, ?_, ?_, ?_, ?_, ?_, ?_, ?_, ?_, ?_, ?_, ?_⟩ <;> assumption)) (fail)
  all_goals
    clear h0 h1 h2 h10 h11 h12 e0 e1 e2 e3 e4 e5 e6
    have oE : Own (W2.alloc (.cells #[I y0, I y1, I y2, I y3, I y4, I y5, I y6, I y7, I y8, I y9, I y10, I y11, I y12] 43)).drew W2.heap.size [I y0, I y1, I y2, I y3, I y4, I y5, I y6, I y7, I y8, I y9, I y10, I y11, I y12] := Own.new (w := W2) rfl [I y0, I y1, I y2, I y3, I y4, I y5, I y6, I y7, I y8, I y9, I y10, I y11, I y12] 43
    have oZ : Own (W2.alloc (.cells #[I y0, I y1, I y2, I y3, I y4, I y5, I y6, I y7, I y8, I y9, I y10, I y11, I y12] 43)).drew w.heap.size z13 := HOW.out.alloc _
    have hzz : w.heap.size < W2.heap.size := HOW.out.lt
    have kE : Below w.heap.size w (W2.alloc (.cells #[I y0, I y1, I y2, I y3, I y4, I y5, I y6, I y7, I y8, I y9, I y10, I y11, I y12] 43)).drew := (kW.alloc kW.size _).drew
    have OE := Lib.hid oE
    have OZ := Lib.hid oZ
    have dO := oE
    have d0 := dO.cell 0 (by simp)
    have df0 := dO.frozen 0
    have d1 := dO.cell 1 (by simp)
    have df1 := dO.frozen 1
    have d2 := dO.cell 2 (by simp)
    have df2 := dO.frozen 2
    have d3 := dO.cell 3 (by simp)
    have df3 := dO.frozen 3
    have d4 := dO.cell 4 (by simp)
    have df4 := dO.frozen 4
    have d5 := dO.cell 5 (by simp)
    have df5 := dO.frozen 5
    have d6 := dO.cell 6 (by simp)
    have df6 := dO.frozen 6
    have d7 := dO.cell 7 (by simp)
    have df7 := dO.frozen 7
    have d8 := dO.cell 8 (by simp)
    have df8 := dO.frozen 8
    have d9 := dO.cell 9 (by simp)
    have df9 := dO.frozen 9
    have d10 := dO.cell 10 (by simp)
    have df10 := dO.frozen 10
    have d11 := dO.cell 11 (by simp)
    have df11 := dO.frozen 11
    have d12 := dO.cell 12 (by simp)
    have df12 := dO.frozen 12
    simp only [Nat.zero_add, List.getD_cons_zero, List.getD_cons_succ] at d0 d1 d2 d3 d4 d5 d6 d7 d8 d9 d10 d11 d12
    clear dO
    clear oE oZ HOW kW
    generalize (W2.alloc (.cells #[I y0, I y1, I y2, I y3, I y4, I y5, I y6, I y7, I y8, I y9, I y10, I y11, I y12] 43)).drew = W3 at *
    generalize W2.heap.size = ze at *
    go_wp2_with fail
    refine (M.out _).mono ?_
    rintro e w4 ⟨rfl, k4⟩
    have kk := kE.trans (k4.mono kE.size)
    have zO := OZ.out.below k4
    have z0 := zO.cell 0 (by simp)
    have zf0 := zO.frozen 0
    have z1 := zO.cell 1 (by simp)
    have zf1 := zO.frozen 1
    have z2 := zO.cell 2 (by simp)
    have zf2 := zO.frozen 2
    have z3 := zO.cell 3 (by simp)
    have zf3 := zO.frozen 3
    have z4 := zO.cell 4 (by simp)
    have zf4 := zO.frozen 4
    have z5 := zO.cell 5 (by simp)
    have zf5 := zO.frozen 5
    have z6 := zO.cell 6 (by simp)
    have zf6 := zO.frozen 6
    have z7 := zO.cell 7 (by simp)
    have zf7 := zO.frozen 7
    have z8 := zO.cell 8 (by simp)
    have zf8 := zO.frozen 8
    have z9 := zO.cell 9 (by simp)
    have zf9 := zO.frozen 9
    have z10 := zO.cell 10 (by simp)
    have zf10 := zO.frozen 10
    have z11 := zO.cell 11 (by simp)
    have zf11 := zO.frozen 11
    have z12 := zO.cell 12 (by simp)
    have zf12 := zO.frozen 12
    simp only [Nat.zero_add, List.getD_cons_zero, List.getD_cons_succ] at z0 z1 z2 z3 z4 z5 z6 z7 z8 z9 z10 z11 z12
    clear zO
    have xO := OE.out.below k4
    have x0 := xO.cell 0 (by simp)
    have xf0 := xO.frozen 0
    have x1 := xO.cell 1 (by simp)
    have xf1 := xO.frozen 1
    have x2 := xO.cell 2 (by simp)
    have xf2 := xO.frozen 2
    have x3 := xO.cell 3 (by simp)
    have xf3 := xO.frozen 3
    have x4 := xO.cell 4 (by simp)
    have xf4 := xO.frozen 4
    have x5 := xO.cell 5 (by simp)
    have xf5 := xO.frozen 5
    have x6 := xO.cell 6 (by simp)
    have xf6 := xO.frozen 6
    have x7 := xO.cell 7 (by simp)
    have xf7 := xO.frozen 7
    have x8 := xO.cell 8 (by simp)
    have xf8 := xO.frozen 8
    have x9 := xO.cell 9 (by simp)
    have xf9 := xO.frozen 9
    have x10 := xO.cell 10 (by simp)
    have xf10 := xO.frozen 10
    have x11 := xO.cell 11 (by simp)
    have xf11 := xO.frozen 11
    have x12 := xO.cell 12 (by simp)
    have xf12 := xO.frozen 12
    simp only [Nat.zero_add, List.getD_cons_zero, List.getD_cons_succ] at x0 x1 x2 x3 x4 x5 x6 x7 x8 x9 x10 x11 x12
    clear xO
    clear k4 kE d0 d1 d2 d3 d4 d5 d6 d7 d8 d9 d10 d11 d12 df0 df1 df2 df3 df4 df5 df6 df7 df8 df9 df10 df11 df12 OE OZ M
    have r1 := set_same
    have r2 := set_off
    have r3 := set_blk
    have n1 : ¬ w.heap.size = ze := by omega
    have n2 : ¬ ze = w.heap.size := by omega
    cases eb
    · have HE := Lib.hid (show decE l = 5 from HE.out)
      go_wp2
      exact bodyPost_ret (v := T2 (evV 0 0 0 0 0 0 0 0 0 0 0 0 0) (I 5)) (by simp [results, Try.results16, go_sem, *]; try omega) rfl (DecdP.bad HE.out (by decide) (by repeat first | with_reducible assumption | with_reducible exact Below.refl _ _ | with_reducible refine Below.setCell ?_ (by first | exact Nat.le_refl _ | exact Below.size (by assumption) | (simp; done) | (simp; omega) | omega) _ | with_reducible refine Below.alloc ?_ (by first | exact Nat.le_refl _ | exact Below.size (by assumption) | (simp; done) | (simp; omega) | omega) _ | with_reducible refine drewN_below ?_ _ | with_reducible refine Below.drew ?_))
    · have HE := Lib.hid (show decE l = 0 from HE.out)
      have hfin := fun (w' : World) (hb : Below w.heap.size w w') => DecdP.ok HE.out hb
      rw [HY0.out, HY1.out, HY2.out, HY3.out, HY4.out, HY5.out, HY6.out, HY7.out, HY8.out, HY9.out, HY10.out, HY11.out, HY12.out] at hfin
      have HFIN := Lib.hid hfin
      clear hfin
      go_wp2
      exact bodyPost_ret (v := T2 (evV y0 y1 y2 y3 y4 y5 y6 y7 y8 y9 y10 y11 y12) (I 0)) (by simp [results, Try.results16, go_sem, *]; try omega) rfl (HFIN.out _ (by repeat first | with_reducible assumption | with_reducible exact Below.refl _ _ | with_reducible refine Below.setCell ?_ (by first | exact Nat.le_refl _ | exact Below.size (by assumption) | (simp; done) | (simp; omega) | omega) _ | with_reducible refine Below.alloc ?_ (by first | exact Nat.le_refl _ | exact Below.size (by assumption) | (simp; done) | (simp; omega) | omega) _ | with_reducible refine drewN_below ?_ _ | with_reducible refine Below.drew ?_))
theorem Decoded_any (v : Value) (l : List Int) (w : World) (hw : ∀ x ∈ l, W32 x) (hS : Sl w v 1 l.length (l.map U32)) : Calls Try.prog 16 #[v] w (DecdP l w) := by
  by_cases hlen : l.length = 13
  · have hw' : ∀ k, k < 13 → 0 ≤ l.getD k 0 ∧ l.getD k 0 < 4294967296 := fun k hk => by
      have hk' : k < l.length := by omega
      rw [List.getD_eq_getElem?_getD, List.getElem?_eq_getElem hk']
      have h := hw _ (List.getElem_mem hk')
      unfold W32 at h
      simp only [Option.getD_some]
      omega
    rw [hlen] at hS
    exact Decoded_13 v l w hlen hw' hS
  · exact Decoded_len v l w hS hlen
end Go.Proofs.Ytmciccnmpoijdaa
