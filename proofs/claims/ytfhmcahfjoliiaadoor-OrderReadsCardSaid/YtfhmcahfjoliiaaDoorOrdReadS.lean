/- ref.ActRead: the walk -/
import Derived.Test.YtfhmcahfjoliiaaDoorOrdReadR
namespace Go.Proofs.YtfhmcahfjoliiaaDoor
set_option linter.unusedSimpArgs false
set_option linter.unusedVariables false
open Go Go.RowKit
set_option maxRecDepth 20000

/-- the result and the order, in two blocks of the call's own -/
structure RdX (w wr : World) (A : List Value) : Prop where
  r : Own wr w.heap.size zAct
  a : Own wr (w.heap.size + 1) A
  b : Below w.heap.size w wr
theorem RdX.setA {w wr : World} {A : List Value} (h : RdX w wr A) (j : Nat) (x : Value) : RdX w (wr.setCell ⟨w.heap.size + 1, j, none⟩ x) (A.set j x) :=
  ⟨h.r.other (by show w.heap.size + 1 ≠ w.heap.size; omega) x, h.a.set j x, h.b.setCell (by show w.heap.size ≤ w.heap.size + 1; omega) x⟩
theorem RdX.other {w wr : World} {A : List Value} (h : RdX w wr A) {a : Addr} (ha : w.heap.size + 2 ≤ a.block) (x : Value) : RdX w (wr.setCell a x) A :=
  ⟨h.r.other (by omega) x, h.a.other (by omega) x, h.b.setCell (by omega) x⟩
theorem RdX.below {w wr w' : World} {A : List Value} (h : RdX w wr A) (k : Below wr.heap.size wr w') : RdX w w' A :=
  ⟨h.r.below k, h.a.below k, h.b.trans (k.mono h.b.size)⟩

theorem cut_eq {h : ByteArray} (e : h = kCut) : (h.toList == [99, 117, 116]) = true := by
  rw [e, ByteArray.toList_eq]; rfl
theorem cut_ne {h : ByteArray} (e : h ≠ kCut) : (h.toList == [99, 117, 116]) = false := by
  rw [beq_eq_false_iff_ne, ByteArray.toList_eq]
  intro e2
  exact e (ByteArray.ext (Array.toList_inj.1 e2))
set_option maxHeartbeats 4000000 in
theorem ActRead_bad (s : ByteArray) (w : World) (hs : s.size ≤ 120) (hc : hasC s) (hn : nxP s (nxP s 0) < 0) :
    Calls Tryd.prog 5 #[.string s] w (Grew (rdO none s) w) := by
  have hz := nxP_in s 0 (Nat.zero_le _)
  have OR := (Own.new (w := w) (g := w.heap.size) (by rfl) [I 0, I 0, I 0, I 0, I 0, .string ⟨#[]⟩, I 0] 23).alloc (.cells #[I 0, I 0, I 0, I 0, I 0, .string ⟨#[]⟩, I (-1)] 23)
  have OA := Own.new (w := (w.alloc (.cells #[I 0, I 0, I 0, I 0, I 0, .string ⟨#[]⟩, I 0] 23))) (g := w.heap.size + 1) (by simp) [I 0, I 0, I 0, I 0, I 0, .string ⟨#[]⟩, I (-1)] 23
  have bx0 := boxed_below w (.cells #[I 0, I 0, I 0, I 0, I 0, .string ⟨#[]⟩, I 0] 23)
  have KB := bx0.alloc bx0.size (.cells #[I 0, I 0, I 0, I 0, I 0, .string ⟨#[]⟩, I (-1)] 23)
  clear bx0
  have R0 := Lib.hid (show RdX w _ [I 0, I 0, I 0, I 0, I 0, .string ⟨#[]⟩, I (-1)] from ⟨OR, OA, KB⟩)
  have X0 := Lib.hid (fun W => next_at s 0 W (by omega) (by omega) (by omega))
  obtain ⟨hc1, hc2⟩ := hc
  have X1 := Lib.hid (fun W => next_at s (nxP s 0) W (by omega) (by omega) (by omega))
  have PL := Lib.hid (fun W => plain_any (hdP s (nxP s 0)) W)
  have aO := OA
  have afA := aO.f; have a0 := aO.c0; have a1 := aO.c1; have a2 := aO.c2; have a3 := aO.c3; have a4 := aO.c4; have a5 := aO.c5; have a6 := aO.c6
  clear aO
  have rO := OR
  have rfA := rO.f; have r0 := rO.c0; have r1 := rO.c1; have r2 := rO.c2; have r3 := rO.c3; have r4 := rO.c4; have r5 := rO.c5; have r6 := rO.c6
  clear rO
  clear OR OA
  have hw1 := cut_eq hc1
  clear hc1
  generalize hdP s 0 = h0 at *
  generalize plainI (hdP s (nxP s 0)) = pv at *
  generalize hdP s (nxP s 0) = h1 at *
  generalize nxP s (nxP s 0) = p1 at *
  generalize nxP s 0 = p0 at *
  go_enter Tryd.func5, Tryd.ntmps5
  have j120 : (s.size : Int) ≤ 120 := by omega
  go_upto_if 40 with (go_at_call 11; refine (X0.out _).mono ?_; rintro e w1 ⟨rfl, rfl⟩)
  go_wp2_with (first
    | (go_at_call 11; refine (X1.out _).mono ?_; rintro e w1 ⟨rfl, rfl⟩)
    | (go_at_call 12; refine (PL.out _).mono ?_; rintro e w1 ⟨rfl, rfl⟩))
  exact bodyPost_ret (v := T2 (.agg #[I 0, I 0, I 0, I 0, I 0, .string ⟨#[]⟩, I 0]) (I 3)) (by simp [results, Tryd.results5, go_sem, *]; try omega) rfl (⟨rfl, below_autor⟩)
end Go.Proofs.YtfhmcahfjoliiaaDoor
