/- book.Decode -/
import Derived.Test.YtmciccnmpoijdaaBookEncd
namespace Go.Proofs.Ytmciccnmpoijdaa
open Go Go.RowKit
set_option maxRecDepth 20000

def mixL (l : List Int) (k : Nat) : List Value := (List.range 13).map fun j => I (if j < k then l.getD j 0 else 0)
theorem mixL_set {l : List Int} {k : Nat} : (mixL l k).set k (I (l.getD k 0)) = mixL l (k + 1) := by
  refine List.ext_getElem (by simp [mixL]) fun j h1 h2 => ?_
  simp only [mixL, List.getElem_set, List.getElem_map, List.getElem_range]
  by_cases hkj : k = j
  · subst hkj; rw [if_pos rfl, if_pos (by omega)]
  · rw [if_neg hkj]
    by_cases hlt : j < k
    · rw [if_pos hlt, if_pos (by omega)]
    · rw [if_neg hlt, if_neg (by omega)]
abbrev z13 : List Value := [I 0, I 0, I 0, I 0, I 0, I 0, I 0, I 0, I 0, I 0, I 0, I 0, I 0]
theorem zero13_own {W : World} {gv : Nat} {x0 x1 x2 x3 x4 x5 x6 x7 x8 x9 x10 x11 x12 : Value} (h : Own W gv [x0, x1, x2, x3, x4, x5, x6, x7, x8, x9, x10, x11, x12]) : Own (zero13 W gv) gv z13 :=
  ((((((((((((h.set 0 (I 0)).set 1 (I 0)).set 2 (I 0)).set 3 (I 0)).set 4 (I 0)).set 5 (I 0)).set 6 (I 0)).set 7 (I 0)).set 8 (I 0)).set 9 (I 0)).set 10 (I 0)).set 11 (I 0)).set 12 (I 0)
theorem zero13_other {W : World} {gv g : Nat} {cs : List Value} (h : Own W g cs) (hne : gv ≠ g) : Own (zero13 W gv) g cs := by
  unfold zero13
  (repeat refine Own.other ?_ hne _)
  exact h
theorem zero13_below {B : Nat} {a W : World} {gv : Nat} (h : Below B a W) (hg : B ≤ gv) : Below B a (zero13 W gv) := by
  unfold zero13
  (repeat refine Below.setCell ?_ hg _)
  exact h
def evL (l : List Int) : Bool := evMay (l.getD 0 0) (l.getD 1 0) (l.getD 2 0) (l.getD 3 0) (l.getD 4 0) (l.getD 5 0) (l.getD 6 0) (l.getD 7 0) (l.getD 8 0) (l.getD 9 0) (l.getD 10 0) (l.getD 11 0) (l.getD 12 0)
def decE (l : List Int) : Int := if l.length = 13 then (if evL l then 0 else 5) else 1
def decX (l : List Int) (k : Nat) : Int := if decE l = 0 then l.getD k 0 else 0
def decVal (l : List Int) : Value := evV (decX l 0) (decX l 1) (decX l 2) (decX l 3) (decX l 4) (decX l 5) (decX l 6) (decX l 7) (decX l 8) (decX l 9) (decX l 10) (decX l 11) (decX l 12)
def DecdP (l : List Int) (w : World) (e : Ending) (w' : World) : Prop := Grew (T2 (decVal l) (I (decE l))) w e w'
theorem DecdP.bad {l : List Int} {w w' : World} {k : Int} (h : decE l = k) (hk : k ≠ 0) (hb : Below w.heap.size w w') : DecdP l w (.returned (T2 (evV 0 0 0 0 0 0 0 0 0 0 0 0 0) (I k))) w' := by
  refine ⟨?_, hb⟩
  have : ∀ j, decX l j = 0 := fun j => by unfold decX; rw [if_neg (by rw [h]; exact hk)]
  unfold decVal
  simp only [this, h]
theorem DecdP.ok {l : List Int} {w w' : World} (h : decE l = 0) (hb : Below w.heap.size w w') : DecdP l w (.returned (T2 (evV (l.getD 0 0) (l.getD 1 0) (l.getD 2 0) (l.getD 3 0) (l.getD 4 0) (l.getD 5 0) (l.getD 6 0) (l.getD 7 0) (l.getD 8 0) (l.getD 9 0) (l.getD 10 0) (l.getD 11 0) (l.getD 12 0)) (I 0))) w' := by
  refine ⟨?_, hb⟩
  have : ∀ j, decX l j = l.getD j 0 := fun j => by unfold decX; rw [if_pos h]
  unfold decVal
  simp only [this, h]
set_option maxHeartbeats 4000000 in
theorem Decode_len (v : Value) (l : List Int) (w : World) (hS : Sl w v 1 l.length (l.map U32)) (h : l.length ≠ 13) : Calls Try.prog 15 #[v] w (DecdP l w) := by
  have HE := Lib.hid (show decE l = 1 by unfold decE; rw [if_neg h])
  obtain ⟨a, cap, rfl, hn, hl, h0, hr⟩ := hS
  have h1 : ((l.length : Int) == 13) = false := by rw [beq_eq_false_iff_ne]; omega
  have h2 : ¬ ((l.length : Nat) : Int) = 13 := by omega
  have hmf := hmf_any
  have N := Lib.hid (fun W => want_no 1 W)
  clear hl h0 hr h
  generalize l.length = n at *
  have hO := Own.new (w := w.alloc (.cells z13.toArray 43)) (g := w.heap.size + 1) (by simp) [I 0] 33
  have hV := (Own.new (w := w) rfl z13 43).alloc (.cells #[I 0] 33)
  have kk : Below w.heap.size w ((w.alloc (.cells z13.toArray 43)).alloc (.cells #[I 0] 33)) := (boxed_below w _).alloc (by simp) _
  have HO := Lib.hid hO
  have HV := Lib.hid hV
  have KK := Lib.hid kk
  clear hO hV kk
  go_enter_defers Try.func15, Try.ntmps15
  go_wp2_with fail
  refine (N.out _).mono ?_
  rintro e w1 ⟨rfl, rfl⟩
  have hO := HO.out
  have hV := HV.out
  have kk := KK.out
  have hg := hO.lt
  have cO := hO
  have c0 := cO.cell 0 (by simp)
  have cf0 := cO.frozen 0
  simp only [Nat.zero_add, List.getD_cons_zero] at c0
  clear cO
  refine leaves_cons (f := 34) (args := #[.pointer (some ⟨w.heap.size + 1, 0, none⟩), .pointer (some ⟨w.heap.size, 0, none⟩)]) (by simp) (by simp [go_sem]) ?_
  refine (dec_pan (w.heap.size + 1) w.heap.size 0 1 _ _ _ _ _ _ _ _ _ _ _ _ _ [] _ (by decide) (by omega) hV hg c0 cf0).mono ?_
  rintro e u' w'' ⟨rfl, rfl, w8, k8, rfl⟩
  rw [if_neg (by decide)]
  have hO8 := ((hO.below k8).set 0 (I 1))
  have hV8 := (hV.below k8).other (a := ⟨w.heap.size + 1, 0, none⟩) (by simp) (I 1)
  have kf := zero13_below (gv := w.heap.size) ((kk.trans (k8.mono kk.size)).setCell (p := ⟨w.heap.size + 1, 0, none⟩) (by simp) (I 1)) (Nat.le_refl _)
  have hO9 := zero13_other hO8 (show w.heap.size ≠ w.heap.size + 1 by omega)
  have hV9 := zero13_own hV8
  generalize zero13 (w8.setCell ⟨w.heap.size + 1, 0, none⟩ (I 1)) w.heap.size = w9 at *
  clear hO8 hV8 k8 c0 cf0
  have cO := hO9
  have c0 := cO.cell 0 (by simp)
  have cf0 := cO.frozen 0
  simp only [Nat.zero_add, List.getD_cons_zero] at c0
  clear cO
  have vO := hV9
  have v0 := vO.cell 0 (by simp)
  have vf0 := vO.frozen 0
  have v1 := vO.cell 1 (by simp)
  have vf1 := vO.frozen 1
  have v2 := vO.cell 2 (by simp)
  have vf2 := vO.frozen 2
  have v3 := vO.cell 3 (by simp)
  have vf3 := vO.frozen 3
  have v4 := vO.cell 4 (by simp)
  have vf4 := vO.frozen 4
  have v5 := vO.cell 5 (by simp)
  have vf5 := vO.frozen 5
  have v6 := vO.cell 6 (by simp)
  have vf6 := vO.frozen 6
  have v7 := vO.cell 7 (by simp)
  have vf7 := vO.frozen 7
  have v8 := vO.cell 8 (by simp)
  have vf8 := vO.frozen 8
  have v9 := vO.cell 9 (by simp)
  have vf9 := vO.frozen 9
  have v10 := vO.cell 10 (by simp)
  have vf10 := vO.frozen 10
  have v11 := vO.cell 11 (by simp)
  have vf11 := vO.frozen 11
  have v12 := vO.cell 12 (by simp)
  have vf12 := vO.frozen 12
  simp only [Nat.zero_add, List.getD_cons_zero, List.getD_cons_succ] at v0 v1 v2 v3 v4 v5 v6 v7 v8 v9 v10 v11 v12
  clear vO
  simp only [List.set_cons_zero] at c0
  simp [Leaves, settle, results, Try.results15, go_sem, c0, v0, v1, v2, v3, v4, v5, v6, v7, v8, v9, v10, v11, v12]
  exact DecdP.bad HE.out (by decide) kf
end Go.Proofs.Ytmciccnmpoijdaa
