/- one block of the call's own may turn, the rest stays · book.Encode · ref.EventMay, ref.Encoded · ref.Encoded · book.Decode · book.Find and its reference · the cells of one element of a list of structs (made by wip/bin/gen_api.py) -/
import Derived.Test.YtdjgcenjonegjaaGreatOwn
import Derived.Test.YtdjgcenjonegjaaGreatPk05
import Derived.Test.YtdjgcenjonegjaaGreatPk01
set_option maxRecDepth 20000
set_option maxHeartbeats 8000000
set_option linter.unusedSimpArgs false
set_option linter.unusedVariables false
namespace Go.Proofs.YtdjgcenjonegjaaGreat
section
open Go.RowKit

/-- of what was there only block z may have turned -/
structure Chg (z : Nat) (w w' : World) : Prop where
  os : w'.os = w.os
  tape : w'.tape = w.tape
  output : w'.output = w.output
  size : w.heap.size ≤ w'.heap.size
  block : ∀ b, b < w.heap.size → b ≠ z → w'.heap[b]? = w.heap[b]?
theorem Chg.refl (z : Nat) (w : World) : Chg z w w := ⟨rfl, rfl, rfl, Nat.le_refl _, fun _ _ _ => rfl⟩
theorem Chg.trans {z : Nat} {a b c : World} (h : Chg z a b) (k : Chg z b c) : Chg z a c :=
  ⟨k.os.trans h.os, k.tape.trans h.tape, k.output.trans h.output, Nat.le_trans h.size k.size, fun i hi hz => (k.block i (Nat.lt_of_lt_of_le hi h.size) hz).trans (h.block i hi hz)⟩
theorem Chg.of_below {z : Nat} {w w' : World} (h : Below w.heap.size w w') : Chg z w w' := ⟨h.os, h.tape, h.output, h.size, fun b hb _ => h.block b hb⟩
theorem Chg.below {z B : Nat} {a w w' : World} (h : Below B a w) (hz : B ≤ z) (k : Chg z w w') (hB : B ≤ w.heap.size) : Below B a w' :=
  h.trans ⟨k.os, k.tape, k.output, k.size, fun b hb => k.block b (by omega) (by omega)⟩
theorem Chg.set {z : Nat} {w w' : World} (h : Chg z w w') (j : Nat) (x : Value) : Chg z w (w'.setCell ⟨z, j, none⟩ x) :=
  ⟨h.os, h.tape, h.output, by simp [World.setCell]; exact h.size, fun b hb hz => by
    rw [← h.block b hb hz]; simp [World.setCell, Array.getElem?_modify, show ¬ z = b by omega]⟩
/-- a store into memory that was not there -/
theorem Chg.setNew {z : Nat} {w w' : World} (h : Chg z w w') (g j : Nat) (hg : w.heap.size ≤ g) (x : Value) : Chg z w (w'.setCell ⟨g, j, none⟩ x) :=
  ⟨h.os, h.tape, h.output, by simp [World.setCell]; exact h.size, fun b hb hz => by
    rw [← h.block b hb hz]; simp [World.setCell, Array.getElem?_modify, show ¬ g = b by omega]⟩
theorem Chg.drewN {z : Nat} {w w' : World} (h : Chg z w w') (q : Nat) : Chg z w (w'.drewN q) := ⟨h.os, h.tape, h.output, h.size, h.block⟩
/-- v does not lie in block z -/
def Far (z : Nat) (v : Value) : Prop := ∀ a n c, v = .slice (some a) n c → a.block ≠ z
theorem Far.nil (z n c : Nat) : Far z (.slice none n c) := by intro a n c h; cases h
theorem Sl.chg {z : Nat} {w w' : World} {v : Value} {sz n : Nat} {cs : List Value} (h : Sl w v sz n cs) (hf : 0 < n → Far z v) (k : Chg z w w') : Sl w' v sz n cs := by
  obtain ⟨a, cap, rfl, hn, hl, h0, h⟩ := h; refine ⟨a, cap, rfl, hn, hl, h0, ?_⟩
  by_cases hn0 : n = 0
  · exact .inl hn0
  · obtain ⟨b, off, rfl, hb, hc⟩ := h.resolve_left hn0
    have hbz := hf (by omega) _ _ _ rfl; refine .inr ⟨b, off, rfl, Nat.lt_of_lt_of_le hb k.size, fun j hj => ?_⟩
    rw [← hc j hj]; exact World.cell?_of_block (w := w) (k.block b hb hbz)
theorem Sl.set {z j : Nat} {w : World} {v : Value} {sz n : Nat} {cs : List Value} (h : Sl w v sz n cs) (hf : Far z v) (x : Value) : Sl (w.setCell ⟨z, j, none⟩ x) v sz n cs :=
  h.chg (fun _ => hf) ((Chg.refl z w).set j x)
theorem Far.lit {z g o n c : Nat} (h : g ≠ z) : Far z (.slice (some ⟨g, o, none⟩) n c) := by intro a n c e; cases e; exact h
theorem Own.grown {w w' : World} {g : Nat} {cs : List Value} {row : Option Nat} (h : Own w g cs) (hg : w.grownBy w' row) (hne : some g ≠ row) : Own w' g cs := by
  have hl := h.lt; obtain ⟨cur, e, h, hc⟩ := h; exact ⟨cur, e, (hg.block g hl hne).trans h, hc⟩
theorem Own.chg {z : Nat} {w w' : World} {g : Nat} {cs : List Value} (h : Own w g cs) (k : Chg z w w') (hg : g ≠ z) : Own w' g cs := by
  have hl := h.lt; obtain ⟨cur, e, h, hc⟩ := h; exact ⟨cur, e, (k.block g hl hg).trans h, hc⟩
theorem Sl.farNew {w : World} {v : Value} {sz n z : Nat} {cs : List Value} (h : Sl w v sz n cs) (hz : w.heap.size ≤ z) : 0 < n → Far z v := by
  intro hn; obtain ⟨a, cap, rfl, _, _, _, h⟩ := h; obtain ⟨b, off, rfl, hb, _⟩ := h.resolve_left (by omega); intro a' n' c' e; cases e; show b ≠ z; omega
end
section
open Go Go.RowKit

def encL (b : Bool) (l : List Int) : List Int := if b then l else []
def encE (b : Bool) : Int := if b then 0 else 5
def EncP (b : Bool) (l : List Int) (w : World) (e : Ending) (w' : World) : Prop := GrewSl2 1 (encL b l).length ((encL b l).map U32) (encE b) w e w'
theorem hmf_any : ∀ (fn : Fn) (first cap : Array Value) (w : World), (Instr.makeFunc fn first cap).run Tryz.prog w = .ok (.func fn first cap) w := fun _ _ _ _ => rfl
def EncRel (W : World) (L : List Int) (v : Value) (wr : World) : Prop := wr.ownsRow W.heap.size 80 1 v L.length (L.map U32) ∧ Below W.heap.size W wr
end
section
open Go Go.RowKit

variable (ki me mo id te de fe pr ch un ta ow bp : Int)
end
section
open Go Go.RowKit

variable (ki me mo id te de fe pr ch un ta ow bp : Int)
end
section
open Go Go.RowKit

def mixD (l : List Int) (k : Nat) : List Value := (List.range 13).map fun j => I (if j < k then l.getD j 0 else 0)
theorem mixD_set {l : List Int} {k : Nat} : (mixD l k).set k (I (l.getD k 0)) = mixD l (k + 1) := by
  refine List.ext_getElem (by simp [mixD]) fun j h1 h2 => ?_
  simp only [mixD, List.getElem_set, List.getElem_map, List.getElem_range]
  by_cases hkj : k = j
  · subst hkj; rw [if_pos rfl, if_pos (by omega)]
  · rw [if_neg hkj]
    by_cases hlt : j < k
    · rw [if_pos hlt, if_pos (by omega)]
    · rw [if_neg hlt, if_neg (by omega)]
abbrev z13 : List Value := [I 0, I 0, I 0, I 0, I 0, I 0, I 0, I 0, I 0, I 0, I 0, I 0, I 0]
theorem zero13_own {W : World} {gv : Nat} {x0 x1 x2 x3 x4 x5 x6 x7 x8 x9 x10 x11 x12 : Value} (h : Own W gv [x0, x1, x2, x3, x4, x5, x6, x7, x8, x9, x10, x11, x12]) : Own (zero13 W gv) gv z13 :=
  ((((((((((((h.set 0 (I 0)).set 1 (I 0)).set 2 (I 0)).set 3 (I 0)).set 4 (I 0)).set 5 (I 0)).set 6 (I 0)).set 7 (I 0)).set 8 (I 0)).set 9 (I 0)).set 10 (I 0)).set 11 (I 0)).set 12 (I 0)
theorem zero13_other {W : World} {gv g : Nat} {cs : List Value} (h : Own W g cs) (hne : gv ≠ g) : Own (zero13 W gv) g cs := by
  unfold zero13
  (repeat refine Own.other ?_ hne _)
  exact h
theorem zero13_below {B : Nat} {a W : World} {gv : Nat} (h : Below B a W) (hg : B ≤ gv) : Below B a (zero13 W gv) := by
  unfold zero13
  (repeat refine Below.setCell ?_ hg _)
  exact h
def evL (l : List Int) : Bool := evMay (l.getD 0 0) (l.getD 1 0) (l.getD 2 0) (l.getD 3 0) (l.getD 4 0) (l.getD 5 0) (l.getD 6 0) (l.getD 7 0) (l.getD 8 0) (l.getD 9 0) (l.getD 10 0) (l.getD 11 0) (l.getD 12 0)
def decE (l : List Int) : Int := if l.length = 13 then (if evL l then 0 else 5) else 1
def decX (l : List Int) (k : Nat) : Int := if decE l = 0 then l.getD k 0 else 0
def decVal (l : List Int) : Value := evV (decX l 0) (decX l 1) (decX l 2) (decX l 3) (decX l 4) (decX l 5) (decX l 6) (decX l 7) (decX l 8) (decX l 9) (decX l 10) (decX l 11) (decX l 12)
def DecdP (l : List Int) (w : World) (e : Ending) (w' : World) : Prop := Grew (T2 (decVal l) (I (decE l))) w e w'
theorem DecdP.bad {l : List Int} {w w' : World} {k : Int} (h : decE l = k) (hk : k ≠ 0) (hb : Below w.heap.size w w') : DecdP l w (.returned (T2 (evV 0 0 0 0 0 0 0 0 0 0 0 0 0) (I k))) w' := by
  refine ⟨?_, hb⟩; have : ∀ j, decX l j = 0 := fun j => by unfold decX; rw [if_neg (by rw [h]; exact hk)]
  unfold decVal; simp only [this, h]
theorem DecdP.ok {l : List Int} {w w' : World} (h : decE l = 0) (hb : Below w.heap.size w w') : DecdP l w (.returned (T2 (evV (l.getD 0 0) (l.getD 1 0) (l.getD 2 0) (l.getD 3 0) (l.getD 4 0) (l.getD 5 0) (l.getD 6 0) (l.getD 7 0) (l.getD 8 0) (l.getD 9 0) (l.getD 10 0) (l.getD 11 0) (l.getD 12 0)) (I 0))) w' := by
  refine ⟨?_, hb⟩; have : ∀ j, decX l j = l.getD j 0 := fun j => by unfold decX; rw [if_pos h]
  unfold decVal; simp only [this, h]
theorem Decode_len (v : Value) (l : List Int) (w : World) (hS : Sl w v 1 l.length (l.map U32)) (h : l.length ≠ 13) : Calls Tryz.prog 39 #[v] w (DecdP l w) := by
  have HE := Lib.hid (show decE l = 1 by unfold decE; rw [if_neg h]); obtain ⟨a, cap, rfl, hn, hl, h0, hr⟩ := hS; have h1 : ((l.length : Int) == 13) = false := by rw [beq_eq_false_iff_ne]; omega
  have h2 : ¬ ((l.length : Nat) : Int) = 13 := by omega
  have hmf := hmf_any; have N := Lib.hid (fun W => want_no 1 W); clear hl h0 hr h; generalize l.length = n at *; have hO := Own.new (w := w.alloc (.cells z13.toArray 48)) (g := w.heap.size + 1) (by simp) [I 0] 27; have hV := (Own.new (w := w) rfl z13 48).alloc (.cells #[I 0] 27); have kk : Below w.heap.size w ((w.alloc (.cells z13.toArray 48)).alloc (.cells #[I 0] 27)) := (boxed_below w _).alloc (by simp) _; have HO := Lib.hid hO; have HV := Lib.hid hV; have KK := Lib.hid kk; clear hO hV kk
  go_enter_defers Tryz.func39, Tryz.ntmps39
  go_wp2_with fail
  refine (N.out _).mono ?_; rintro e w1 ⟨rfl, rfl⟩; have hO := HO.out; have hV := HV.out; have kk := KK.out; have hg := hO.lt; have cO := hO; have cf0 := cO.f 0; have c0 := cO.c0; clear cO; refine leaves_cons (f := 73) (args := #[.pointer (some ⟨w.heap.size + 1, 0, none⟩), .pointer (some ⟨w.heap.size, 0, none⟩)]) (by simp) (by simp [go_sem]) ?_; refine (dec_pan (w.heap.size + 1) w.heap.size 0 1 _ _ _ _ _ _ _ _ _ _ _ _ _ [] _ (by decide) (by omega) hV hg c0 cf0).mono ?_; rintro e u' w'' ⟨rfl, rfl, w8, k8, rfl⟩; rw [if_neg (by decide)]; have hO8 := ((hO.below k8).set 0 (I 1)); have hV8 := (hV.below k8).other (a := ⟨w.heap.size + 1, 0, none⟩) (by simp) (I 1); have kf := zero13_below (gv := w.heap.size) ((kk.trans (k8.mono kk.size)).setCell (p := ⟨w.heap.size + 1, 0, none⟩) (by simp) (I 1)) (Nat.le_refl _); have hO9 := zero13_other hO8 (show w.heap.size ≠ w.heap.size + 1 by omega); have hV9 := zero13_own hV8; generalize zero13 (w8.setCell ⟨w.heap.size + 1, 0, none⟩ (I 1)) w.heap.size = w9 at *; clear hO8 hV8 k8 c0 cf0; have cO := hO9; have cf0 := cO.f 0; have c0 := cO.c0; clear cO; have vO := hV9; have vfA := vO.f; have v0 := vO.c0; have v1 := vO.c1; have v2 := vO.c2; have v3 := vO.c3; have v4 := vO.c4; have v5 := vO.c5; have v6 := vO.c6; have v7 := vO.c7; have v8 := vO.c8; have v9 := vO.c9; have v10 := vO.c10; have v11 := vO.c11; have v12 := vO.c12; clear vO; (try simp only [List.set_cons_zero] at c0); simp [Leaves, settle, results, Tryz.results39, go_sem, c0, v0, v1, v2, v3, v4, v5, v6, v7, v8, v9, v10, v11, v12]; exact DecdP.bad HE.out (by decide) kf
end
section
open Go.RowKit

/-- a customer, the two lists as they lie -/
structure ACust where
  meter : Int
  rev : Int
  next : Int
  month : Int
  bought : Int
  free : Int
  da : Option Addr
  dn : Nat
  dc : Nat
  sa : Option Addr
  sn : Nat
  sc : Nat
  deriving Inhabited
def ACust.cells (x : ACust) : List Value := [I x.meter, I x.rev, I x.next, I x.month, I x.bought, I x.free, .slice x.da x.dn x.dc, .slice x.sa x.sn x.sc]
theorem ACust.cells_len (x : ACust) : x.cells.length = 8 := rfl
theorem elCust {w W : World} {b off : Nat} {xs : List ACust} (hb : b < w.heap.size) (hc : ∀ j, j < (xs.flatMap ACust.cells).length → w.cell? ⟨b, off + j, none⟩ = some ((xs.flatMap ACust.cells).getD j undef)) (hbw : Below w.heap.size w W) (k : Nat) (hk : k < xs.length) :
    ∀ i, i < 8 → W.cell? ⟨b, off + k * 8 + i, none⟩ = some ((xs.getD k default).cells.getD i undef) := by
  intro i hi; have := (hbw.cell (p := ⟨b, off + (k * 8 + i), none⟩) hb).trans (hc (k * 8 + i) (by rw [length_flat _ 8 ACust.cells_len]; exact pos_lt hk hi)); rw [getD_flat _ 8 ACust.cells_len _ _ _ hk hi] at this; rw [Nat.add_assoc]; exact this

/-- where a meter is found first -/
def findI (me : Int) : List Int → Nat → Int
  | [], _ => -1
  | x :: xs, k => if x = me then (k : Int) else findI me xs (k + 1)
theorem findI_hit {me : Int} : ∀ (l : List Int) (j k : Nat), k < l.length → (∀ q, q < k → l.getD q 0 ≠ me) → l.getD k 0 = me → findI me l j = ((j + k : Nat) : Int)
  | [], _, k, h, _, _ => by simp at h
  | x :: xs, j, 0, _, _, h => by simp at h; simp [findI, h]
  | x :: xs, j, k + 1, hk, hno, h => by
    have h0 : x ≠ me := by have := hno 0 (by omega); simpa using this
    rw [findI, if_neg h0, findI_hit xs (j + 1) k (by simpa using hk) (fun q hq => by have := hno (q + 1) (by omega); simpa using this) (by simpa using h)]
    congr 1; omega
theorem findI_none {me : Int} : ∀ (l : List Int) (j : Nat), (∀ q, q < l.length → l.getD q 0 ≠ me) → findI me l j = -1
  | [], _, _ => rfl
  | x :: xs, j, hno => by
    have h0 : x ≠ me := by have := hno 0 (by simp); simpa using this
    rw [findI, if_neg h0, findI_none xs (j + 1) (fun q hq => by have := hno (q + 1) (by simpa using hq); simpa using this)]
theorem findI_bd {me : Int} : ∀ (l : List Int) (j : Nat), findI me l j = -1 ∨ (0 ≤ findI me l j ∧ findI me l j < ((j + l.length : Nat) : Int))
  | [], _ => .inl rfl
  | x :: xs, j => by
    simp only [findI, List.length_cons]
    split
    · right; omega
    · rcases findI_bd (me := me) xs (j + 1) with h | h
      · exact .inl h
      · right; omega
def foundAt (xs : List ACust) (me : Int) : Int := findI me (xs.map ACust.meter) 0
theorem meter_at {xs : List ACust} {k : Nat} (hk : k < xs.length) : (xs.map ACust.meter).getD k 0 = (xs.getD k default).meter := by
  rw [List.getD_eq_getElem?_getD, List.getD_eq_getElem?_getD, List.getElem?_map, List.getElem?_eq_getElem hk]; rfl

/-- the closure: is it the meter? -/
theorem find1_any (x : ACust) (g : Nat) (me : Int) (w : World) (hg : g < w.heap.size) (hc : w.cell? ⟨g, 0, none⟩ = some (I me)) :
    Calls Tryz.prog 82 #[.agg x.cells.toArray, .pointer (some ⟨g, 0, none⟩)] w (Grew (.bool (x.meter == me)) w) := by
  obtain ⟨a, b, c, d, e, f, da, dn, dc, sa, sn, sc⟩ := x; have hne : ¬ g = w.heap.size := by omega
  have hk := boxed_below w (.cells (ACust.mk a b c d e f da dn dc sa sn sc).cells.toArray 67); simp only [ACust.cells] at hk ⊢; go_enter Tryz.func82, Tryz.ntmps82; go_wp2; go_ret; exact Grew.intro rfl hk

theorem IndexCust_any (v : Value) (xs : List ACust) (g : Nat) (me : Int) (w : World) (h : Sl w v 8 xs.length (xs.flatMap ACust.cells)) (hg : g < w.heap.size) (hc : w.cell? ⟨g, 0, none⟩ = some (I me)) :
    Calls Tryz.prog 81 #[v, .func (.func 82) #[] #[.pointer (some ⟨g, 0, none⟩)]] w (Grew (I (foundAt xs me)) w) := by
  obtain ⟨a, cap, rfl, hn, hl, h0, hr⟩ := h; clear hl h0; go_enter Tryz.func81, Tryz.ntmps81; go_wp2
  go_loopw [8] (fun i wr => ∃ k : Nat, k ≤ xs.length ∧ i = I k ∧ Hid (∀ q, q < k → (xs.map ACust.meter).getD q 0 ≠ me) ∧ Below w.heap.size w wr) (fun i _ => xs.length - (intOf i).toNat)
  case atStart => exact ⟨0, Nat.zero_le _, rfl, fun q hq => by omega, Below.refl _ _⟩
  case round =>
    obtain ⟨k, hk, rfl, hno, hb⟩ := hrel; have hsz := hb.size
    by_cases hlt : k < xs.length
    · obtain ⟨b, off, rfl, hbl, hcell⟩ := hr.resolve_left (by omega)
      have hel := elCust hbl hcell hb k hlt; have e0 := hel 0 (by decide); have e1 := hel 1 (by decide); have e2 := hel 2 (by decide); have e3 := hel 3 (by decide); have e4 := hel 4 (by decide); have e5 := hel 5 (by decide); have e6 := hel 6 (by decide); have e7 := hel 7 (by decide); have hit := Lib.hid (fun he => findI_hit (me := me) (xs.map ACust.meter) 0 k (by simpa using hlt) hno.out he)
      have hnx := Lib.hid (show (xs.map ACust.meter).getD k 0 ≠ me → ∀ q, q < k + 1 → (xs.map ACust.meter).getD q 0 ≠ me from fun hne q hq => by
        by_cases hqk : q = k
        · rw [hqk]; exact hne
        · exact hno.out q (by omega))
      rw [meter_at hlt] at hit hnx; have hi0 : (0 : Int) ≤ (k : Int) := by omega
      have hi1 : (k : Int) < (xs.length : Int) := by omega
      have hcg := (hb.cell (p := ⟨g, 0, none⟩) hg).trans hc; clear hel hr hcell; generalize xs.getD k default = x at *; simp only [ACust.cells, List.getD_cons_zero, List.getD_cons_succ, Nat.add_zero] at e0 e1 e2 e3 e4 e5 e6 e7; have C := Lib.hid (find1_any x g me wr (by omega) hcg)
      by_cases hm : x.meter = me
      · have hm2 : (x.meter == me) = true := by simp [hm]
        rw [hm2] at C; have HF := Lib.hid (hit.out hm); clear hm hm2 hit hnx
        go_wp2_with (go_at_call 82; refine C.out.mono ?_; rintro e w' ⟨rfl, hb2⟩; have hb := hb.trans (hb2.mono hsz))
        go_ret; exact Grew.intro (eI (by unfold foundAt; rw [HF.out]; omega)) hb
      · have hm2 : (x.meter == me) = false := by simp [hm]
        rw [hm2] at C; have HN := Lib.hid (hnx.out hm); clear hm hm2 hit hnx
        go_wp2_with (go_at_call 82; refine C.out.mono ?_; rintro e w' ⟨rfl, hb2⟩; have hb := hb.trans (hb2.mono hsz))
        exact ⟨⟨k + 1, by omega, by go_num, HN, hb⟩, by simp [intOf]; omega⟩
    · have hge : (xs.length : Int) ≤ (k : Int) := by omega
      have HF := Lib.hid (show foundAt xs me = -1 from findI_none _ 0 (fun q hq => hno.out q (by simp at hq; omega))); clear hno hr; go_wp2; go_ret; exact Grew.intro (eI HF.out.symm) hb

def findA (xs : List ACust) (me : Int) : Int := if foundAt xs me < 0 then 0 else foundAt xs me
def findE (xs : List ACust) (me : Int) : Int := if foundAt xs me < 0 then 18 else 0
theorem Find_any (v : Value) (xs : List ACust) (me : Int) (w : World) (h : Sl w v 8 xs.length (xs.flatMap ACust.cells)) :
    Calls Tryz.prog 41 #[.agg #[v], I me] w (Grew (T2 (I (findA xs me)) (I (findE xs me))) w) := by
  have h' := h; obtain ⟨a, cap, rfl, hn, hl, h0, hr⟩ := h; clear hl h0 hr hn; have hmf : ∀ (fn : Fn) (first cap : Array Value) (w : World), (Instr.makeFunc fn first cap).run Tryz.prog w = .ok (.func fn first cap) w := fun _ _ _ _ => rfl; have k0 := boxed_below w (.cells #[.slice a xs.length cap] 76); have k1 := k0.alloc k0.size (.cells #[I me] 3); have C := Lib.hid (fun W hW hg hc => IndexCust_any (.slice a xs.length cap) xs (w.heap.size + 1) me W hW hg hc); have hS := Lib.hid (h'.below k1); clear h'; rcases Classical.em (foundAt xs me < 0) with hf | hf
  · have e1 : findA xs me = 0 := by simp [findA, hf]
    have e2 : findE xs me = 18 := by simp [findE, hf]
    rw [e1, e2]; clear e1 e2; generalize foundAt xs me = f at *; go_enter Tryz.func41, Tryz.ntmps41
    go_wp2_with fail
    refine (C.out _ hS.out (by simp) (by simp)).mono ?_; rintro e w2 ⟨rfl, k2⟩; have k := k1.trans (k2.mono k1.size); clear hS C k2; go_wp2; go_ret2; exact Grew.intro rfl k
  · have e1 : findA xs me = foundAt xs me := by simp [findA, hf]
    have e2 : findE xs me = 0 := by simp [findE, hf]
    rw [e1, e2]; clear e1 e2; generalize foundAt xs me = f at *; go_enter Tryz.func41, Tryz.ntmps41
    go_wp2_with fail
    refine (C.out _ hS.out (by simp) (by simp)).mono ?_; rintro e w2 ⟨rfl, k2⟩; have k := k1.trans (k2.mono k1.size); clear hS C k2; go_wp2; go_ret2; exact Grew.intro rfl k

theorem Found_any (v : Value) (xs : List ACust) (me : Int) (w : World) (h : Sl w v 8 xs.length (xs.flatMap ACust.cells)) :
    Calls Tryz.prog 24 #[.agg #[v], I me] w (Grew (I (foundAt xs me)) w) := by
  obtain ⟨a, cap, rfl, hn, hl, h0, hr⟩ := h; clear hl h0; have k0 := boxed_below w (.cells #[.slice a xs.length cap] 76); go_enter Tryz.func24, Tryz.ntmps24; go_wp2
  go_loop [5] (fun i => ∃ k : Nat, k ≤ xs.length ∧ i = I k ∧ Hid (∀ q, q < k → (xs.map ACust.meter).getD q 0 ≠ me)) (fun i => xs.length - (intOf i).toNat)
  case atStart => exact ⟨0, Nat.zero_le _, rfl, fun q hq => by omega⟩
  case round =>
    obtain ⟨k, hk, rfl, hno⟩ := hrel
    by_cases hlt : k < xs.length
    · obtain ⟨b, off, rfl, hbl, hcell⟩ := hr.resolve_left (by omega)
      have e0 := elCust hbl hcell k0 k hlt 0 (by decide); have hit := Lib.hid (fun he => findI_hit (me := me) (xs.map ACust.meter) 0 k (by simpa using hlt) hno.out he)
      have hnx := Lib.hid (show (xs.map ACust.meter).getD k 0 ≠ me → ∀ q, q < k + 1 → (xs.map ACust.meter).getD q 0 ≠ me from fun hne q hq => by
        by_cases hqk : q = k
        · rw [hqk]; exact hne
        · exact hno.out q (by omega))
      rw [meter_at hlt] at hit hnx; have hi0 : (0 : Int) ≤ (k : Int) := by omega
      have hi1 : (k : Int) < (xs.length : Int) := by omega
      clear hr hcell; generalize xs.getD k default = x at *; simp only [ACust.cells, List.getD_cons_zero, Nat.add_zero] at e0; generalize x.meter = xm at *
      by_cases hm : xm = me
      · have hm2 : (xm == me) = true := by simp [hm]
        have HF := Lib.hid (hit.out hm); clear hm hit hnx; go_wp2; go_ret; exact Grew.intro (eI (by unfold foundAt; rw [HF.out]; omega)) k0
      · have hm2 : (xm == me) = false := by simp [hm]
        have HN := Lib.hid (hnx.out hm); clear hm hit hnx; go_wp2
        go_round
        case rel => first | exact ⟨k + 1, by omega, by go_num, HN⟩ | (refine ⟨rfl, ?_⟩; (repeat apply Exists.intro); refine ⟨?_, rfl⟩; exact ⟨k + 1, by omega, by go_num, HN⟩) | (refine ⟨trivial, ?_⟩; (repeat apply Exists.intro); refine ⟨?_, rfl⟩; exact ⟨k + 1, by omega, by go_num, HN⟩) | ((repeat apply Exists.intro); refine ⟨?_, rfl⟩; exact ⟨k + 1, by omega, by go_num, HN⟩)
        case measure => (simp [intOf]; omega)
    · have hge : (xs.length : Int) ≤ (k : Int) := by omega
      have HF := Lib.hid (show foundAt xs me = -1 from findI_none _ 0 (fun q hq => hno.out q (by simp at hq; omega))); clear hno hr; go_wp2; go_ret; exact Grew.intro (eI HF.out.symm) k0
end
section
open Go.RowKit
theorem elWrite {w W : World} {b off : Nat} {xs : List AWrite} (hb : b < w.heap.size) (hc : ∀ j, j < (xs.flatMap AWrite.cells).length → w.cell? ⟨b, off + j, none⟩ = some ((xs.flatMap AWrite.cells).getD j undef)) (hbw : Below w.heap.size w W) (k : Nat) (hk : k < xs.length) :
    W.cell? ⟨b, off + k * 2, none⟩ = some (I (xs.getD k default).at_) ∧ W.cell? ⟨b, off + k * 2 + 1, none⟩ = some (U32 (xs.getD k default).word) := by
  refine ⟨?_, ?_⟩
  · have := (hbw.cell (p := ⟨b, off + (k * 2 + 0), none⟩) hb).trans (hc (k * 2 + 0) (by rw [length_flat _ 2 AWrite.cells_len]; exact pos_lt hk (by decide)))
    rw [getD_flat _ 2 AWrite.cells_len _ _ _ hk (by decide)] at this; simpa [← Nat.add_assoc, AWrite.cells] using this
  · have := (hbw.cell (p := ⟨b, off + (k * 2 + 1), none⟩) hb).trans (hc (k * 2 + 1) (by rw [length_flat _ 2 AWrite.cells_len]; exact pos_lt hk (by decide)))
    rw [getD_flat _ 2 AWrite.cells_len _ _ _ hk (by decide)] at this; simpa [← Nat.add_assoc, AWrite.cells] using this
theorem elStep {w W : World} {b off : Nat} {xs : List AStep} (hb : b < w.heap.size) (hc : ∀ j, j < (xs.flatMap AStep.cells).length → w.cell? ⟨b, off + j, none⟩ = some ((xs.flatMap AStep.cells).getD j undef)) (hbw : Below w.heap.size w W) (k : Nat) (hk : k < xs.length) :
    W.cell? ⟨b, off + k * 2, none⟩ = some (I (xs.getD k default).upto) ∧ W.cell? ⟨b, off + k * 2 + 1, none⟩ = some (I (xs.getD k default).price) := by
  refine ⟨?_, ?_⟩
  · have := (hbw.cell (p := ⟨b, off + (k * 2 + 0), none⟩) hb).trans (hc (k * 2 + 0) (by rw [length_flat _ 2 AStep.cells_len]; exact pos_lt hk (by decide)))
    rw [getD_flat _ 2 AStep.cells_len _ _ _ hk (by decide)] at this; simpa [← Nat.add_assoc, AStep.cells] using this
  · have := (hbw.cell (p := ⟨b, off + (k * 2 + 1), none⟩) hb).trans (hc (k * 2 + 1) (by rw [length_flat _ 2 AStep.cells_len]; exact pos_lt hk (by decide)))
    rw [getD_flat _ 2 AStep.cells_len _ _ _ hk (by decide)] at this; simpa [← Nat.add_assoc, AStep.cells] using this
theorem elDebt {w W : World} {b off : Nat} {xs : List ADebt} (hb : b < w.heap.size) (hc : ∀ j, j < (xs.flatMap ADebt.cells).length → w.cell? ⟨b, off + j, none⟩ = some ((xs.flatMap ADebt.cells).getD j undef)) (hbw : Below w.heap.size w W) (k : Nat) (hk : k < xs.length) :
    W.cell? ⟨b, off + k * 2, none⟩ = some (I (xs.getD k default).owed) ∧ W.cell? ⟨b, off + k * 2 + 1, none⟩ = some (I (xs.getD k default).bp) := by
  refine ⟨?_, ?_⟩
  · have := (hbw.cell (p := ⟨b, off + (k * 2 + 0), none⟩) hb).trans (hc (k * 2 + 0) (by rw [length_flat _ 2 ADebt.cells_len]; exact pos_lt hk (by decide)))
    rw [getD_flat _ 2 ADebt.cells_len _ _ _ hk (by decide)] at this; simpa [← Nat.add_assoc, ADebt.cells] using this
  · have := (hbw.cell (p := ⟨b, off + (k * 2 + 1), none⟩) hb).trans (hc (k * 2 + 1) (by rw [length_flat _ 2 ADebt.cells_len]; exact pos_lt hk (by decide)))
    rw [getD_flat _ 2 ADebt.cells_len _ _ _ hk (by decide)] at this; simpa [← Nat.add_assoc, ADebt.cells] using this
theorem elSold {w W : World} {b off : Nat} {xs : List ASold} (hb : b < w.heap.size) (hc : ∀ j, j < (xs.flatMap ASold.cells).length → w.cell? ⟨b, off + j, none⟩ = some ((xs.flatMap ASold.cells).getD j undef)) (hbw : Below w.heap.size w W) (k : Nat) (hk : k < xs.length) :
    W.cell? ⟨b, off + k * 5, none⟩ = some (I (xs.getD k default).id) ∧ W.cell? ⟨b, off + k * 5 + 1, none⟩ = some (I (xs.getD k default).class_) ∧ W.cell? ⟨b, off + k * 5 + 2, none⟩ = some (I (xs.getD k default).amount) ∧ W.cell? ⟨b, off + k * 5 + 3, none⟩ = some (I (xs.getD k default).tag) ∧ W.cell? ⟨b, off + k * 5 + 4, none⟩ = some (I (xs.getD k default).rev) := by
  refine ⟨?_, ?_, ?_, ?_, ?_⟩
  · have := (hbw.cell (p := ⟨b, off + (k * 5 + 0), none⟩) hb).trans (hc (k * 5 + 0) (by rw [length_flat _ 5 ASold.cells_len]; exact pos_lt hk (by decide)))
    rw [getD_flat _ 5 ASold.cells_len _ _ _ hk (by decide)] at this; simpa [← Nat.add_assoc, ASold.cells] using this
  · have := (hbw.cell (p := ⟨b, off + (k * 5 + 1), none⟩) hb).trans (hc (k * 5 + 1) (by rw [length_flat _ 5 ASold.cells_len]; exact pos_lt hk (by decide)))
    rw [getD_flat _ 5 ASold.cells_len _ _ _ hk (by decide)] at this; simpa [← Nat.add_assoc, ASold.cells] using this
  · have := (hbw.cell (p := ⟨b, off + (k * 5 + 2), none⟩) hb).trans (hc (k * 5 + 2) (by rw [length_flat _ 5 ASold.cells_len]; exact pos_lt hk (by decide)))
    rw [getD_flat _ 5 ASold.cells_len _ _ _ hk (by decide)] at this; simpa [← Nat.add_assoc, ASold.cells] using this
  · have := (hbw.cell (p := ⟨b, off + (k * 5 + 3), none⟩) hb).trans (hc (k * 5 + 3) (by rw [length_flat _ 5 ASold.cells_len]; exact pos_lt hk (by decide)))
    rw [getD_flat _ 5 ASold.cells_len _ _ _ hk (by decide)] at this; simpa [← Nat.add_assoc, ASold.cells] using this
  · have := (hbw.cell (p := ⟨b, off + (k * 5 + 4), none⟩) hb).trans (hc (k * 5 + 4) (by rw [length_flat _ 5 ASold.cells_len]; exact pos_lt hk (by decide)))
    rw [getD_flat _ 5 ASold.cells_len _ _ _ hk (by decide)] at this; simpa [← Nat.add_assoc, ASold.cells] using this
end
end Go.Proofs.YtdjgcenjonegjaaGreat
