/- words.Over -/
import Derived.Test.YtdjgcenjonegjaaGreatDoorPk27
set_option maxRecDepth 20000
set_option maxHeartbeats 8000000
set_option linter.unusedSimpArgs false
set_option linter.unusedVariables false
namespace Go.Proofs.YtdjgcenjonegjaaGreatDoor
open Go.RowKit

/-- from the top down: what is left behind k words, and the word of the quotient then -/
def remO (d : Nat) (l : List Nat) : Nat → Nat
  | 0 => 0
  | k + 1 => (4294967296 * remO d l k + l.getD (2 - k) 0) % d
def quoO (d : Nat) (l : List Nat) (k : Nat) : Nat := (4294967296 * remO d l k + l.getD (2 - k) 0) / d
def mixO (d : Nat) (l : List Nat) (k i : Nat) : Nat := if 2 < i + k then quoO d l (2 - i) else l.getD i 0
theorem remO_lt {d : Nat} {l : List Nat} (hd : 0 < d) : ∀ k, remO d l k < d
  | 0 => hd
  | _ + 1 => Nat.mod_lt _ hd
theorem quoO_lt {d : Nat} {l : List Nat} (hl : allW l) (hd : 0 < d) (k : Nat) : quoO d l k < 4294967296 := by
  have h1 := remO_lt (l := l) hd k; have h2 := allW_at hl (2 - k); unfold quoO; refine Nat.div_lt_of_lt_mul ?_; omega
def OverRel (W : World) (d : Nat) (l : List Nat) (k : Nat) (wr : World) : Prop :=
  Own wr W.heap.size [U32 (mixO d l k 0), U32 (mixO d l k 1), U32 (mixO d l k 2)] ∧ Own wr (W.heap.size + 1) [U32 0, U32 0, U32 0] ∧ Below W.heap.size W wr
theorem OverRel.set {W : World} {d k j : Nat} {l : List Nat} {wr : World} (hj : j + k = 2) (h : OverRel W d l k wr) : Hid (OverRel W d l (k + 1) (wr.setCell ⟨W.heap.size, j, none⟩ (U32 (quoO d l k : Nat)))) := by
  refine ⟨?_, h.2.1.other (a := ⟨W.heap.size, j, none⟩) (by show W.heap.size ≠ W.heap.size + 1; omega) _, h.2.2.setCell (p := ⟨W.heap.size, j, none⟩) (Nat.le_refl _) _⟩; have h1 := h.1.set j (U32 (quoO d l k : Nat))
  have e : ([U32 (mixO d l k 0), U32 (mixO d l k 1), U32 (mixO d l k 2)] : List Value).set j (U32 (quoO d l k : Nat)) = [U32 (mixO d l (k + 1) 0), U32 (mixO d l (k + 1) 1), U32 (mixO d l (k + 1) 2)] := by
    rcases (show j = 0 ∧ k = 2 ∨ j = 1 ∧ k = 1 ∨ j = 2 ∧ k = 0 by omega) with ⟨rfl, rfl⟩ | ⟨rfl, rfl⟩ | ⟨rfl, rfl⟩ <;> simp [mixO]
  rw [e] at h1; exact h1
theorem OverRel.at {W : World} {d k j : Nat} {l : List Nat} {wr : World} (hj : j + k = 2) (h : OverRel W d l k wr) : wr.cell? ⟨W.heap.size, j, none⟩ = some (U32 (l.getD j 0 : Nat)) ∧ wr.frozen? ⟨W.heap.size, j, none⟩ = false := by
  refine ⟨?_, h.1.frozen j⟩; have := h.1.cell j (by simp; omega); rw [Nat.zero_add] at this; rw [this]; rcases (show j = 0 ∧ k = 2 ∨ j = 1 ∧ k = 1 ∨ j = 2 ∧ k = 0 by omega) with ⟨rfl, rfl⟩ | ⟨rfl, rfl⟩ | ⟨rfl, rfl⟩ <;> simp [mixO]
theorem OverRel.below {W : World} {d k : Nat} {l : List Nat} {wr w' : World} (h : OverRel W d l k wr) (k1 : Below wr.heap.size wr w') : OverRel W d l k w' :=
  ⟨h.1.below k1, h.2.1.below k1, h.2.2.trans (k1.mono h.2.2.size)⟩
theorem OverRel.start {W : World} {d a b c : Nat} : OverRel W d [a, b, c] 0 ((W.alloc (.cells #[U32 a, U32 b, U32 c] 86)).alloc (.cells #[U32 0, U32 0, U32 0] 86)) :=
  ⟨(Own.new (w := W) rfl [U32 a, U32 b, U32 c] 86).alloc _, Own.new (by simp) [U32 0, U32 0, U32 0] 86, (boxed_below W _).alloc (boxed_below W _).size _⟩
def GrewW3 (a b c d : Nat) (er : Int) (w : World) (e : Ending) (w' : World) : Prop := e = .returned (.tuple #[wideV a b c, U32 d, .int .i64 er]) ∧ Below w.heap.size w w'
theorem Over_any (a b c d : Nat) (w : World) (ha : a < 4294967296) (hb : b < 4294967296) (hc : c < 4294967296) (hd : d < 4294967296) (hd0 : 0 < d) :
    Calls Tryz.prog 55 #[wideV a b c, U32 d] w (GrewW3 (quoO d [a, b, c] 2) (quoO d [a, b, c] 1) (quoO d [a, b, c] 0) (remO d [a, b, c] 3) 0 w) := by
  have hR := Lib.hid (OverRel.start (W := w) (d := d) (a := a) (b := b) (c := c)); have hl : allW [a, b, c] := by intro d hd; simp at hd; omega
  have HC := Lib.hid (fun k => remO_lt (l := [a, b, c]) hd0 k); have HL := Lib.hid (allW_at hl); have dz : ¬ (d : Int) = 0 := by omega
  clear hl; go_enter Tryz.func55, Tryz.ntmps55; go_wp2; have h0 : ((d : Int) == 0) = false := by simp; omega
  rw [h0]; clear h0
  go_loopw [7, 8, 9, 13] (fun cv _ _ i wr => ∃ k : Nat, k ≤ 3 ∧ i = I k ∧ cv = U32 (remO d [a, b, c] k : Nat) ∧ Hid (OverRel w d [a, b, c] k wr)) (fun _ _ _ i _ => (3 - intOf i).toNat)
  case atStart => exact ⟨0, by decide, rfl, rfl, hR⟩
  case round =>
    clear hR; obtain ⟨k, hk, rfl, rfl, hR⟩ := hrel
    by_cases hlt : k < 3
    · obtain ⟨j, hj⟩ : ∃ j, j + k = 2 := ⟨2 - k, by omega⟩
      have ej : (2 : Int) - (k : Int) = (j : Int) := by omega
      have hi0 : (0 : Int) ≤ (j : Int) := by omega
      have hi1 : (j : Int) < 3 := by omega
      have hk3 : (k : Int) < 3 := by omega
      obtain ⟨e0, -⟩ := OverRel.at hj hR.out; have HS := Lib.hid (fun w' (h : Below wr.heap.size wr w') => And.intro (OverRel.at hj (hR.out.below h)) (OverRel.set hj (hR.out.below h))); have hc1 := HC.out k; have hw1 := HL.out j; have hcs := Lib.hid (show remO d [a, b, c] (k + 1) = (4294967296 * remO d [a, b, c] k + [a, b, c].getD j 0) % d by rw [show j = 2 - k by omega]; rfl); have hws := Lib.hid (show quoO d [a, b, c] k = (4294967296 * remO d [a, b, c] k + [a, b, c].getD j 0) / d by rw [show j = 2 - k by omega]; rfl); generalize remO d [a, b, c] k = cc at *; generalize [a, b, c].getD j 0 = x at *; have C := Lib.hid (fun W => Div32_any cc x d W hc1 hw1 hd); generalize (4294967296 * cc + x) % d = c2 at *; generalize (4294967296 * cc + x) / d = d2 at *; rw [hws.out] at HS; clear hR hws
      go_wp2_with fail
      refine (C.out _).mono ?_; rintro e w' ⟨rfl, k1⟩; obtain ⟨⟨g0, f0⟩, hnew⟩ := HS.out _ k1; clear HS k1; go_wp2; exact ⟨⟨k + 1, by omega, by go_num, by rw [hcs.out], hnew⟩, by simp [intOf]; try omega⟩
    · have hk3 : k = 3 := by omega
      subst hk3; obtain ⟨o1, o2, hbw⟩ := hR.out; have e0 : mixO d [a, b, c] 3 0 = quoO d [a, b, c] 2 := rfl; have e1 : mixO d [a, b, c] 3 1 = quoO d [a, b, c] 1 := rfl; have e2 : mixO d [a, b, c] 3 2 = quoO d [a, b, c] 0 := rfl; rw [e0, e1, e2] at o1; have cO := o1; have cfA := cO.f; have c0 := cO.c0; have c1 := cO.c1; have c2 := cO.c2; clear cO; have zO := o2; have zA := zO.s3; clear zO; clear o1 o2 hR e0 e1 e2; have r1 := set_same; have r2 := set_off; have r3 := set_blk; go_wp2; refine bodyPost_ret (v := .tuple #[wideV (quoO d [a, b, c] 2) (quoO d [a, b, c] 1) (quoO d [a, b, c] 0), U32 (remO d [a, b, c] 3 : Nat), .int .i64 0]) (by simp [results, Tryz.results55, go_sem, *]) rfl ⟨rfl, below_autor⟩
end Go.Proofs.YtdjgcenjonegjaaGreatDoor
