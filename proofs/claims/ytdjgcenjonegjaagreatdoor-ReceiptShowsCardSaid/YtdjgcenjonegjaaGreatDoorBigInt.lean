/- great numbers: the objects -/
import Derived.Test.YtdjgcenjonegjaaGreatDoorBigTrim
import Derived.Test.YtdjgcenjonegjaaGreatDoorPk08
set_option maxRecDepth 20000
set_option maxHeartbeats 8000000
set_option linter.unusedSimpArgs false
set_option linter.unusedVariables false
namespace Go.Proofs.YtdjgcenjonegjaaGreatDoor
open Go.RowKit

/-- block z is a great number's: its sign and its words -/
def BIat (w : World) (z : Nat) (nb : Bool) (v : Value) : Prop := w.heap[z]? = some (.cells #[.bool nb, v] 104 (0, 0))
def BI (w : World) (z : Nat) (x : Int) : Prop := ∃ v, BIat w z (decide (x < 0)) v ∧ Abs w v x.natAbs
theorem BIat.lt {w : World} {z : Nat} {nb : Bool} {v : Value} (h : BIat w z nb v) : z < w.heap.size := (Array.getElem?_eq_some_iff.1 h).1
theorem BIat.cells {w : World} {z : Nat} {nb : Bool} {v : Value} (h : BIat w z nb v) : w.cell? ⟨z, 0, none⟩ = some (.bool nb) ∧ w.cell? ⟨z, 1, none⟩ = some v ∧ w.frozen? ⟨z, 0, none⟩ = false ∧ w.frozen? ⟨z, 1, none⟩ = false := by
  unfold BIat at h; refine ⟨?_, ?_, ?_, ?_⟩
  · rw [cell_of_cells h]; rfl
  · rw [cell_of_cells h]; rfl
  · simp [World.frozen?, h]
  · simp [World.frozen?, h]
theorem BIat.set0 {w : World} {z : Nat} {nb : Bool} {v : Value} (h : BIat w z nb v) (mb : Bool) : BIat (w.setCell ⟨z, 0, none⟩ (.bool mb)) z mb v := by
  unfold BIat at *; simp [World.setCell, Array.getElem?_modify, h]
theorem BIat.set1 {w : World} {z : Nat} {nb : Bool} {v : Value} (h : BIat w z nb v) (u : Value) : BIat (w.setCell ⟨z, 1, none⟩ u) z nb u := by
  unfold BIat at *; simp [World.setCell, Array.getElem?_modify, h]
theorem BIat.chg {w w' : World} {z p : Nat} {nb : Bool} {v : Value} (h : BIat w p nb v) (k : Chg z w w') (hp : p ≠ z) : BIat w' p nb v := (k.block p h.lt hp).trans h
/-- words lie in no number's own block -/
theorem Abs.chg {w w' : World} {z : Nat} {nb : Bool} {v u : Value} {n : Nat} (h : Abs w u n) (hz : BIat w z nb v) (hv : ∀ k : Int, v ≠ U32 k) (k : Chg z w w') : Abs w' u n := by
  obtain ⟨l, ⟨a, cap, rfl, hn, hl, h0, hr⟩, hC⟩ := h; refine ⟨l, ⟨a, cap, rfl, hn, hl, h0, ?_⟩, hC⟩; rcases hr with hr | ⟨b, off, rfl, hlt, hc⟩
  · exact .inl hr
  · by_cases hlen : l.length = 0
    · exact .inl hlen
    · have hbz : b ≠ z := by
        rintro rfl; have h1 := hc 0 (by rw [wcells_len]; omega); rw [wcells_at (by omega), cell_of_cells hz] at h1; rcases Nat.lt_trichotomy (off + 0) 1 with ho | ho | ho
        · rw [show off + 0 = 0 by omega] at h1; simp at h1
        · rw [ho] at h1; simp at h1; exact hv _ h1
        · rw [Array.getElem?_eq_none (by simp; omega)] at h1; cases h1
      refine .inr ⟨b, off, rfl, Nat.lt_of_lt_of_le hlt k.size, fun j hj => ?_⟩
      rw [← hc j hj]; exact World.cell?_of_block (w := w) (k.block b hlt hbz)
theorem Abs.slice {w : World} {v : Value} {n : Nat} (h : Abs w v n) : ∀ k : Int, v ≠ U32 k := by
  obtain ⟨l, ⟨a, cap, rfl, _⟩, _⟩ := h; intro k hk; cases hk
def signed (nb : Bool) (n : Nat) : Int := if nb then -(n : Int) else n
theorem signed_abs (nb : Bool) (n : Nat) : (signed nb n).natAbs = n := by unfold signed; split <;> omega
/-- the call returns number z, which is x; of the rest nothing has turned -/
def Gave (z : Nat) (x : Int) (w : World) (e : Ending) (w' : World) : Prop := e = .returned (.pointer (some ⟨z, 0, none⟩)) ∧ BI w' z x ∧ Chg z w w'

theorem give_any (z : Nat) (nb nb0 : Bool) (v0 v : Value) (n : Nat) (w : World) (hz : BIat w z nb0 v0) (hv0 : ∀ k : Int, v0 ≠ U32 k) (h : Abs w v n) :
    Calls Tryz.prog 102 #[.pointer (some ⟨z, 0, none⟩), .bool nb, v] w (Gave z (signed nb n) w) := by
  have hA := h; obtain ⟨l, hS, hC⟩ := h; obtain ⟨c0, c1, f0, f1⟩ := hz.cells
  have hlen : (0 < l.length) ↔ 0 < n := by
    constructor
    · intro hl
      refine Decidable.byContradiction fun hn => ?_
      have : n = 0 := by omega
      subst this; rw [can_zero hC] at hl; simp at hl
    · intro hn
      refine Decidable.byContradiction fun hl => ?_
      have : l = [] := List.length_eq_zero_iff.1 (by omega); subst this; have := hC.1; simp [val] at this; omega
  obtain ⟨a, cap, rfl, _⟩ := hS
  have HB : ∀ mb : Bool, mb = decide (signed nb n < 0) → Hid (BI ((w.setCell ⟨z, 1, none⟩ (.slice a l.length cap)).setCell ⟨z, 0, none⟩ (.bool mb)) z (signed nb n)) := by
    intro mb hmb; refine ⟨.slice a l.length cap, by rw [← hmb]; exact (hz.set1 _).set0 mb, ?_⟩; rw [signed_abs]; exact hA.chg hz hv0 (((Chg.refl z w).set 1 _).set 0 _)
  have HK : ∀ mb : Bool, Hid (Chg z w ((w.setCell ⟨z, 1, none⟩ (.slice a l.length cap)).setCell ⟨z, 0, none⟩ (.bool mb))) := fun mb => ((Chg.refl z w).set 1 _).set 0 _; have r1 := set_same; have r2 := set_off; cases nb with
  | false =>
    have hb := HB false (by simp [signed]); have hk := HK false; clear HB HK hA hC hz hlen; go_enter Tryz.func102, Tryz.ntmps102; go_wp2; go_ret; exact ⟨rfl, hb.out, hk.out⟩
  | true =>
    by_cases hl : 0 < l.length
    · have hn := hlen.1 hl
      have hb := HB true (by rw [eq_comm, decide_eq_true_eq]; simp only [signed, if_true]; omega); have hk := HK true; have hl' : (0 : Int) < (l.length : Int) := by omega
      clear HB HK hA hC hz hlen hn; go_enter Tryz.func102, Tryz.ntmps102; go_wp2; go_ret; exact ⟨rfl, hb.out, hk.out⟩
    · have hn : ¬ 0 < n := fun h => hl (hlen.2 h)
      have hb := HB false (by rw [eq_comm, decide_eq_false_iff_not]; simp only [signed, if_true]; omega); have hk := HK false; have hl0 : l.length = 0 := by omega
      have hl2 : decide (0 < l.length) = false := decide_eq_false hl; have Hl2 := Lib.hid hl2; clear HB HK hA hC hz hlen hn hl hl0 hl2; go_enter Tryz.func102, Tryz.ntmps102; go_wp2; rw [Hl2.out]; go_ret; exact ⟨rfl, hb.out, hk.out⟩

theorem SetInt64_any (z : Nat) (nb0 : Bool) (v0 : Value) (x : Int) (w : World) (hz : BIat w z nb0 v0) (hv0 : ∀ k : Int, v0 ≠ U32 k) (hx0 : 0 ≤ x) (hx1 : x ≤ 9223372036854775807) :
    Calls Tryz.prog 104 #[.pointer (some ⟨z, 0, none⟩), I x] w (Gave z x w) := by
  obtain ⟨n, rfl⟩ := Int.eq_ofNat_of_zero_le hx0; have Wd := Lib.hid (fun W => words_big n W (by omega)); have c1 : ¬ (n : Int) < 0 := by omega
  have hzl := hz.lt; go_enter Tryz.func104, Tryz.ntmps104
  go_wp2_with fail
  refine (Wd.out _).mono ?_; rintro e w1 ⟨v, rfl, hA, k1⟩; have G := Lib.hid (give_any z false nb0 v0 v n w1 (by unfold BIat at *; rw [k1.block z hzl]; exact hz) hv0 hA); clear hz hA
  go_wp2_with fail
  refine G.out.mono ?_; rintro e w2 ⟨rfl, hB, hK⟩; have hc := (Chg.of_below k1 : Chg z w w1).trans hK; go_wp2; go_ret; exact ⟨rfl, hB, hc⟩

theorem zeroB (w : World) : BIat (w.alloc (.cells #[.bool false, .slice none 0 0] 104)) w.heap.size false (.slice none 0 0) := heap_alloc_new w _
/-- NewInt: a number in new memory -/
def GrewBI (x : Int) (w : World) (e : Ending) (w' : World) : Prop := ∃ z, e = .returned (.pointer (some ⟨z, 0, none⟩)) ∧ BI w' z x ∧ w.heap.size ≤ z ∧ Below w.heap.size w w'
theorem NewInt_any (x : Int) (w : World) (hx0 : 0 ≤ x) (hx1 : x ≤ 9223372036854775807) : Calls Tryz.prog 66 #[I x] w (GrewBI x w) := by
  have S := Lib.hid (SetInt64_any w.heap.size false (.slice none 0 0) x _ (zeroB w) (fun k hk => by cases hk) hx0 hx1); have k0 := boxed_below w (.cells #[.bool false, .slice none 0 0] 104); go_enter Tryz.func66, Tryz.ntmps66
  go_wp2_with fail
  refine S.out.mono ?_; rintro e w1 ⟨rfl, hB, hK⟩; have k := hK.below k0 (Nat.le_refl _) k0.size; clear hK; go_wp2; go_ret; exact ⟨_, rfl, hB, Nat.le_refl _, k⟩
end Go.Proofs.YtdjgcenjonegjaaGreatDoor
