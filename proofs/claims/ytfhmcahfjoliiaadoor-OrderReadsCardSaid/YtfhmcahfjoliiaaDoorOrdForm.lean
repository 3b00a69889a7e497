/- order.Show: the forms, and which of them is the order's -/
import Derived.Test.YtfhmcahfjoliiaaDoorActWord
import Derived.Test.YtfhmcahfjoliiaaDoorOwn
namespace Go.Proofs.YtfhmcahfjoliiaaDoor
set_option linter.unusedSimpArgs false
set_option linter.unusedVariables false
open Go Go.RowKit
set_option maxRecDepth 20000

/-- the table of the forms as it lies -/
def FormT (w : World) : Prop := ∀ k : Nat, k < 7 → w.cell? ⟨0, k * 5, none⟩ = some (I ((k : Int) + 1)) ∧ w.cell? ⟨0, k * 5 + 1, none⟩ = some (.string (actW ((k : Int) + 1))) ∧ w.cell? ⟨0, k * 5 + 2, none⟩ = some (.bool (actA ((k : Int) + 1))) ∧ w.cell? ⟨0, k * 5 + 3, none⟩ = some (.bool (actB ((k : Int) + 1))) ∧ w.cell? ⟨0, k * 5 + 4, none⟩ = some (.bool (actC ((k : Int) + 1)))
theorem FormT.lt {w : World} (h : FormT w) : 0 < w.heap.size := block_lt_of_cell (h 0 (by decide)).1
theorem FormT.below {w W : World} (h : FormT w) (k : Below w.heap.size w W) : FormT W := by
  have hl := h.lt
  intro j hj
  obtain ⟨h0, h1, h2, h3, h4⟩ := h j hj
  exact ⟨(k.cell (p := ⟨_, _, none⟩) hl).trans h0, (k.cell (p := ⟨_, _, none⟩) hl).trans h1, (k.cell (p := ⟨_, _, none⟩) hl).trans h2, (k.cell (p := ⟨_, _, none⟩) hl).trans h3, (k.cell (p := ⟨_, _, none⟩) hl).trans h4⟩
def formI (ki : Int) : Int := if 1 ≤ ki ∧ ki ≤ 7 then ki - 1 else -1

/-- the closure: is it the kind? -/
theorem form1_any (fk : Int) (fw : ByteArray) (fa fb fc : Bool) (g : Nat) (ki : Int) (w : World) (hg : g < w.heap.size) (hc : w.cell? ⟨g, 0, none⟩ = some (I ki)) :
    Calls Tryd.prog 19 #[.agg #[I fk, .string fw, .bool fa, .bool fb, .bool fc], .pointer (some ⟨g, 0, none⟩)] w (Grew (.bool (fk == ki)) w) := by
  have hne : ¬ g = w.heap.size := by omega
  have hk := boxed_below w (.cells #[I fk, .string fw, .bool fa, .bool fb, .bool fc] 35)
  go_enter Tryd.func19, Tryd.ntmps19
  go_wp2
  go_ret
  exact Grew.intro rfl hk

set_option maxHeartbeats 1000000 in
theorem IndexForm_any (g : Nat) (ki : Int) (w : World) (hF : FormT w) (hg : g < w.heap.size) (hc : w.cell? ⟨g, 0, none⟩ = some (I ki)) :
    Calls Tryd.prog 18 #[.slice (some ⟨0, 0, none⟩) 7 7, .func (.func 19) #[] #[.pointer (some ⟨g, 0, none⟩)]] w (Grew (I (formI ki)) w) := by
  have HF := Lib.hid hF
  clear hF
  go_enter Tryd.func18, Tryd.ntmps18
  go_wp2
  go_loopw [8] (fun i wr => ∃ k : Nat, k ≤ 7 ∧ i = I k ∧ Hid (∀ q : Nat, q < k → (q : Int) + 1 ≠ ki) ∧ Below w.heap.size w wr) (fun i _ => 7 - (intOf i).toNat)
  case atStart => exact ⟨0, Nat.zero_le _, rfl, fun q hq => by omega, Below.refl _ _⟩
  case round =>
    obtain ⟨k, hk, rfl, hno, hb⟩ := hrel
    have hsz := hb.size
    by_cases hlt : k < 7
    · obtain ⟨e0, e1, e2, e3, e4⟩ := HF.out.below hb k hlt
      have hi0 : (0 : Int) ≤ (k : Int) := by omega
      have hi1 : (k : Int) < 7 := by omega
      have hcg := (hb.cell (p := ⟨g, 0, none⟩) hg).trans hc
      have C := Lib.hid (form1_any ((k : Int) + 1) (actW ((k : Int) + 1)) (actA ((k : Int) + 1)) (actB ((k : Int) + 1)) (actC ((k : Int) + 1)) g ki wr (by omega) hcg)
      generalize actW ((k : Int) + 1) = fw at *
      generalize actA ((k : Int) + 1) = fa at *
      generalize actB ((k : Int) + 1) = fb at *
      generalize actC ((k : Int) + 1) = fc at *
      by_cases hm : (k : Int) + 1 = ki
      · have HN := Lib.hid (show formI ki = (k : Int) by unfold formI; rw [if_pos (by omega)]; omega)
        rw [show ((k : Int) + 1 == ki) = true by simp [hm]] at C
        clear hm hno
        go_wp2_with (go_at_call 19; refine C.out.mono ?_; rintro e w' ⟨rfl, hb2⟩; have hb := hb.trans (hb2.mono hsz))
        go_ret
        exact Grew.intro (eI HN.out.symm) hb
      · have HN := Lib.hid (show ∀ q : Nat, q < k + 1 → (q : Int) + 1 ≠ ki from fun q hq => by
          by_cases e : q = k
          · subst e; exact hm
          · exact hno.out q (by omega))
        rw [show ((k : Int) + 1 == ki) = false by simp [hm]] at C
        clear hm hno
        go_wp2_with (go_at_call 19; refine C.out.mono ?_; rintro e w' ⟨rfl, hb2⟩; have hb := hb.trans (hb2.mono hsz))
        exact ⟨⟨k + 1, by omega, by go_num, HN, hb⟩, by simp [intOf]; omega⟩
    · have hk7 : k = 7 := by omega
      subst hk7
      have HN := Lib.hid (show formI ki = -1 by
        unfold formI
        rw [if_neg]
        rintro ⟨h1, h2⟩
        exact hno.out (ki - 1).toNat (by omega) (by omega))
      clear hno
      go_wp2
      go_ret
      exact Grew.intro (eI HN.out.symm) hb
end Go.Proofs.YtfhmcahfjoliiaaDoor
