/- cell.Apply: the test of the places -/
import Derived.Test.YtebcdabdnmeeaaaApplyLaw
import Derived.Test.YtebcdabdnmeeaaaElems
import Derived.Test.YtebcdabdnmeeaaaFits
import Derived.Test.YtebcdabdnmeeaaaOwn
import Derived.Laws.CopyOwn
namespace Go.Proofs.Ytebcdabdnmeeaaa
open Go.RowKit
set_option maxRecDepth 20000

set_option maxHeartbeats 1000000 in
/-- the closure's test of one write -/
theorem clos_any (x : AWrite) (g n cap : Nat) (a : Option Addr) (w : World) (hg : g < w.heap.size) (hc : w.cell? ⟨g, 0, none⟩ = some (.slice a n cap)) :
    Calls Try.prog 61 #[.agg #[I x.at_, U32 x.word], .pointer (some ⟨g, 0, none⟩)] w (Grew (.bool (!inB x.at_ 0 ((n : Int) - 1))) w) := by
  have hc' : (w.alloc (.cells #[I x.at_, U32 x.word] 78)).cell? ⟨g, 0, none⟩ = some (.slice a n cap) := by
    rw [(boxed_below w _).cell (p := ⟨g, 0, none⟩) hg]; exact hc
  have hne : ¬ g = w.heap.size := by omega
  by_cases h0 : x.at_ < 0
  · have e : inB x.at_ 0 ((n : Int) - 1) = false := by rw [← Bool.not_eq_true, inB_true]; omega
    rw [e]
    clear e
    go_enter Try.func61, Try.ntmps61
    go_wp2
    go_ret
    exact Grew.intro rfl (by repeat first | exact Below.refl _ _ | assumption | refine drewN_below ?_ _ | refine Below.alloc ?_ (by first | exact Nat.le_refl _ | exact Below.size (by assumption) | (simp; done) | (simp; omega) | omega) _ | refine Below.setCell ?_ (by first | exact Nat.le_refl _ | (simp; done) | (simp; omega) | omega) _)
  · by_cases h1 : (n : Int) ≤ x.at_
    · have e : inB x.at_ 0 ((n : Int) - 1) = false := by rw [← Bool.not_eq_true, inB_true]; omega
      rw [e]
      clear e
      go_enter Try.func61, Try.ntmps61
      go_wp2
      go_ret
      exact Grew.intro (eB (by simp [h1])) (by repeat first | exact Below.refl _ _ | assumption | refine drewN_below ?_ _ | refine Below.alloc ?_ (by first | exact Nat.le_refl _ | exact Below.size (by assumption) | (simp; done) | (simp; omega) | omega) _ | refine Below.setCell ?_ (by first | exact Nat.le_refl _ | (simp; done) | (simp; omega) | omega) _)
    · have e : inB x.at_ 0 ((n : Int) - 1) = true := by rw [inB_true]; omega
      rw [e]
      clear e
      go_enter Try.func61, Try.ntmps61
      go_wp2
      go_ret
      exact Grew.intro (eB (by first | (simp; done) | (simp; omega))) (by repeat first | exact Below.refl _ _ | assumption | refine drewN_below ?_ _ | refine Below.alloc ?_ (by first | exact Nat.le_refl _ | exact Below.size (by assumption) | (simp; done) | (simp; omega) | omega) _ | refine Below.setCell ?_ (by first | exact Nat.le_refl _ | (simp; done) | (simp; omega) | omega) _)

theorem atsOk_all {n : Nat} {ws : List AWrite} (h : ∀ j, j < ws.length → inB (ws.getD j default).at_ 0 ((n : Int) - 1) = true) : atsOk n ws = true := by
  unfold atsOk
  rw [List.all_eq_true]
  intro x hx
  obtain ⟨j, hj, he⟩ := List.getElem_of_mem hx
  have := h j hj
  rw [List.getD_eq_getElem?_getD, List.getElem?_eq_getElem hj] at this
  rw [← he]; exact this

set_option maxHeartbeats 1000000 in
theorem IndexW_any (v : Value) (ws : List AWrite) (g n cap : Nat) (a : Option Addr) (w : World) (h : Sl w v 2 ws.length (ws.flatMap AWrite.cells)) (hg : g < w.heap.size) (hc : w.cell? ⟨g, 0, none⟩ = some (.slice a n cap)) :
    Calls Try.prog 69 #[v, .func (.func 61) #[] #[.pointer (some ⟨g, 0, none⟩)]] w (fun e w' => ∃ r : Int, e = .returned (I r) ∧ decide (0 ≤ r) = !atsOk n ws ∧ Below w.heap.size w w') := by
  obtain ⟨b0, cap0, rfl, hn, hl, h0, hr⟩ := h
  clear hl h0
  go_enter Try.func69, Try.ntmps69
  go_wp2
  go_loopw [8] (fun i wr => ∃ k : Nat, k ≤ ws.length ∧ i = I k ∧ Hid (∀ q, q < k → inB (ws.getD q default).at_ 0 ((n : Int) - 1) = true) ∧ Below w.heap.size w wr) (fun i _ => ws.length - (intOf i).toNat)
  case atStart => exact ⟨0, Nat.zero_le _, rfl, fun q hq => by omega, Below.refl _ _⟩
  case round =>
    obtain ⟨k, hk, rfl, hall, hb⟩ := hrel
    have hsz := hb.size
    by_cases hlt : k < ws.length
    · obtain ⟨b, off, rfl, hbl, hcell⟩ := hr.resolve_left (by omega)
      obtain ⟨e0, e1⟩ := elWrite hbl hcell hb k hlt
      have hcg := (hb.cell (p := ⟨g, 0, none⟩) hg).trans hc
      have hnx := Lib.hid (show inB (ws.getD k default).at_ 0 ((n : Int) - 1) = true → ∀ q, q < k + 1 → inB (ws.getD q default).at_ 0 ((n : Int) - 1) = true from fun hh q hq => by
        by_cases hqk : q = k
        · rw [hqk]; exact hh
        · exact hall.out q (by omega))
      have hbad := Lib.hid (show inB (ws.getD k default).at_ 0 ((n : Int) - 1) = false → atsOk n ws = false from fun hh => atsOk_no hlt (fun hx => by
        have : inB (ws.getD k default).at_ 0 ((n : Int) - 1) = true := inB_true.2 (by omega)
        rw [this] at hh; cases hh))
      have hi0 : (0 : Int) ≤ (k : Int) := by omega
      have hi1 : (k : Int) < (ws.length : Int) := by omega
      clear hr hcell
      generalize ws.getD k default = x at *
      have C := Lib.hid (clos_any x g n cap a wr (by omega) hcg)
      cases hx : inB x.at_ 0 ((n : Int) - 1)
      · have HB := Lib.hid (hbad.out hx)
        rw [hx] at C
        clear hnx hbad hx
        go_wp2_with (go_at_call 61; refine C.out.mono ?_; rintro e w' ⟨rfl, hb2⟩; have hb := hb.trans (hb2.mono hsz))
        go_ret
        exact ⟨_, rfl, by rw [HB.out]; simp, hb⟩
      · have HB := Lib.hid (hnx.out hx)
        rw [hx] at C
        clear hnx hbad hx
        go_wp2_with (go_at_call 61; refine C.out.mono ?_; rintro e w' ⟨rfl, hb2⟩; have hb := hb.trans (hb2.mono hsz))
        exact ⟨⟨k + 1, by omega, by go_num, HB, hb⟩, by simp [intOf]; omega⟩
    · have hge : (ws.length : Int) ≤ (k : Int) := by omega
      have HA := Lib.hid (atsOk_all (n := n) (ws := ws) (fun j hj => hall.out j (by omega)))
      clear hr hall
      go_wp2
      go_ret
      exact ⟨_, rfl, by rw [HA.out]; rfl, hb⟩

theorem ContainsW_any (v : Value) (ws : List AWrite) (g n cap : Nat) (a : Option Addr) (w : World) (h : Sl w v 2 ws.length (ws.flatMap AWrite.cells)) (hg : g < w.heap.size) (hc : w.cell? ⟨g, 0, none⟩ = some (.slice a n cap)) :
    Calls Try.prog 60 #[v, .func (.func 61) #[] #[.pointer (some ⟨g, 0, none⟩)]] w (Grew (.bool (!atsOk n ws)) w) := by
  have C := Lib.hid (IndexW_any v ws g n cap a w h hg hc)
  obtain ⟨b0, cap0, rfl, _⟩ := h
  go_enter Try.func60, Try.ntmps60
  go_wp2_with fail
  refine C.out.mono ?_
  rintro e w' ⟨r, rfl, hr, k⟩
  go_wp2
  go_ret
  exact Grew.intro (eB (by first | exact hr | (rw [← hr]) | rfl)) k

theorem own_setRow {w : World} {g : Nat} {cur : Array Value} {t : TypeId} (hg : w.heap[g]? = some (.cells cur t (0, 0))) (cs rest : List Value) : Own (w.setRow g (cs ++ rest).toArray) g cs := by
  refine ⟨(cs ++ rest).toArray, t, ?_, fun j hj => ?_⟩
  · simp [World.setRow, Array.getElem?_modify, hg]
  · rw [List.getD_eq_getElem?_getD, List.getElem?_eq_getElem hj]; simp [List.getElem?_append_left hj, hj]
theorem below_setRow {B : Nat} {a w : World} (h : Below B a w) {g : Nat} (hg : B ≤ g) (cs : Array Value) : Below B a (w.setRow g cs) :=
  h.trans ⟨rfl, rfl, rfl, by simp [World.setRow], fun k hk => by simp [World.setRow, Array.getElem?_modify, show ¬ g = k by omega]⟩
def PRel (w : World) (g : Nat) (xs : List Int) (ws : List AWrite) (k : Nat) (wr : World) : Prop := Own wr g ((putsL xs ws k).map U32) ∧ Below w.heap.size w wr
theorem PRel.next {w : World} {g : Nat} {xs : List Int} {ws : List AWrite} {k : Nat} {wr : World} (h : PRel w g xs ws k wr) (hg : w.heap.size ≤ g) : PRel w g xs ws (k + 1) (wr.setCell ⟨g, (ws.getD k default).at_.toNat, none⟩ (U32 (ws.getD k default).word)) := by
  refine ⟨?_, h.2.setCell hg _⟩
  simp only [putsL, List.map_set]
  exact h.1.set _ _
end Go.Proofs.Ytebcdabdnmeeaaa
