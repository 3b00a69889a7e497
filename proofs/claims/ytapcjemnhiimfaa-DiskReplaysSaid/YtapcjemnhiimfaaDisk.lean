/- disk: the tape, program and reference, as far as where the next record goes -/
import Derived.Test.YtapcjemnhiimfaaIn
import Derived.Test.YtapcjemnhiimfaaApi
import Derived.Test.YtapcjemnhiimfaaOwn
namespace Go.Proofs.Ytapcjemnhiimfaa
open Go.RowKit
set_option maxRecDepth 20000

/-- how long the record at a place is: 0 where none is, -1 where it may not be -/
def stepI (xs : List Int) (at_ : Nat) : Int :=
  if at_ = xs.length then 0 else if xs.getD at_ 0 = 0 then 0 else if 64 < xs.getD at_ 0 then -1 else if (xs.length : Int) ≤ at_ + xs.getD at_ 0 then -1 else xs.getD at_ 0
/-- where the next one goes, and whether all is well -/
def runT (xs : List Int) : Nat → Nat → Nat × Bool
  | 0, at_ => (at_, true)
  | f + 1, at_ => if stepI xs at_ = 0 then (at_, true) else if stepI xs at_ < 0 then (at_, false) else runT xs f (at_ + (stepI xs at_).toNat + 1)
def tapeR (xs : List Int) : Nat × Bool := runT xs (xs.length + 1) 0
def tapeE (xs : List Int) : Int := if inB xs.length 1 2048 then (if (tapeR xs).2 then 0 else 3) else 1
def tapeA (xs : List Int) : Int := if tapeE xs = 0 then (((tapeR xs).1 : Nat) : Int) else 0
theorem runT_stop {xs : List Int} {f at_ : Nat} (h : stepI xs at_ = 0) : runT xs (f + 1) at_ = (at_, true) := by simp [runT, h]
theorem runT_bad {xs : List Int} {f at_ : Nat} (h : stepI xs at_ < 0) : runT xs (f + 1) at_ = (at_, false) := by
  have : ¬ stepI xs at_ = 0 := by omega
  simp [runT, h, this]
theorem runT_go {xs : List Int} {f at_ : Nat} (h : 0 < stepI xs at_) : runT xs (f + 1) at_ = runT xs f (at_ + (stepI xs at_).toNat + 1) := by
  have h1 : ¬ stepI xs at_ = 0 := by omega
  have h2 : ¬ stepI xs at_ < 0 := by omega
  simp [runT, h1, h2]
theorem stepI_bd {xs : List Int} (hw : ∀ x ∈ xs, W32 x) {at_ : Nat} (ha : at_ ≤ xs.length) : -1 ≤ stepI xs at_ ∧ stepI xs at_ ≤ 64 ∧ (0 < stepI xs at_ → (at_ : Int) + stepI xs at_ < xs.length) := by
  have h0 : 0 ≤ xs.getD at_ 0 := by
    by_cases h : at_ < xs.length
    · rw [List.getD_eq_getElem?_getD, List.getElem?_eq_getElem h]; exact (hw _ (List.getElem_mem h)).1
    · rw [List.getD_eq_getElem?_getD, List.getElem?_eq_none (by omega)]; exact Int.le_refl _
  unfold stepI
  generalize xs.getD at_ 0 = x at *
  split
  · omega
  · split
    · omega
    · split
      · omega
      · split
        · omega
        · omega
theorem runT_le {xs : List Int} (hw : ∀ x ∈ xs, W32 x) : ∀ (f at_ : Nat), at_ ≤ xs.length → (runT xs f at_).1 ≤ xs.length
  | 0, at_, h => h
  | f + 1, at_, h => by
    obtain ⟨h1, h2, h3⟩ := stepI_bd hw h
    rcases Int.lt_trichotomy (stepI xs at_) 0 with hs | hs | hs
    · rw [runT_bad hs]; exact h
    · rw [runT_stop hs]; exact h
    · rw [runT_go hs]; exact runT_le hw f _ (by have := h3 hs; omega)

set_option maxHeartbeats 1000000 in
theorem lengthAt_any (v : Value) (xs : List Int) (at_ : Nat) (w : World) (h : Sl w v 1 xs.length (xs.map U32)) (hw : ∀ x ∈ xs, W32 x) (ha : at_ ≤ xs.length) (hn1 : 1 ≤ xs.length) (hn2 : xs.length ≤ 2048) :
    Calls Try.prog 12 #[v, I at_] w (Pure (I (stepI xs at_)) w) := by
  obtain ⟨a, cap, rfl, hn, hl, h0, hr⟩ := h
  obtain ⟨b, off, rfl, hb, hcell⟩ := hr.resolve_left (by omega)
  clear hl h0 hr
  have HS := Lib.hid (show stepI xs at_ = if at_ = xs.length then 0 else if xs.getD at_ 0 = 0 then 0 else if 64 < xs.getD at_ 0 then -1 else if (xs.length : Int) ≤ at_ + xs.getD at_ 0 then -1 else xs.getD at_ 0 from rfl)
  by_cases hend : at_ = xs.length
  · have H := Lib.hid (show stepI xs at_ = 0 by rw [HS.out, if_pos hend])
    have hb1 : ((at_ : Int) == (xs.length : Int)) = true := by simp; omega
    clear HS hcell hend
    go_enter Try.func12, Try.ntmps12
    go_wp2
    go_ret
    exact Pure.intro (eI H.out.symm)
  · have hlt : at_ < xs.length := by omega
    have e0 := hcell at_ (by simpa using hlt)
    rw [getD_map' _ _ hlt] at e0
    obtain ⟨x0, x1⟩ : W32 (xs.getD at_ 0) := by
      rw [List.getD_eq_getElem?_getD, List.getElem?_eq_getElem hlt]; exact hw _ (List.getElem_mem hlt)
    have hb1 : ((at_ : Int) == (xs.length : Int)) = false := by simp; omega
    have hi0 : (0 : Int) ≤ (at_ : Int) := by omega
    have hi1 : (at_ : Int) < (xs.length : Int) := by omega
    rw [if_neg hend] at HS
    clear hcell hend
    generalize xs.getD at_ 0 = x at *
    by_cases hz : x = 0
    · have H := Lib.hid (show stepI xs at_ = 0 by rw [HS.out, if_pos hz])
      have hb2 : (x == 0) = true := by simp [hz]
      clear HS hz
      go_enter Try.func12, Try.ntmps12
      go_wp2
      go_ret
      exact Pure.intro (eI H.out.symm)
    · rw [if_neg hz] at HS
      have hb2 : (x == 0) = false := by simp [hz]
      by_cases h64 : 64 < x
      · have H := Lib.hid (show stepI xs at_ = -1 by rw [HS.out, if_pos h64])
        clear HS hz
        go_enter Try.func12, Try.ntmps12
        go_wp2
        go_ret
        exact Pure.intro (eI H.out.symm)
      · rw [if_neg h64] at HS
        by_cases hlen : (xs.length : Int) ≤ at_ + x
        · have H := Lib.hid (show stepI xs at_ = -1 by rw [HS.out, if_pos hlen])
          clear HS hz
          go_enter Try.func12, Try.ntmps12
          go_wp2
          go_ret
          exact Pure.intro (eI H.out.symm)
        · have H := Lib.hid (show stepI xs at_ = x by rw [HS.out, if_neg hlen])
          clear HS hz
          go_enter Try.func12, Try.ntmps12
          go_wp2
          go_ret
          exact Pure.intro (eI H.out.symm)
end Go.Proofs.Ytapcjemnhiimfaa
