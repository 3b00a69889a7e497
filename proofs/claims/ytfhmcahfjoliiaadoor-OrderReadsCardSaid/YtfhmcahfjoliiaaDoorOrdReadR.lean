/- ref.ActRead -/
import Derived.Test.YtfhmcahfjoliiaaDoorOrdCandR
import Derived.Test.YtfhmcahfjoliiaaDoorOrdRead
namespace Go.Proofs.YtfhmcahfjoliiaaDoor
set_option linter.unusedSimpArgs false
set_option linter.unusedVariables false
open Go Go.RowKit
set_option maxRecDepth 20000

/-- the answer of a reader that has read this, or nothing -/
def rdO (o : Option AAct) (s : ByteArray) : Value := match o with
  | none => T2 (.agg #[I 0, I 0, I 0, I 0, I 0, .string ⟨#[]⟩, I 0]) (I 3)
  | some x => rdV x s
def hdP (s : ByteArray) (p : Int) : ByteArray := hdB (frm s p.toNat)
def nxP (s : ByteArray) (p : Int) : Int := nxI s p.toNat
theorem first_bl (s : ByteArray) (a : Nat) : ∀ n, (∃ i, a ≤ i ∧ i < a + n ∧ bat s i = 32 ∧ ∀ j, a ≤ j → j < i → bat s j ≠ 32) ∨ (∀ j, a ≤ j → j < a + n → bat s j ≠ 32)
  | 0 => Or.inr (fun j h1 h2 => by omega)
  | n + 1 => by
    rcases first_bl s a n with ⟨i, h1, h2, h3, h4⟩ | h
    · exact Or.inl ⟨i, h1, by omega, h3, h4⟩
    · by_cases hb : bat s (a + n) = 32
      · exact Or.inl ⟨a + n, by omega, by omega, hb, h⟩
      · exact Or.inr (fun j h1 h2 => by
          by_cases e : j = a + n
          · rw [e]; exact hb
          · exact h j h1 (by omega))
theorem nxP_in (s : ByteArray) (p : Int) (h1 : p.toNat ≤ s.size) : -1 ≤ nxP s p ∧ nxP s p ≤ s.size := by
  unfold nxP nxI
  generalize p.toNat = a at *
  rcases first_bl s a (s.size - a) with ⟨i, g1, g2, g3, g4⟩ | h
  · obtain ⟨n1, n2, n3⟩ := next_hit s a i g1 (by omega) g3 g4
    rw [n3, if_pos rfl, n1, ByteArray.size_extract]
    omega
  · obtain ⟨n1, n2, n3⟩ := next_miss s a (fun j g1 g2 => h j g1 (by omega))
    rw [n3, if_neg (by decide)]
    omega
theorem next_at (s : ByteArray) (p : Int) (w : World) (h0 : 0 ≤ p) (h1 : p ≤ s.size) (hs : s.size ≤ 200) : Calls Tryd.prog 11 #[.string s, I p] w (Pure (T2 (.string (hdP s p)) (I (nxP s p))) w) := by
  have := next_any s p.toNat w (by omega) hs
  rwa [show ((p.toNat : Nat) : Int) = p by omega] at this
/-- is there a cut; where the order's word stands; the cut -/
def hasC (s : ByteArray) : Prop := hdP s 0 = kCut ∧ 0 < nxP s 0
theorem candR_no {s : ByteArray} (h : ¬ hasC s) : candR s = cand2 s (-1) 0 := by
  unfold candR
  exact if_neg h
theorem candR_bad {s : ByteArray} (h : hasC s) (hn : nxP s (nxP s 0) < 0) : candR s = none := by
  unfold candR
  exact (if_pos h).trans (if_pos hn)
theorem candR_yes {s : ByteArray} (h : hasC s) (hn : ¬ nxP s (nxP s 0) < 0) : candR s = cand2 s (plainI (hdP s (nxP s 0))) (nxP s (nxP s 0)) := by
  unfold candR
  exact (if_pos h).trans (if_neg hn)
theorem stR_none {s : ByteArray} {h : Nat → Bool} {p0 : Int} {i : Nat} (hi : stR s h p0 i = none) : ∀ n, stR s h p0 (i + n) = none
  | 0 => hi
  | n + 1 => by
    show (match stR s h p0 (i + n) with | none => none | some (l, p) => _) = none
    rw [stR_none hi n]
theorem stR_skip {s : ByteArray} {h : Nat → Bool} {p0 : Int} {i : Nat} {l : List Int} {p : Int} (hi : stR s h p0 i = some (l, p)) (hh : h i = false) : stR s h p0 (i + 1) = some (l, p) := by
  unfold stR
  rw [hi]
  simp only []
  rw [hh, if_neg (by decide)]
theorem stR_take {s : ByteArray} {h : Nat → Bool} {p0 : Int} {i : Nat} {l : List Int} {p : Int} (hi : stR s h p0 i = some (l, p)) (hh : h i = true) (hp : ¬ p < 0) : stR s h p0 (i + 1) = some (l.set i (plainI (hdP s p)), nxP s p) := by
  unfold stR
  rw [hi]
  simp only []
  rw [hh, if_pos rfl, if_neg hp]; rfl
theorem stR_fail {s : ByteArray} {h : Nat → Bool} {p0 : Int} {i : Nat} {l : List Int} {p : Int} (hi : stR s h p0 i = some (l, p)) (hh : h i = true) (hp : p < 0) : stR s h p0 (i + 1) = none := by
  unfold stR
  rw [hi]
  simp only []
  rw [hh, if_pos rfl, if_pos hp]
end Go.Proofs.YtfhmcahfjoliiaaDoor
