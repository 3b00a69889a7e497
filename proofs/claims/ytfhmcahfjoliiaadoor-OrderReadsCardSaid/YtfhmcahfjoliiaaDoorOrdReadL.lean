/- order.Read: what its loops make, in plain terms; the table of the forms as a value -/
import Derived.Test.YtfhmcahfjoliiaaDoorOrdCand
import Derived.Test.YtfhmcahfjoliiaaDoorOrdShown
import Derived.Test.YtfhmcahfjoliiaaDoorOrdBare
import Derived.Deep.MidRow
namespace Go.Proofs.YtfhmcahfjoliiaaDoor
set_option linter.unusedSimpArgs false
set_option linter.unusedVariables false
open Go Go.RowKit
set_option maxRecDepth 20000

def formsL : List Value := [I 1, .string (actW 1), .bool (actA 1), .bool (actB 1), .bool (actC 1), I 2, .string (actW 2), .bool (actA 2), .bool (actB 2), .bool (actC 2), I 3, .string (actW 3), .bool (actA 3), .bool (actB 3), .bool (actC 3), I 4, .string (actW 4), .bool (actA 4), .bool (actB 4), .bool (actC 4), I 5, .string (actW 5), .bool (actA 5), .bool (actB 5), .bool (actC 5), I 6, .string (actW 6), .bool (actA 6), .bool (actB 6), .bool (actC 6), I 7, .string (actW 7), .bool (actA 7), .bool (actB 7), .bool (actC 7)]
def formsA : Array Value := formsL.toArray
theorem forms_at (k : Nat) (hk : k < 7) (w : World) : (Instr.index 36 (.agg formsA) (I k)).run Tryd.prog w = .ok (.agg #[I ((k : Int) + 1), .string (actW ((k : Int) + 1)), .bool (actA ((k : Int) + 1)), .bool (actB ((k : Int) + 1)), .bool (actC ((k : Int) + 1))]) w := by
  have : k = 0 ∨ k = 1 ∨ k = 2 ∨ k = 3 ∨ k = 4 ∨ k = 5 ∨ k = 6 := by omega
  rcases this with rfl | rfl | rfl | rfl | rfl | rfl | rfl <;> rfl
theorem formsA_eq : formsA = formsL.toArray := rfl
theorem forms_range {w : World} (h : FormT w) : w.rangeAt 0 0 formsL := by
  have hq : ∀ k i : Nat, k < 7 → i < 5 → ∀ v, formsL[k * 5 + i]? = some v → w.cell? ⟨0, 0 + (k * 5 + i), none⟩ = some v := by
    intro k i hk hi v hv
    obtain ⟨h0, h1, h2, h3, h4⟩ := h k hk
    rw [Nat.zero_add]
    have hi' : i = 0 ∨ i = 1 ∨ i = 2 ∨ i = 3 ∨ i = 4 := by omega
    have hk' : k = 0 ∨ k = 1 ∨ k = 2 ∨ k = 3 ∨ k = 4 ∨ k = 5 ∨ k = 6 := by omega
    rcases hi' with rfl | rfl | rfl | rfl | rfl
    · rcases hk' with rfl | rfl | rfl | rfl | rfl | rfl | rfl <;> exact h0.trans hv
    · rcases hk' with rfl | rfl | rfl | rfl | rfl | rfl | rfl <;> exact h1.trans hv
    · rcases hk' with rfl | rfl | rfl | rfl | rfl | rfl | rfl <;> exact h2.trans hv
    · rcases hk' with rfl | rfl | rfl | rfl | rfl | rfl | rfl <;> exact h3.trans hv
    · rcases hk' with rfl | rfl | rfl | rfl | rfl | rfl | rfl <;> exact h4.trans hv
  intro j v hv
  have hj : j < 35 := by
    rcases Nat.lt_or_ge j 35 with h | h
    · exact h
    · rw [List.getElem?_eq_none (by show 35 ≤ j; exact h)] at hv; cases hv
  have e : j = j / 5 * 5 + j % 5 := by omega
  rw [e] at hv ⊢
  exact hq _ _ (by omega) (by omega) v hv
/-- the numbers laid in their places, word by word -/
def pn (cs : List Value) (ol : List Nat) (r : ByteArray) : Nat → List Value
  | 0 => cs
  | j + 1 => (pn cs ol r j).set (ol.getD j 0) (I (numI (hdB (tlN r j))))
theorem pn_len (cs : List Value) (ol : List Nat) (r : ByteArray) : ∀ j, (pn cs ol r j).length = cs.length
  | 0 => rfl
  | j + 1 => by show (List.set _ _ _).length = _; rw [List.length_set, pn_len cs ol r j]
/-- the order once its form's word is found -/
def fin0 (k cu : Int) (r : ByteArray) : List Value := [I k, I (numI (hdB r)), I (if actA k = true then numI (hdB (tlN r 1)) else 0), I (if actB k = true then numI (hdB (tlN r (nA k))) else 0), I (if actC k = true then numI (hdB (tlN r (nB k))) else 0), .string ⟨#[]⟩, I cu]
theorem pn_all (k cu : Int) (r : ByteArray) : pn [I k, I 0, I 0, I 0, I 0, .string ⟨#[]⟩, I cu] (offs (actA k) (actB k) (actC k) 3) r (offs (actA k) (actB k) (actC k) 3).length = fin0 k cu r ∧ (offs (actA k) (actB k) (actC k) 3).length = nC k := by
  unfold fin0 nC nB nA
  cases hA : actA k <;> cases hB : actB k <;> cases hC : actC k <;> exact ⟨rfl, rfl⟩
theorem tlB_size (r : ByteArray) : (tlB r).size ≤ r.size := by
  have e1 : r.data.toList.length = r.size := Array.length_toList
  have e2 : (tlB r).size = (Go.Lib.cut r.data.toList (⟨#[32]⟩ : ByteArray).data.toList).2.1.length := by unfold tlB; exact List.size_toArray
  rw [e2, ← e1]
  unfold Go.Lib.cut
  split
  · show (List.drop _ _).length ≤ _
    rw [List.length_drop]; omega
  · show (List.length []) ≤ _
    simp
theorem tlN_size (r : ByteArray) : ∀ n, (tlN r n).size ≤ r.size
  | 0 => Nat.le_refl _
  | n + 1 => Nat.le_trans (tlB_size _) (tlN_size r n)
theorem cutS_size (s : ByteArray) : (cutS s).size ≤ s.size := by
  have e1 : s.data.toList.length = s.size := Array.length_toList
  have e2 : (cutS s).size = (Go.Lib.trimPrefix s.data.toList pCut.data.toList).length := by unfold cutS; exact List.size_toArray
  rw [e2, ← e1]
  unfold Go.Lib.trimPrefix
  split
  · rw [List.length_drop]; omega
  · exact Nat.le_refl _
theorem cutR_size (s : ByteArray) : (cutR s).size ≤ s.size := by
  unfold cutR
  split
  · exact Nat.le_trans (tlB_size _) (cutS_size s)
  · exact Nat.le_refl _
theorem EnvN.below {w W : World} (h : EnvN w) (k : Below w.heap.size w W) : EnvN W :=
  h.chg (z := w.heap.size) (Chg.of_below k) h.lt
/-- the order as the forms' loop leaves it behind k forms, and the rest of the line -/
def rdA (s : ByteArray) (k : Nat) : List Value :=
  if 1 ≤ kindOf (hdB (cutR s)) ∧ kindOf (hdB (cutR s)) ≤ k then (candP s).cells else [I 0, I 0, I 0, I 0, I 0, .string ⟨#[]⟩, I (cutN s)]
def rdS (s : ByteArray) (k : Nat) : ByteArray :=
  if 1 ≤ kindOf (hdB (cutR s)) ∧ kindOf (hdB (cutR s)) ≤ k then tlN (tlB (cutR s)) (nC (kindOf (hdB (cutR s)))) else tlB (cutR s)
theorem kindOf_in (wd : ByteArray) : kindOf wd = 0 ∨ (1 ≤ kindOf wd ∧ kindOf wd ≤ 7) := by
  unfold kindOf
  (repeat' split) <;> omega
theorem kindOf_eq (wd : ByteArray) (k : Nat) (hk : k < 7) : actW ((k : Int) + 1) = wd ↔ kindOf wd = (k : Int) + 1 := by
  constructor
  · rintro rfl
    exact kindOf_act (by omega)
  · intro h
    unfold kindOf at h
    have : k = 0 ∨ k = 1 ∨ k = 2 ∨ k = 3 ∨ k = 4 ∨ k = 5 ∨ k = 6 := by omega
    rcases this with rfl | rfl | rfl | rfl | rfl | rfl | rfl <;> (split at h; · (first | (rename_i e; rw [e]; rfl) | omega)) <;> (repeat' (split at h)) <;> first | omega | (rename_i e; rw [e]; rfl)
theorem rdA_0 (s : ByteArray) : rdA s 0 = [I 0, I 0, I 0, I 0, I 0, .string ⟨#[]⟩, I (cutN s)] ∧ rdS s 0 = tlB (cutR s) := by
  unfold rdA rdS
  exact ⟨if_neg (by omega), if_neg (by omega)⟩
theorem rdA_other (s : ByteArray) (k : Nat) (h : kindOf (hdB (cutR s)) ≠ (k : Int) + 1) : rdA s (k + 1) = rdA s k ∧ rdS s (k + 1) = rdS s k := by
  unfold rdA rdS
  by_cases h1 : 1 ≤ kindOf (hdB (cutR s)) ∧ kindOf (hdB (cutR s)) ≤ k
  · rw [if_pos h1, if_pos h1, if_pos (by omega), if_pos (by omega)]; exact ⟨rfl, rfl⟩
  · rw [if_neg h1, if_neg h1, if_neg (by omega), if_neg (by omega)]; exact ⟨rfl, rfl⟩
/-- the form is found: ahead of it nothing was read, behind it all is -/
theorem rdA_hit (s : ByteArray) (k : Nat) (h : kindOf (hdB (cutR s)) = (k : Int) + 1) :
    rdA s k = [I 0, I 0, I 0, I 0, I 0, .string ⟨#[]⟩, I (cutN s)] ∧ rdS s k = tlB (cutR s) ∧
    rdS s (k + 1) = tlN (tlB (cutR s)) (nC ((k : Int) + 1)) ∧
    rdA s (k + 1) = (if (k : Int) + 1 = 6 then (fin0 ((k : Int) + 1) (cutN s) (tlB (cutR s))).set 5 (.string (tlN (tlB (cutR s)) (nC ((k : Int) + 1)))) else fin0 ((k : Int) + 1) (cutN s) (tlB (cutR s))) := by
  unfold rdA rdS
  rw [h, if_neg (by omega), if_neg (by omega), if_pos (by omega), if_pos (by omega)]
  refine ⟨rfl, rfl, rfl, ?_⟩
  unfold candP fin0 AAct.cells
  simp only []
  rw [h, if_neg (by omega)]
  by_cases h6 : (k : Int) + 1 = 6
  · rw [if_pos h6, if_pos h6]; rfl
  · rw [if_neg h6, if_neg h6]
theorem rdA_7 (s : ByteArray) : rdA s 7 = (candP s).cells := by
  unfold rdA
  rcases kindOf_in (hdB (cutR s)) with h | h
  · rw [if_neg (by omega)]
    unfold candP
    simp only []
    rw [if_pos h]; rfl
  · rw [if_pos ⟨h.1, h.2⟩]
theorem str_ne {a b : ByteArray} (h : a ≠ b) : (a.toList == b.toList) = false := by
  rw [beq_eq_false_iff_ne]
  intro e
  apply h
  apply ByteArray.ext
  apply Array.toList_inj.1
  rw [← ByteArray.toList_eq, ← ByteArray.toList_eq]
  exact e
theorem candP_text (s : ByteArray) : (candP s).text.size ≤ s.size := by
  unfold candP
  simp only []
  split
  · exact Nat.zero_le _
  · show (if _ then _ else _ : ByteArray).size ≤ _
    split
    · exact Nat.le_trans (tlN_size _ _) (Nat.le_trans (tlB_size _) (cutR_size s))
    · exact Nat.zero_le _
/-- the answer of a reader that has read x -/
def rdV (x : AAct) (s : ByteArray) : Value := if acE x.kind x.meter x.a x.b x.c x.text x.cut = 0 ∧ acS x.kind x.meter x.a x.b x.c x.text x.cut = s then T2 (.agg x.cells.toArray) (I 0) else T2 (.agg #[I 0, I 0, I 0, I 0, I 0, .string ⟨#[]⟩, I 0]) (I 3)
theorem rdV_ok {ki me a b c cu : Int} {te s : ByteArray} (h : acE ki me a b c te cu = 0) (h2 : acT ki me a b c te cu = s) : rdV ⟨ki, me, a, b, c, te, cu⟩ s = T2 (.agg #[I ki, I me, I a, I b, I c, .string te, I cu]) (I 0) := by
  unfold acT at h2
  rw [if_pos h] at h2
  unfold rdV
  rw [if_pos ⟨h, h2⟩]; rfl
theorem rdV_bad {ki me a b c cu : Int} {te s : ByteArray} (h : ¬ acE ki me a b c te cu = 0 ∨ ¬ acT ki me a b c te cu = s) : rdV ⟨ki, me, a, b, c, te, cu⟩ s = T2 (.agg #[I 0, I 0, I 0, I 0, I 0, .string ⟨#[]⟩, I 0]) (I 3) := by
  unfold rdV
  rw [if_neg]
  rintro ⟨h1, h2⟩
  rcases h with h | h
  · exact h h1
  · unfold acT at h
    rw [if_pos h1] at h
    exact h h2
end Go.Proofs.YtfhmcahfjoliiaaDoor
