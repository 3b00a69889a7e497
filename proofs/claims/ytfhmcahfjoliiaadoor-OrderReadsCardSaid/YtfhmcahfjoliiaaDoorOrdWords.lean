/- a line of an order, read word by word, in plain terms -/
import Derived.Test.YtfhmcahfjoliiaaDoorOrdShowC
import Derived.Test.YtfhmcahfjoliiaaDoorOrdNext
namespace Go.Proofs.YtfhmcahfjoliiaaDoor
set_option linter.unusedSimpArgs false
set_option linter.unusedVariables false
open Go Go.RowKit
set_option maxRecDepth 20000

/-- what is left behind the first n words -/
def tlN (r : ByteArray) : Nat → ByteArray
  | 0 => r
  | n + 1 => tlB (tlN r n)
theorem tlN_jn (L : List ByteArray) : ∀ j : Nat, j ≤ L.length → (∀ i, i < j → noBlank (L.getD i ⟨#[]⟩).data.toList) → tlN (jn L) j = jn (L.drop j)
  | 0, _, _ => rfl
  | j + 1, hj, h => by
    have ih := tlN_jn L j (by omega) (fun i hi => h i (by omega))
    have hjl : j < L.length := by omega
    have hb := h j (by omega)
    rw [List.getD_eq_getElem?_getD, List.getElem?_eq_getElem hjl] at hb
    change noBlank (L[j]).data.toList at hb
    show tlB (tlN (jn L) j) = _
    rw [ih, List.drop_eq_getElem_cons hjl, (hdB_jn _ _ hb).2]
theorem hdN_jn (L : List ByteArray) (j : Nat) (hj : j < L.length) (h : ∀ i, i ≤ j → noBlank (L.getD i ⟨#[]⟩).data.toList) : hdB (tlN (jn L) j) = L.getD j ⟨#[]⟩ := by
  have hb := h j (Nat.le_refl _)
  rw [tlN_jn L j (by omega) (fun i hi => h i (by omega)), List.drop_eq_getElem_cons hj]
  rw [List.getD_eq_getElem?_getD, List.getElem?_eq_getElem hj] at hb ⊢
  exact (hdB_jn _ _ hb).1
/-- the numbers of a line: what the readers find at the place of each -/
theorem nums_read (nv : List Int) (tail : List ByteArray) (hb : ∀ x ∈ nv, 0 ≤ x ∧ x < 9223372036854775808) (j : Nat) (hj : j < nv.length) :
    numI (hdB (tlN (jn ((nv.map fun n => decS n.toNat) ++ tail)) j)) = nv.getD j 0 := by
  have hl : j < ((nv.map fun n => decS n.toNat) ++ tail).length := by rw [List.length_append, List.length_map]; omega
  have hg : ∀ i, i < nv.length → ((nv.map fun n => decS n.toNat) ++ tail).getD i ⟨#[]⟩ = decS (nv.getD i 0).toNat := fun i hi => by
    rw [List.getD_eq_getElem?_getD, List.getElem?_append_left (by rw [List.length_map]; exact hi), List.getElem?_map, List.getD_eq_getElem?_getD, List.getElem?_eq_getElem hi]; rfl
  rw [hdN_jn _ j hl (fun i hi => by rw [hg i (by omega)]; exact decS_blank _), hg j hj]
  have hm : nv.getD j 0 ∈ nv := by
    rw [List.getD_eq_getElem?_getD, List.getElem?_eq_getElem hj]; exact List.getElem_mem hj
  have := hb _ hm
  rw [numI_dec _ (by omega)]
  omega
theorem rest_read (nv : List Int) (tail : List ByteArray) : tlN (jn ((nv.map fun n => decS n.toNat) ++ tail)) nv.length = jn tail := by
  have hg : ∀ i, i < nv.length → ((nv.map fun n => decS n.toNat) ++ tail).getD i ⟨#[]⟩ = decS (nv.getD i 0).toNat := fun i hi => by
    rw [List.getD_eq_getElem?_getD, List.getElem?_append_left (by rw [List.length_map]; exact hi), List.getElem?_map, List.getD_eq_getElem?_getD, List.getElem?_eq_getElem hi]; rfl
  rw [tlN_jn _ nv.length (by rw [List.length_append, List.length_map]; omega) (fun i hi => by rw [hg i hi]; exact decS_blank _)]
  congr 1
  rw [List.drop_append_of_le_length (by rw [List.length_map]; exact Nat.le_refl _), List.drop_of_length_le (by rw [List.length_map]; exact Nat.le_refl _)]
  rfl
theorem actW_blank (ki : Int) : noBlank (actW ki).data.toList := by
  unfold actW
  (repeat' split) <;> (intro b hb e; subst e; simp at hb)
/-- the line of a legal order, as words -/
theorem line_words (ki me a b c cu : Int) (te : ByteArray) :
    acS ki me a b c te cu = jn ((if 0 ≤ cu then [kCut, decS cu.toNat] else []) ++ (actW ki :: ((numV me a b c (offs (actA ki) (actB ki) (actC ki) 3)).map fun n => decS n.toNat) ++ (if ki = 6 then [te] else []))) := by
  have h0 := jn_ac ki me a b c (actA ki) (actB ki) (actC ki) rfl rfl rfl
  unfold strV at h0
  have h1 : jn (actW ki :: ((numV me a b c (offs (actA ki) (actB ki) (actC ki) 3)).map fun n => decS n.toNat) ++ (if ki = 6 then [te] else [])) = if ki = 6 then acS0 ki me a b c ++ (⟨#[32]⟩ ++ te) else acS0 ki me a b c := by
    by_cases h6 : ki = 6
    · rw [if_pos h6, if_pos h6, jn_snoc, h0]
    · rw [if_neg h6, if_neg h6, List.append_nil, h0]
  unfold acS
  by_cases hc : 0 ≤ cu
  · rw [if_pos hc]
    have h2 : jn ([kCut, decS cu.toNat] ++ (actW ki :: ((numV me a b c (offs (actA ki) (actB ki) (actC ki) 3)).map fun n => decS n.toNat) ++ (if ki = 6 then [te] else []))) = kCut ++ (⟨#[32]⟩ ++ (decS cu.toNat ++ (⟨#[32]⟩ ++ jn (actW ki :: ((numV me a b c (offs (actA ki) (actB ki) (actC ki) 3)).map fun n => decS n.toNat) ++ (if ki = 6 then [te] else []))))) := by
      show jn (kCut :: decS cu.toNat :: actW ki :: _) = _
      rw [jn_cons, jn_cons]; rfl
    rw [if_pos hc, h2, h1]
    by_cases h6 : ki = 6
    · rw [if_pos h6, if_pos h6]
      apply ByteArray.ext
      simp [ByteArray.data_append, kCut]
    · rw [if_neg h6, if_neg h6]
      apply ByteArray.ext
      simp [ByteArray.data_append, kCut]
  · rw [if_neg hc, if_neg hc, List.nil_append, h1]
    by_cases h6 : ki = 6
    · rw [if_pos h6, if_pos h6, ByteArray.append_assoc]
    · rw [if_neg h6, if_neg h6]
end Go.Proofs.YtfhmcahfjoliiaaDoor
