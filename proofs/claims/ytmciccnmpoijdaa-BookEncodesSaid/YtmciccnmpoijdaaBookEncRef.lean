/- ref.EventMay, ref.Encoded -/
import Derived.Test.YtmciccnmpoijdaaBookEncode
namespace Go.Proofs.Ytmciccnmpoijdaa
open Go Go.RowKit
set_option maxRecDepth 20000

variable (ki me mo id te de fe pr ch un ta ow bp : Int)
theorem evMay_all : evMay ki me mo id te de fe pr ch un ta ow bp = true ↔ (0 ≤ me ∧ me ≤ 49) ∧ (
    (ki = 1 ∧ mo = 0 ∧ (id = 0 ∧ te = 0 ∧ de = 0 ∧ fe = 0 ∧ pr = 0 ∧ ch = 0 ∧ un = 0) ∧ ta = 0 ∧ ow = 0 ∧ bp = 0) ∨
    (ki = 2 ∧ (0 ≤ de ∧ 0 ≤ fe ∧ 0 ≤ pr ∧ 0 ≤ ch) ∧ (1 ≤ te ∧ te ≤ 100000000) ∧ de + fe + pr + ch = te ∧ (1 ≤ un ∧ un ≤ 2097151) ∧ (0 ≤ mo ∧ mo ≤ 2399) ∧ (1 ≤ id ∧ id ≤ 1048575) ∧ (0 ≤ ta ∧ ta ≤ 65535) ∧ ow = 0 ∧ bp = 0) ∨
    (ki = 3 ∧ (1 ≤ un ∧ un ≤ 2097151) ∧ (0 ≤ mo ∧ mo ≤ 2399) ∧ (1 ≤ id ∧ id ≤ 1048575) ∧ (0 ≤ ta ∧ ta ≤ 65535) ∧ (te = 0 ∧ de = 0 ∧ fe = 0 ∧ pr = 0 ∧ ch = 0) ∧ ow = 0 ∧ bp = 0) ∨
    (ki = 4 ∧ (1 ≤ id ∧ id ≤ 1048575) ∧ (0 ≤ ta ∧ ta ≤ 65535) ∧ mo = 0 ∧ (te = 0 ∧ de = 0 ∧ fe = 0 ∧ pr = 0 ∧ ch = 0 ∧ un = 0) ∧ ow = 0 ∧ bp = 0) ∨
    (ki = 5 ∧ (1 ≤ ow ∧ ow ≤ 1000000000) ∧ (0 ≤ bp ∧ bp ≤ 10000) ∧ mo = 0 ∧ (id = 0 ∧ te = 0 ∧ de = 0 ∧ fe = 0 ∧ pr = 0 ∧ ch = 0 ∧ un = 0) ∧ ta = 0)) := by
  by_cases h1 : ki = 1
  · subst h1; rw [evMay_reg]; simp
  by_cases h2 : ki = 2
  · subst h2; rw [evMay_sale]; simp
  by_cases h3 : ki = 3
  · subst h3; rw [evMay_grant]; simp
  by_cases h4 : ki = 4
  · subst h4; rw [evMay_rekey]; simp
  by_cases h5 : ki = 5
  · subst h5; rw [evMay_charge]; simp
  unfold evMay
  rw [if_neg h1, if_neg h2, if_neg h3, if_neg h4, if_neg h5]
  simp [h1, h2, h3, h4, h5]
theorem evMay_words (h : evMay ki me mo id te de fe pr ch un ta ow bp = true) (k : Nat) (hk : k < 13) :
    0 ≤ [ki, me, mo, id, te, de, fe, pr, ch, un, ta, ow, bp].getD k 0 ∧ [ki, me, mo, id, te, de, fe, pr, ch, un, ta, ow, bp].getD k 0 < 4294967296 := by
  have h := (evMay_all ki me mo id te de fe pr ch un ta ow bp).1 h
  have : (0 ≤ ki ∧ ki < 4294967296) ∧ (0 ≤ me ∧ me < 4294967296) ∧ (0 ≤ mo ∧ mo < 4294967296) ∧ (0 ≤ id ∧ id < 4294967296) ∧ (0 ≤ te ∧ te < 4294967296) ∧ (0 ≤ de ∧ de < 4294967296) ∧ (0 ≤ fe ∧ fe < 4294967296) ∧ (0 ≤ pr ∧ pr < 4294967296) ∧ (0 ≤ ch ∧ ch < 4294967296) ∧ (0 ≤ un ∧ un < 4294967296) ∧ (0 ≤ ta ∧ ta < 4294967296) ∧ (0 ≤ ow ∧ ow < 4294967296) ∧ (0 ≤ bp ∧ bp < 4294967296) := by
    obtain ⟨hm, h | h | h | h | h⟩ := h <;> refine ⟨?_, ?_, ?_, ?_, ?_, ?_, ?_, ?_, ?_, ?_, ?_, ?_, ?_⟩ <;> omega
  obtain ⟨a0, a1, a2, a3, a4, a5, a6, a7, a8, a9, a10, a11, a12⟩ := this
  match k, hk with
  | 0, _ => exact a0
  | 1, _ => exact a1
  | 2, _ => exact a2
  | 3, _ => exact a3
  | 4, _ => exact a4
  | 5, _ => exact a5
  | 6, _ => exact a6
  | 7, _ => exact a7
  | 8, _ => exact a8
  | 9, _ => exact a9
  | 10, _ => exact a10
  | 11, _ => exact a11
  | 12, _ => exact a12
theorem Encode_any (w : World) : Calls Try.prog 11 #[evV ki me mo id te de fe pr ch un ta ow bp] w (EncP (evMay ki me mo id te de fe pr ch un ta ow bp) [ki, me, mo, id, te, de, fe, pr, ch, un, ta, ow, bp] w) := by
  cases hb : evMay ki me mo id te de fe pr ch un ta ow bp
  · exact Encode_no ki me mo id te de fe pr ch un ta ow bp w hb
  · exact Encode_yes ki me mo id te de fe pr ch un ta ow bp w hb (evMay_words ki me mo id te de fe pr ch un ta ow bp hb)
end Go.Proofs.Ytmciccnmpoijdaa
