/- strings.Cut at a blank, in plain terms: the first word and what stands behind it -/
import Derived.Lib.IndexBytes
import Derived.Lib.IndexMore
import Derived.Lib.Join
import Derived.Lib.AtoiAllCases
import Derived.Lib.ItoaNum
namespace Go.Proofs.YtfhmcahfjoliiaaDoor
set_option linter.unusedSimpArgs false
set_option linter.unusedVariables false
open Go.Lib
set_option maxRecDepth 20000

def noBlank (x : List UInt8) : Prop := ∀ b ∈ x, b ≠ 32
theorem indexByte_hit (y : List UInt8) : ∀ (x : List UInt8), noBlank x → indexByte (x ++ 32 :: y) 32 = (x.length : Int)
  | [], _ => by simp [indexByte]
  | b :: x, h => by
    have hb : (b == 32) = false := by
      have := h b (by simp)
      simpa using this
    have ih := indexByte_hit y x (fun c hc => h c (List.mem_cons_of_mem _ hc))
    have hn : ((x.length : Int) == -1) = false := by simp
    rw [List.cons_append, indexByte, hb, ih]
    simp [hn]
theorem indexByte_miss : ∀ (x : List UInt8), noBlank x → indexByte x 32 = -1
  | [], _ => rfl
  | b :: x, h => by
    have hb : (b == 32) = false := by
      have := h b (by simp)
      simpa using this
    rw [indexByte, hb, indexByte_miss x (fun c hc => h c (List.mem_cons_of_mem _ hc))]
    rfl
theorem cut_hit (x y : List UInt8) (h : noBlank x) : cut (x ++ 32 :: y) [32] = (x, y, true) := by
  unfold cut
  rw [index_one, indexByte_hit y x h, if_pos (by omega), Int.toNat_natCast, List.take_left]
  have e : List.drop (x.length + [(32 : UInt8)].length) (x ++ 32 :: y) = y := by
    have : List.drop (x.length + 1) (x ++ 32 :: y) = List.drop 1 (List.drop x.length (x ++ 32 :: y)) := by rw [List.drop_drop]
    show List.drop (x.length + 1) (x ++ 32 :: y) = y
    rw [this, List.drop_left]; rfl
  rw [e]
theorem cut_miss (x : List UInt8) (h : noBlank x) : cut x [32] = (x, [], false) := by
  unfold cut
  rw [index_one, indexByte_miss x h, if_neg (by omega)]
/-- words joined by blanks, cut at the first blank -/
theorem cut_join (x : List UInt8) (l : List (List UInt8)) (h : noBlank x) : cut (join (x :: l) [32]) [32] = (x, join l [32], decide (l ≠ [])) := by
  cases l with
  | nil =>
    rw [join_one, cut_miss x h]; rfl
  | cons y l =>
    have e : join (x :: y :: l) [32] = x ++ 32 :: join (y :: l) [32] := by simp [join, List.intercalate]
    rw [e, cut_hit x _ h]; rfl

/-! ### the digits of a number, read -/
theorem dig_toNat (d : Nat) (h : d < 10) : (UInt8.ofNat (48 + d)).toNat = 48 + d := by
  rw [UInt8.toNat_ofNat']
  omega
theorem decDigits_digs (n : Nat) : ∀ b ∈ decDigits n, 48 ≤ b.toNat ∧ b.toNat ≤ 57 := by
  induction n using Nat.strongRecOn with
  | ind n ih =>
    unfold decDigits
    split
    · intro b hb
      have : b = UInt8.ofNat (48 + n) := by simpa using hb
      rw [this, dig_toNat n (by omega)]; omega
    · intro b hb
      rcases List.mem_append.1 hb with hb | hb
      · exact ih (n / 10) (by omega) b hb
      · have : b = UInt8.ofNat (48 + n % 10) := by simpa using hb
        rw [this, dig_toNat (n % 10) (by omega)]; omega
theorem decDigits_blank (n : Nat) : noBlank (decDigits n) := fun b hb e => by
  have := decDigits_digs n b hb
  rw [e] at this
  have h32 : (32 : UInt8).toNat = 32 := rfl
  omega
theorem decDigits_ne (n : Nat) : decDigits n ≠ [] := by
  unfold decDigits
  split <;> simp
theorem parse_append (m : List UInt8) : ∀ (l : List UInt8) (acc u : Nat), parseUint10 acc l = .ok u → parseUint10 acc (l ++ m) = parseUint10 u m
  | [], acc, u, h => by
    simp only [parseUint10] at h
    injection h with h
    subst h; rfl
  | c :: r, acc, u, h => by
    simp only [parseUint10, List.cons_append] at h ⊢
    split at h
    · rename_i hc
      rw [if_pos hc]
      split at h
      · cases h
      · rename_i h1
        rw [if_neg h1]
        split at h
        · cases h
        · rename_i h2
          rw [if_neg h2]
          exact parse_append m r _ u h
    · cases h
theorem parse_dec (n : Nat) : n < 9223372036854775808 → parseUint10 0 (decDigits n) = .ok n := by
  induction n using Nat.strongRecOn with
  | ind n ih =>
    intro hn
    unfold decDigits
    split
    · rename_i h
      simp only [parseUint10, dig_toNat n h]
      rw [if_pos (by omega), if_neg (by omega), if_neg (by omega)]
      congr 1; omega
    · rename_i h
      rw [parse_append _ _ _ _ (ih (n / 10) (by omega) (by omega))]
      simp only [parseUint10, dig_toNat (n % 10) (by omega)]
      rw [if_pos (by omega), if_neg (by omega), if_neg (by omega)]
      congr 1; omega
theorem atoi_dec_all (n : Nat) (hn : n < 9223372036854775808) : atoiAll (decDigits n) = .ok (n : Int) := by
  have hd := decDigits_digs n
  have hp := parse_dec n hn
  have hne := decDigits_ne n
  generalize decDigits n = l at *
  cases l with
  | nil => exact absurd rfl hne
  | cons c r =>
    have := hd c (by simp)
    rw [atoiAll_plain c r (by omega) (by omega)]
    unfold parseMag
    rw [if_neg (by simp), hp]
    unfold signless
    simp only []
    rw [if_neg (by omega)]
end Go.Proofs.YtfhmcahfjoliiaaDoor
