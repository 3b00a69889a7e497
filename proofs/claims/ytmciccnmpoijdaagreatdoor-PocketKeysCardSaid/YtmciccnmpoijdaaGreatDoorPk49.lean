/- token.Parse and its reference, at every text · pocket.Keyed: plain: the meter behind a key may be, and what Keyed answers -/
import Derived.Test.YtmciccnmpoijdaaGreatDoorParseGood
import Derived.Test.YtmciccnmpoijdaaGreatDoorParseRef
import Derived.Test.YtmciccnmpoijdaaGreatDoorKeyKey
import Derived.Test.YtmciccnmpoijdaaGreatDoorPk25
import Derived.Test.YtmciccnmpoijdaaGreatDoorPocketBoot
namespace Go.Proofs.YtmciccnmpoijdaaGreatDoor
open Go.RowKit
set_option maxRecDepth 20000
theorem Parse_any (s : ByteArray) (w : World) : Calls Tryz.prog 12 #[.string s] w (ParP s w) := by
  by_cases h : s.size = 20
  · cases hd : allDig s 20
    · exact Parse_bad s w h hd
    · exact Parse_good s w h hd
  · exact Parse_len s w h
theorem Parsed_any (s : ByteArray) (w : World) : Calls Tryz.prog 16 #[.string s] w (ParP s w) := by
  by_cases h : s.size = 20
  · exact Parsed_on s w h
  · exact Parsed_len s w h
end Go.Proofs.YtmciccnmpoijdaaGreatDoor
namespace Go.Proofs.YtmciccnmpoijdaaGreatDoor
open Go.RowKit
set_option maxRecDepth 20000

theorem bl_lt_two {b n : Nat} (hb : b < 18446744073709551616) (h : b < 2 ^ n) : bl b ≤ n := by
  by_cases h0 : b = 0
  · subst h0; rw [bl_zero]; omega
  · obtain ⟨b1, b2, b3, b4⟩ := bl_bd (b := b) hb h0
    have h5 : 2 ^ (bl b - 1) < 2 ^ n := Nat.lt_of_le_of_lt b3 h
    have := (Nat.pow_lt_pow_iff_right (a := 2) (by decide)).1 h5
    omega
theorem lt_two_bl {b n : Nat} (hb : b < 18446744073709551616) (h : bl b ≤ n) : b < 2 ^ n := by
  by_cases h0 : b = 0
  · subst h0; exact Nat.two_pow_pos n
  · obtain ⟨b1, b2, b3, b4⟩ := bl_bd (b := b) hb h0
    exact Nat.lt_of_lt_of_le b4 (Nat.pow_le_pow_right (by decide) h)
theorem mod_two_bit (x : Nat) : (x % 2 = 1) ↔ x.testBit 0 = true := by
  rw [Nat.testBit_zero, decide_eq_true_eq]
theorem take_may {h : Int} {b : Nat} {id : Int} (hb : b < 18446744073709551616) (hj : judgeE h b id = 0) : mayW (takeH h id) (takeB h b id) = true := by
  obtain ⟨hm, i0, i1, hd, hno⟩ := judge_zero hj
  obtain ⟨h0, h1, hz⟩ := mayW_bd hm
  have hT := takeB_lt (id := id) hb hd
  by_cases hlt : h < id
  · have e1 : takeH h id = id := by simp [takeH, hlt]
    have e2 : takeB h b id = (b * 2 ^ min (id - h).toNat 64) % 18446744073709551616 ||| 1 := by simp [takeB, hlt]
    have hb2 : b < 2 ^ h.toNat := by
      by_cases hh : h < 1
      · have : h = 0 := by omega
        rw [hz this]; exact Nat.two_pow_pos _
      · have hbl : (bl b : Int) ≤ min h 64 := by
          unfold mayW at hm; rw [if_neg hh] at hm; simp at hm; omega
        exact lt_two_bl hb (by omega)
    have hlt2 : takeB h b id < 2 ^ (min id 64).toNat := by
      by_cases h64 : id ≤ 64
      · rw [e2]
        have hx : b * 2 ^ min (id - h).toNat 64 < 2 ^ (min id 64).toNat := by
          have e : (min id 64).toNat = h.toNat + (id - h).toNat := by omega
          have e' : min (id - h).toNat 64 = (id - h).toNat := by omega
          rw [e, e', Nat.pow_add]
          exact Nat.mul_lt_mul_of_pos_right hb2 (Nat.two_pow_pos _)
        have hone : 1 < 2 ^ (min id 64).toNat := Nat.one_lt_two_pow (by omega)
        exact Nat.or_lt_two_pow (Nat.lt_of_le_of_lt (Nat.mod_le _ _) hx) hone
      · have e : (min id 64).toNat = 64 := by omega
        rw [e]; exact hT
    have hodd : takeB h b id % 2 = 1 := by
      rw [e2, mod_two_bit, Nat.testBit_or]; simp
    have hbl := bl_lt_two hT hlt2
    rw [e1]
    unfold mayW
    rw [if_neg (by omega)]
    simp only [Bool.and_eq_true, decide_eq_true_eq, beq_iff_eq]
    exact ⟨by omega, hodd, by omega⟩
  · have e1 : takeH h id = h := by simp [takeH, hlt]
    have e2 : takeB h b id = b ||| 2 ^ (h - id).toNat := by simp [takeB, hlt]
    have hh : ¬ h < 1 := by omega
    have hm' := hm
    unfold mayW at hm'
    rw [if_neg hh] at hm'
    simp only [Bool.and_eq_true, decide_eq_true_eq, beq_iff_eq] at hm'
    obtain ⟨m1, m2, m3⟩ := hm'
    have hb2 : b < 2 ^ (min h 64).toNat := lt_two_bl hb (by omega)
    have hlt2 : takeB h b id < 2 ^ (min h 64).toNat := by
      rw [e2]
      exact Nat.or_lt_two_pow hb2 ((Nat.pow_lt_pow_iff_right (a := 2) (by decide)).2 (by omega))
    have hodd : takeB h b id % 2 = 1 := by
      rw [e2, mod_two_bit, Nat.testBit_or, (mod_two_bit b).1 m2]; simp
    have hbl := bl_lt_two hT hlt2
    rw [e1]
    unfold mayW
    rw [if_neg hh]
    simp only [Bool.and_eq_true, decide_eq_true_eq, beq_iff_eq]
    exact ⟨m1, hodd, by omega⟩
theorem take_ok {m : MM} {c id n : Int} (hm : m.ok = true) (hb : m.b < 18446744073709551616) (ht : tokFault ⟨c, id, n, 0⟩ = 0 ∨ (0 ≤ n ∧ n ≤ 2097151 ∧ (c = 2 → n ≤ 15))) (hlk : ¬ 0 < m.lk) : (takeM m c id n).ok = true := by
  have ht' : 0 ≤ n ∧ n ≤ 2097151 ∧ (c = 2 → n ≤ 15) := by
    rcases ht with ht | ht
    · unfold tokFault at ht
      split at ht
      · split at ht
        · rename_i h1 h2
          simp only [Bool.and_eq_true, amtOk] at h2
          have h3 := h2.2
          split at h3
          · have := inB_true.1 h3; refine ⟨by omega, by omega, ?_⟩; omega
          · split at h3
            · have := inB_true.1 h3; refine ⟨by omega, by omega, ?_⟩; omega
            · simp at h3; refine ⟨by omega, by omega, ?_⟩; omega
        · simp at ht
      · simp at ht
    · exact ht
  clear ht
  obtain ⟨n0, n1, n2⟩ := ht'
  unfold takeM
  split
  · rename_i hE
    have hj : judgeE m.h m.b id = 0 := by
      unfold takeE at hE
      split at hE
      · assumption
      · assumption
    have ha : actE m c n = 0 := by
      unfold takeE at hE
      rwa [if_pos hj] at hE
    have hW := take_may hb hj
    have eH : tkH m.h m.b id = takeH m.h id := by simp [tkH, hj]
    have eB : tkB m.h m.b id = takeB m.h m.b id := by simp [tkB, hj]
    obtain ⟨m1, m2, m3, m4, m5, m6, m7⟩ := m
    obtain ⟨a, b⟩ := mayM_true.1 (show mayM m1 m2 m3 m4 m5 m6 m7 = true from hm)
    unfold actE at ha
    simp only at ha hlk eH eB hW
    unfold actM
    rw [eH, eB]
    split
    · exact mayM_true.2 ⟨by simp only; omega, hW⟩
    · split
      · rename_i h1 h2
        rw [if_neg h1, if_pos h2] at ha
        have := n2 h2
        split at ha
        · omega
        · exact mayM_true.2 ⟨by simp only; omega, hW⟩
      · rename_i h1 h2
        rw [if_neg h1, if_neg h2] at ha
        split at ha
        · omega
        · exact mayM_true.2 ⟨by simp only; omega, hW⟩
  · exact hm
theorem sold_ok {m : MM} {k : Int} (hm : m.ok = true) (hlk : ¬ 0 < m.lk) : (soldM m k).ok = true := by
  obtain ⟨m1, m2, m3, m4, m5, m6, m7⟩ := m
  obtain ⟨a, b⟩ := mayM_true.1 (show mayM m1 m2 m3 m4 m5 m6 m7 = true from hm)
  simp only at hlk
  unfold soldM
  split
  · simp only
    split
    · exact mayM_true.2 ⟨by simp only; omega, b⟩
    · exact mayM_true.2 ⟨by simp only; omega, b⟩
  · exact hm
theorem take_b {m : MM} {c id n : Int} (hb : m.b < 18446744073709551616) : (takeM m c id n).b < 18446744073709551616 := by
  unfold takeM
  split
  · rename_i hE
    have hj : judgeE m.h m.b id = 0 := by
      unfold takeE at hE
      split at hE <;> assumption
    obtain ⟨hm, i0, i1, hd, hno⟩ := judge_zero hj
    have eB : tkB m.h m.b id = takeB m.h m.b id := by simp [tkB, hj]
    show tkB m.h m.b id < _
    rw [eB]
    exact takeB_lt hb hd
  · exact hb
theorem sold_b {m : MM} {k : Int} (hb : m.b < 18446744073709551616) : (soldM m k).b < 18446744073709551616 := by
  unfold soldM
  (repeat' split) <;> exact hb
theorem key_b {m : MM} {ps : List APair} {t : AToken} (hb : m.b < 18446744073709551616) : (keyM m ps t).b < 18446744073709551616 := by
  unfold keyM
  split
  · split
    · split
      · exact take_b hb
      · exact sold_b hb
    · exact hb
  · show (0 : Nat) < _; decide
theorem key_ok {m : MM} {ps : List APair} {t : AToken} (hk : keyOk m ps = true) (hb : m.b < 18446744073709551616) : (keyM m ps t).ok = true := by
  have hm : m.ok = true := by
    unfold keyOk at hk; rw [Bool.and_eq_true] at hk; exact hk.1
  by_cases hg : keyGo m t = true
  · obtain ⟨g1, g2, g3⟩ := of_decide_eq_true hg
    by_cases h0 : keyK m ps t = 0
    · rw [(keyTake hk hg h0).2.1]
      refine take_ok hm hb (.inr ?_) g2
      obtain ⟨a, b⟩ := tok_bounds g1
      refine ⟨a, b, fun hc => ?_⟩
      unfold tokFault at g1
      split at g1
      · split at g1
        · rename_i h1 h2
          simp only [Bool.and_eq_true, amtOk] at h2
          have h3 := h2.2
          rw [if_neg (by omega), if_pos hc] at h3
          exact (inB_true.1 h3).2
        · simp at g1
      · simp at g1
    · rw [(keySold hk hg h0).2.1]
      exact sold_ok hm g2
  · rw [(keyNo hk (by simpa using hg)).1]
    exact hm
theorem judge_ne {h : Int} {b : Nat} (id : Int) (hm : mayW h b = true) : judgeE h b id ≠ 5 := by
  unfold judgeE
  rw [if_neg (show ¬ mayW h b = false by rw [hm]; decide)]
  split
  · decide
  · split
    · decide
    · split <;> decide
theorem fault_ne (t : AToken) : tokFault t ≠ 5 := by
  unfold tokFault
  split
  · split <;> decide
  · decide
theorem sold_ne (k : Int) : soldE k ≠ 5 := by
  unfold soldE
  split
  · decide
  · split <;> decide
theorem act_ne (m : MM) (c n : Int) : actE m c n ≠ 5 := by
  unfold actE
  split
  · decide
  · split
    · split <;> decide
    · split <;> decide
theorem key_ne {m : MM} {ps : List APair} {t : AToken} (hk : keyOk m ps = true) : keyE m ps t ≠ 5 := by
  have hm : m.ok = true := by
    unfold keyOk at hk; rw [Bool.and_eq_true] at hk; exact hk.1
  have hW := (mayM_true.1 (show mayM m.me m.rev m.cr m.h m.b m.bad m.lk = true from hm)).2
  have hT : takeE m t.class_ t.id t.amount ≠ 5 := by
    unfold takeE
    split
    · exact act_ne _ _ _
    · exact judge_ne _ hW
  unfold keyE
  rw [if_pos hk]
  split
  · split
    · decide
    · split
      · decide
      · split
        · exact hT
        · exact sold_ne _
  · exact fault_ne t
theorem kd_boot {xs : List Int} (h : bootE xs = 0) : (bootM xs).ok = true := by
  unfold bootE at h
  unfold bootM
  split at h
  · rename_i hl
    rw [if_pos hl]
    unfold readM
    rw [if_pos h]
    unfold readE at h
    split at h
    · split at h
      · assumption
      · omega
    · omega
  · rename_i hl
    exact absurd h hl
/-- what Keyed answers -/
def kdE (xs : List Int) (ps : List APair) (s : ByteArray) : Int := if bootE xs = 0 then (if parE s = 0 then keyE (bootM xs) ps (parT s) else parE s) else bootE xs
def kdOk (xs : List Int) (ps : List APair) (s : ByteArray) : Bool := decide (bootE xs = 0 ∧ parE s = 0) && mayO ps
def kdN (xs : List Int) (ps : List APair) (s : ByteArray) : Int := if kdOk xs ps s then keyA (bootM xs) ps (parT s) else 0
def kdL (xs : List Int) (ps : List APair) (s : ByteArray) : List AWrite := if kdOk xs ps s then movedL xs (bootM xs) (keyM (bootM xs) ps (parT s)) else []
def KdP (L : List AWrite) (n k : Int) (w : World) (e : Ending) (w' : World) : Prop := ∃ v, e = .returned (T3 v (I n) (I k)) ∧ Sl w' v 2 L.length (L.flatMap AWrite.cells) ∧ Below w.heap.size w w'
end Go.Proofs.YtmciccnmpoijdaaGreatDoor
