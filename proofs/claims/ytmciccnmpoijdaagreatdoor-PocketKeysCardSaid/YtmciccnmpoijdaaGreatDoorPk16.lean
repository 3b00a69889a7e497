/- meter.Key's state: sold, credit, clear, change · window.Take: the plain law -/
import Derived.Test.YtmciccnmpoijdaaGreatDoorKeyLaw
import Derived.Test.YtmciccnmpoijdaaGreatDoorPk09
import Derived.Test.YtmciccnmpoijdaaGreatDoorPk10
namespace Go.Proofs.YtmciccnmpoijdaaGreatDoor
open Go Go.RowKit
set_option maxRecDepth 20000

/-- the state at work: a meter, and what is added -/
def stL (m : MM) (ad : Int) : List Value := [I m.me, I m.rev, I m.cr, I m.h, .int .u64 m.b, I m.bad, I m.lk, I ad]
/-- the call answers k, and the state is m and ad behind it; nothing else has turned -/
def StP (g : Nat) (m : MM) (ad k : Int) (w : World) (e : Ending) (w' : World) : Prop := e = .returned (I k) ∧ Own w' g (stL m ad) ∧ Chg g w w'
def soldE (k : Int) : Int := if k = 0 then 0 else if k = 1 then 11 else 12
def soldM (m : MM) (k : Int) : MM := if k = 2 then (if m.bad = 4 then { m with bad := 0, lk := 30 } else { m with bad := m.bad + 1 }) else m
theorem soldM_no {m : MM} {k : Int} (h : k ≠ 2) : soldM m k = m := by rw [soldM, if_neg h]
theorem hitU {ps : List APair} {me rev body tag r : Int} (hr : r < rev) (h : ps.any (kA me r body tag) = true) : ps.any (kU me rev body tag) = true := by
  obtain ⟨p, hp, h⟩ := List.any_eq_true.1 h
  obtain ⟨h1, h2, h3, h4⟩ := kA_true.1 h
  exact List.any_eq_true.2 ⟨p, hp, by simp [kU, h1, h2, h3]; omega⟩
theorem noU {ps : List APair} {me rev body tag : Int} (hm : mayO ps = true) (h : ∀ r, 0 ≤ r → r ≤ rev → ps.any (kA me r body tag) = false) : ps.any (kU me rev body tag) = false := by
  rw [List.any_eq_false]
  intro p hp hu
  unfold mayO at hm
  rw [Bool.and_eq_true, List.all_eq_true] at hm
  obtain ⟨j, hj, hpj⟩ := List.getElem_of_mem hp
  have hg := hm.2 j (List.mem_range.2 hj)
  rw [goodAt, Bool.and_eq_true] at hg
  have hpj' : ps.getD j default = p := by rw [List.getD_eq_getElem?_getD, List.getElem?_eq_getElem hj]; exact hpj
  have hp2 := hg.1
  rw [hpj', pairMay, Bool.and_eq_true, Bool.and_eq_true] at hp2
  have hrev := (inB_true.1 hp2.2.1).1
  simp [kU] at hu
  have := List.any_eq_false.1 (h p.rev hrev (by omega)) p hp
  exact this (kA_true.2 ⟨hu.1, hu.2.1, hu.2.2.1, rfl⟩)

theorem StP.sold {g : Nat} {m : MM} {ad K k' : Int} {L : List Value} {w w' : World} (hk : k' = soldE K) (hL : L = stL (soldM m K) ad) (hO : Own w' g L) (hc : Chg g w w') : StP g (soldM m K) ad (soldE K) w (.returned (I k')) w' := by
  subst hk hL; exact ⟨rfl, hO, hc⟩
set_option maxHeartbeats 4000000 in
theorem sold_any (g : Nat) (me rev cr hh : Int) (bb : Nat) (bad lk ad : Int) (v : Value) (ps : List APair) (body tag : Int) (w : World) (hO : Own w g (stL ⟨me, rev, cr, hh, bb, bad, lk⟩ ad))
    (h : Sl w v 4 ps.length (ps.flatMap APair.cells)) (hw : ∀ p ∈ ps, p.wf) (hm : mayO ps = true) (hme : I64 me) (hrev : 0 ≤ rev ∧ rev ≤ 15) (hbody : I64 body) (hbad : 0 ≤ bad ∧ bad ≤ 4) :
    Calls Tryz.prog 31 #[.pointer (some ⟨g, 0, none⟩), .agg #[v], I body, I tag] w (StP g (soldM ⟨me, rev, cr, hh, bb, bad, lk⟩ (sellK me rev body tag ps)) ad (soldE (sellK me rev body tag ps)) w) := by
  have hS := h
  obtain ⟨a, cap, rfl, -⟩ := h
  have kb := boxed_below w (.cells #[.slice a ps.length cap] 25)
  have oo := Own.new (w := w) rfl [.slice a ps.length cap] 25
  have hglt := hO.lt
  have V := Lib.hid (fun r W hW (h0 : 0 ≤ r) (h1 : r ≤ 15) => Verify_any (.slice a ps.length cap) ps me r body tag W hW hw hme (by unfold I64; omega) hbody)
  have HV := Lib.hid (fun r => verO_mem hm me r body tag)
  have HM := Lib.hid hm
  have HS := Lib.hid hS
  have HO := Lib.hid hO
  have hrng := Lib.hid (And.intro hrev hbad)
  obtain ⟨hr0, hr1⟩ := hrev
  obtain ⟨hb0, hb1⟩ := hbad
  unfold stL at hO
  have hO1 := hO.alloc (.cells #[.slice a ps.length cap] 25)
  have mO := hO1
  have m0 := mO.cell 0 (by simp)
  have mf0 := mO.frozen 0
  have m1 := mO.cell 1 (by simp)
  have mf1 := mO.frozen 1
  have m2 := mO.cell 2 (by simp)
  have mf2 := mO.frozen 2
  have m3 := mO.cell 3 (by simp)
  have mf3 := mO.frozen 3
  have m4 := mO.cell 4 (by simp)
  have mf4 := mO.frozen 4
  have m5 := mO.cell 5 (by simp)
  have mf5 := mO.frozen 5
  have m6 := mO.cell 6 (by simp)
  have mf6 := mO.frozen 6
  have m7 := mO.cell 7 (by simp)
  have mf7 := mO.frozen 7
  simp only [Nat.zero_add, List.getD_cons_zero, List.getD_cons_succ] at m0 m1 m2 m3 m4 m5 m6 m7
  clear mO
  have mm := m1
  clear hw hme hbody hm hS hO hO1
  go_enter Tryz.func31, Tryz.ntmps31
  go_wp2
  go_loopw [9] (fun i wr => ∃ r : Int, -1 ≤ r ∧ r ≤ rev ∧ i = I r ∧ Hid (∀ r', r < r' → r' ≤ rev → ps.any (kA me r' body tag) = false) ∧ Hid (Own wr w.heap.size [.slice a ps.length cap]) ∧ Below w.heap.size w wr) (fun i _ => (intOf i + 1).toNat)
  case atStart => exact ⟨rev, by omega, by omega, rfl, (fun r' h1 h2 => by omega), oo, kb⟩
  case round =>
    obtain ⟨r, hr2, hr3, rfl, hN, hO, hbw⟩ := hrel
    clear m0 m1 m2 m3 m4 m5 m6 m7 mf0 mf1 mf2 mf3 mf4 mf5 mf6 mf7 kb oo mm
    have hOw := HO.out.below hbw
    unfold stL at hOw
    have hOw2 := Lib.hid hOw
    have mO := hOw
    have m0 := mO.cell 0 (by simp)
    have mf0 := mO.frozen 0
    have m1 := mO.cell 1 (by simp)
    have mf1 := mO.frozen 1
    have m2 := mO.cell 2 (by simp)
    have mf2 := mO.frozen 2
    have m3 := mO.cell 3 (by simp)
    have mf3 := mO.frozen 3
    have m4 := mO.cell 4 (by simp)
    have mf4 := mO.frozen 4
    have m5 := mO.cell 5 (by simp)
    have mf5 := mO.frozen 5
    have m6 := mO.cell 6 (by simp)
    have mf6 := mO.frozen 6
    have m7 := mO.cell 7 (by simp)
    have mf7 := mO.frozen 7
    simp only [Nat.zero_add, List.getD_cons_zero, List.getD_cons_succ] at m0 m1 m2 m3 m4 m5 m6 m7
    clear mO
    have oO := hO.out
    have o0 := oO.cell 0 (by simp)
    have of0 := oO.frozen 0
    simp only [Nat.zero_add, List.getD_cons_zero] at o0
    clear oO
    clear hOw
    have hsl := HS.out.below hbw
    by_cases hge : 0 ≤ r
    · have hgw : g < wr.heap.size := Nat.lt_of_lt_of_le hglt hbw.size
      have HOX := Lib.hid (fun W (k : Below wr.heap.size wr W) => hO.out.below k)
      cases hv : ps.any (kA me r body tag)
      · have V2 := Lib.hid (fun W hW => show Calls _ _ _ W (Grew (.bool false) W) by
          have := V.out r W hW hge (by omega)
          rw [HV.out, hv] at this
          exact this)
        have hN2 : Hid (∀ r', r - 1 < r' → r' ≤ rev → ps.any (kA me r' body tag) = false) := by
          intro r' h1 h2
          by_cases he : r' = r
          · rw [he]; exact hv
          · exact hN.out r' (by omega) h2
        clear hv V HV hN hO hrng HO HM HS
        go_wp2
        go_region_with ((refine (V2.out _ ?_).mono ?_; (first | assumption | (apply Sl.drew; assumption)); rintro e w1 ⟨rfl, k1⟩))
        all_goals
          have kk := (drewN_below hbw 1).trans (k1.mono hbw.size)
          have hO2 := Lib.hid (HOX.out _ (show Below wr.heap.size wr w1 from (drewN_below (Below.refl _ wr) 1).trans k1))
          clear HOX k1 hbw
          go_wp2
          exact ⟨⟨r - 1, by omega, by omega, by go_num, hN2, hO2, kk⟩, by simp [intOf]; omega⟩
      · have V2 := Lib.hid (fun W hW => show Calls _ _ _ W (Grew (.bool true) W) by
          have := V.out r W hW hge (by omega)
          rw [HV.out, hv] at this
          exact this)
        have HNv := Lib.hid hv
        have HNr := Lib.hid hN.out
        clear hv V HV hN hO hrng HM HS HOX
        go_wp2
        go_region_with ((refine (V2.out _ ?_).mono ?_; (first | assumption | (apply Sl.drew; assumption)); rintro e w1 ⟨rfl, k1⟩))
        all_goals
          have kk := (drewN_below hbw 1).trans (k1.mono hbw.size)
          have hO2 := HO.out.below kk
          have HO3 := Lib.hid hO2
          unfold stL at hO2
          clear m0 m1 m2 m3 m4 m5 m6 m7 mf0 mf1 mf2 mf3 mf4 mf5 mf6 mf7
          have mO := hO2
          have m0 := mO.cell 0 (by simp)
          have mf0 := mO.frozen 0
          have m1 := mO.cell 1 (by simp)
          have mf1 := mO.frozen 1
          have m2 := mO.cell 2 (by simp)
          have mf2 := mO.frozen 2
          have m3 := mO.cell 3 (by simp)
          have mf3 := mO.frozen 3
          have m4 := mO.cell 4 (by simp)
          have mf4 := mO.frozen 4
          have m5 := mO.cell 5 (by simp)
          have mf5 := mO.frozen 5
          have m6 := mO.cell 6 (by simp)
          have mf6 := mO.frozen 6
          have m7 := mO.cell 7 (by simp)
          have mf7 := mO.frozen 7
          simp only [Nat.zero_add, List.getD_cons_zero, List.getD_cons_succ] at m0 m1 m2 m3 m4 m5 m6 m7
          clear mO
          clear k1 hbw hO2 V2
          by_cases hlt : r < rev
          · have hK : Hid (sellK me rev body tag ps = 1) := Lib.hid (by
              rw [sellK, HNr.out rev hlt (Int.le_refl _), if_neg (by simp), outK, hitU hlt HNv.out]; rfl)
            clear HNv HNr
            go_wp2
            go_ret
            exact StP.sold (by rw [hK.out]; rfl) (by rw [hK.out, soldM_no (by decide)]) HO3.out (Chg.of_below kk)
          · have hre : r = rev := by omega
            have hK : Hid (sellK me rev body tag ps = 0) := Lib.hid (by rw [sellK, ← hre, HNv.out]; rfl)
            clear HNv HNr hre
            go_wp2
            go_ret
            exact StP.sold (by rw [hK.out]; rfl) (by rw [hK.out, soldM_no (by decide)]) HO3.out (Chg.of_below kk)
    · have hrn : r = -1 := by omega
      have hK : Hid (sellK me rev body tag ps = 2) := Lib.hid (by
        have hz : ∀ r', 0 ≤ r' → r' ≤ rev → ps.any (kA me r' body tag) = false := fun r' h0 h1 => hN.out r' (by omega) h1
        rw [sellK, hz rev hrng.out.1.1 (Int.le_refl _), if_neg (by simp), outK, noU HM.out hz]; rfl)
      have hC := Lib.hid (Chg.of_below (z := g) hbw)
      have r1 := set_same
      have r2 := set_off
      by_cases h4 : bad = 4
      · subst h4
        have hL := Lib.hid (((hOw2.out.set 5 (I 5)).set 5 (I 0)).set 6 (I 30))
        have hC2 := Lib.hid (((hC.out.set 5 (I 5)).set 5 (I 0)).set 6 (I 30))
        clear hN hO hrng HM HS HO V HV hC hOw2 hsl hrn
        go_wp2
        go_ret
        exact StP.sold (by rw [hK.out]; rfl) (by rw [hK.out]; rfl) hL.out hC2.out
      · have h5 : ((bad + 1) == 5) = false := by simp; omega
        have hL := Lib.hid (hOw2.out.set 5 (I (bad + 1)))
        have hC2 := Lib.hid (hC.out.set 5 (I (bad + 1)))
        have hs2 : Hid (soldM ⟨me, rev, cr, hh, bb, bad, lk⟩ 2 = ⟨me, rev, cr, hh, bb, bad + 1, lk⟩) := Lib.hid (by simp [soldM, h4])
        clear hN hO hrng HM HS HO V HV hC hOw2 hsl hrn
        go_wp2
        go_ret
        exact StP.sold (by rw [hK.out]; rfl) (by rw [hK.out, hs2.out]; rfl) hL.out hC2.out
end Go.Proofs.YtmciccnmpoijdaaGreatDoor
namespace Go.Proofs.YtmciccnmpoijdaaGreatDoor
open Go.RowKit
set_option maxRecDepth 20000

/-- the bits of a list of numbers, the n oldest places of 64 -/
def bitsOf (high : Int) (l : List Int) : Nat → Nat
  | 0 => 0
  | n + 1 => 2 * bitsOf high l n + l.count (high - ((63 - n : Nat) : Int))
theorem bitsOf_lt {high : Int} {l : List Int} (hl : l.Nodup) : ∀ n, bitsOf high l n < 2 ^ n
  | 0 => by simp [bitsOf]
  | n + 1 => by
    have := bitsOf_lt (high := high) hl n
    have hc : l.count (high - ((63 - n : Nat) : Int)) ≤ 1 := List.nodup_iff_count.1 hl _
    simp only [bitsOf]
    rw [Nat.pow_succ]; omega
theorem bit_two_zero (x c : Nat) (hc : c ≤ 1) : (2 * x + c).testBit 0 = decide (c = 1) := by
  rw [Nat.testBit_zero]
  apply decide_eq_decide.2; omega
theorem bit_two_succ (x c i : Nat) (hc : c ≤ 1) : (2 * x + c).testBit (i + 1) = x.testBit i := by
  rw [Nat.testBit_succ]; congr 1; omega
theorem bitsOf_bit {high : Int} {l : List Int} (hl : l.Nodup) : ∀ n, n ≤ 64 → ∀ i, i < n → (bitsOf high l n).testBit i = decide ((high - ((64 - n + i : Nat) : Int)) ∈ l)
  | 0, _, i, hi => by omega
  | n + 1, hn, i, hi => by
    have hc : l.count (high - ((63 - n : Nat) : Int)) ≤ 1 := List.nodup_iff_count.1 hl _
    cases i with
    | zero =>
      simp only [bitsOf]
      rw [bit_two_zero _ _ hc, show 64 - (n + 1) + 0 = 63 - n by omega]
      apply decide_eq_decide.2
      constructor
      · intro h; exact List.count_pos_iff.1 (by omega)
      · intro h; have := List.count_pos_iff.2 h; omega
    | succ i =>
      simp only [bitsOf]
      rw [bit_two_succ _ _ _ hc, bitsOf_bit hl n (by omega) i (by omega), show 64 - (n + 1) + (i + 1) = 64 - n + i by omega]
/-- the members differ -/
theorem memb_nodup (high : Int) (b : Nat) : ∀ n, (memb high b n).Nodup
  | 0 => by simp [memb]
  | n + 1 => by
    simp only [memb]
    split
    · rw [List.nodup_cons]
      refine ⟨fun hh => ?_, memb_nodup high b n⟩
      obtain ⟨i, h1, _, h3⟩ := (memb_mem n).1 hh
      omega
    · exact memb_nodup high b n
/-- a number more -/
def takeH (h id : Int) : Int := if h < id then id else h
def takeB (h : Int) (b : Nat) (id : Int) : Nat := if h < id then (b * 2 ^ min (id - h).toNat 64) % 18446744073709551616 ||| 1 else b ||| 2 ^ (h - id).toNat
theorem mod_bit (x i : Nat) : (x % 18446744073709551616).testBit i = (decide (i < 64) && x.testBit i) := by
  rw [show (18446744073709551616 : Nat) = 2 ^ 64 from rfl, Nat.testBit_mod_two_pow]
theorem mul_min (b n : Nat) : b * 2 ^ min n 64 % 18446744073709551616 = b * 2 ^ n % 18446744073709551616 := by
  by_cases h : n ≤ 64
  · rw [Nat.min_eq_left h]
  · obtain ⟨d, rfl⟩ : ∃ d, n = 64 + d := ⟨n - 64, by omega⟩
    rw [Nat.min_eq_right (by omega), Nat.pow_add, ← Nat.mul_assoc, Nat.mul_comm (b * 2 ^ 64), Nat.mul_comm b (2 ^ 64), ← Nat.mul_assoc, Nat.mul_comm _ (2 ^ 64), Nat.mul_assoc]
    rw [show (2 : Nat) ^ 64 = 18446744073709551616 from rfl, Nat.mul_mod_right, Nat.mul_mod_right]
theorem takeB_lt {h : Int} {b : Nat} {id : Int} (hb : b < 18446744073709551616) (h2 : h - id < 64) : takeB h b id < 18446744073709551616 := by
  unfold takeB
  split
  · exact Nat.or_lt_two_pow (n := 64) (Nat.mod_lt _ (by decide)) (by decide)
  · exact Nat.or_lt_two_pow (n := 64) hb (Nat.pow_lt_pow_right (by decide) (by omega))
theorem take_bits {h : Int} {b : Nat} {id : Int} (hb : b < 18446744073709551616) (h2 : h - id < 64) (hno : id ∉ memb h b 64) : bitsOf (takeH h id) (memb h b 64 ++ [id]) 64 = takeB h b id := by
  have hnd : (memb h b 64 ++ [id]).Nodup := by
    rw [List.nodup_append]
    refine ⟨memb_nodup h b 64, by simp, fun x hx y hy => ?_⟩
    simp at hy; subst hy
    exact fun he => hno (he ▸ hx)
  apply Nat.eq_of_testBit_eq
  intro i
  by_cases hi : i < 64
  · rw [bitsOf_bit hnd 64 (by omega) i hi, show 64 - 64 + i = i by omega]
    unfold takeH takeB
    by_cases hlt : h < id
    · rw [if_pos hlt, if_pos hlt, mul_min]
      obtain ⟨d, hd⟩ : ∃ d : Nat, id - h = ((d + 1 : Nat) : Int) := ⟨(id - h).toNat - 1, by omega⟩
      rw [hd, Int.toNat_natCast, Nat.testBit_or, mod_bit, decide_eq_true hi, Bool.true_and, Nat.testBit_mul_two_pow]
      cases i with
      | zero =>
        have : (id - ((0 : Nat) : Int)) ∈ memb h b 64 ++ [id] := by simp
        rw [decide_eq_true this]
        simp
      | succ i =>
        rw [Nat.testBit_succ (x := 1)]
        simp only [show 1 / 2 = 0 from rfl, Nat.zero_testBit, Bool.or_false]
        by_cases hle : d + 1 ≤ i + 1
        · simp only [hle, decide_true, Bool.true_and]
          cases ht : b.testBit (i + 1 - (d + 1))
          · refine decide_eq_false fun hh => ?_
            rcases List.mem_append.1 hh with hh | hh
            · obtain ⟨j, j1, j2, j3⟩ := (memb_mem 64).1 hh
              rw [show j = i + 1 - (d + 1) by omega] at j2
              rw [ht] at j2; cases j2
            · simp at hh; omega
          · refine decide_eq_true (List.mem_append.2 (.inl ((memb_mem 64).2 ⟨i + 1 - (d + 1), by omega, ht, by omega⟩)))
        · simp only [hle, decide_false, Bool.false_and]
          refine decide_eq_false fun hh => ?_
          rcases List.mem_append.1 hh with hh | hh
          · obtain ⟨j, j1, j2, j3⟩ := (memb_mem 64).1 hh
            omega
          · simp at hh; omega
    · rw [if_neg hlt, if_neg hlt, Nat.testBit_or, Nat.testBit_two_pow]
      cases ht : b.testBit i
      · by_cases he : (h - id).toNat = i
        · simp only [he, decide_true, Bool.false_or]
          exact decide_eq_true (List.mem_append.2 (.inr (by simp; omega)))
        · simp only [he, decide_false, Bool.false_or]
          refine decide_eq_false fun hh => ?_
          rcases List.mem_append.1 hh with hh | hh
          · obtain ⟨j, j1, j2, j3⟩ := (memb_mem 64).1 hh
            rw [show j = i by omega] at j2
            rw [ht] at j2; cases j2
          · simp at hh; omega
      · simp only [Bool.true_or]
        exact decide_eq_true (List.mem_append.2 (.inl ((memb_mem 64).2 ⟨i, hi, ht, rfl⟩)))
  · have e1 : (bitsOf (takeH h id) (memb h b 64 ++ [id]) 64).testBit i = false := Nat.testBit_lt_two_pow (Nat.lt_of_lt_of_le (bitsOf_lt hnd 64) (Nat.pow_le_pow_right (by decide) (by omega)))
    have e2 : (takeB h b id).testBit i = false := Nat.testBit_lt_two_pow (Nat.lt_of_lt_of_le (takeB_lt hb h2) (Nat.pow_le_pow_right (n := 2) (i := 64) (by decide) (by omega)))
    rw [e1, e2]
end Go.Proofs.YtmciccnmpoijdaaGreatDoor
