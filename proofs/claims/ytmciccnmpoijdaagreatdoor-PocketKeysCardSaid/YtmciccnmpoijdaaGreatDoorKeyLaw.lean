/- meter.Key: under which key a token was sold; ref.sellKey -/
import Derived.Test.YtmciccnmpoijdaaGreatDoorOracle
import Derived.Test.YtmciccnmpoijdaaGreatDoorPk10
import Derived.Test.YtmciccnmpoijdaaGreatDoorMeter
namespace Go.Proofs.YtmciccnmpoijdaaGreatDoor
open Go Go.RowKit
set_option maxRecDepth 20000

def kU (me rev body tag : Int) (p : APair) : Bool := decide (p.meter = me ∧ p.body = body ∧ p.tag = tag ∧ p.rev < rev)
def kA (me rev body tag : Int) (p : APair) : Bool := decide (p.meter = me ∧ p.body = body ∧ p.tag = tag ∧ p.rev = rev)
def outK (me rev body tag : Int) (ps : List APair) : Int := if ps.any (kU me rev body tag) then 1 else 2
/-- under which key: 0 this one, 1 an earlier one, 2 none -/
def sellK (me rev body tag : Int) (ps : List APair) : Int := if ps.any (kA me rev body tag) then 0 else outK me rev body tag ps
theorem kA_true {me rev body tag : Int} {p : APair} : kA me rev body tag p = true ↔ p.meter = me ∧ p.body = body ∧ p.tag = tag ∧ p.rev = rev := by simp [kA]
/-- a legal book of tags: Verify tells whether just this pair is in it -/
theorem verO_mem {ps : List APair} (hm : mayO ps = true) (me r body tag : Int) : verO ps me r body tag = ps.any (kA me r body tag) := by
  have hg : ∀ k, k < ps.length → goodAt ps k = true := by
    unfold mayO at hm
    rw [Bool.and_eq_true, List.all_eq_true] at hm
    exact fun k hk => hm.2 k (List.mem_range.2 hk)
  rw [verO, hm, Bool.true_and]
  rcases tagI_cases ps me r body with ⟨-, hh⟩ | ⟨k, hk, hi, hh, ht⟩
  · rw [hh, Bool.false_and]
    symm
    rw [List.any_eq_false]
    intro p hp h
    have := List.any_eq_false.1 hh p hp
    obtain ⟨h1, h2, h3, h4⟩ := kA_true.1 h
    exact this (keyIs_true.2 ⟨h1, h4, h2⟩)
  · rw [hh, Bool.true_and, ht]
    have hkey : keyIs me r body (ps.getD k default) = true := by
      obtain ⟨q, hq, hk2⟩ := List.any_eq_true.1 hh
      cases hf : ps.findIdx? (keyIs me r body) with
      | none =>
        have : tagI ps me r body = -1 := by rw [tagI, hf]
        omega
      | some j =>
        have : tagI ps me r body = (j : Int) := by rw [tagI, hf]
        obtain rfl : j = k := by omega
        obtain ⟨hj, h1, h2⟩ := List.findIdx?_eq_some_iff_getElem.1 hf
        rw [List.getD_eq_getElem?_getD, List.getElem?_eq_getElem hj]; exact h1
    obtain ⟨k1, k2, k3⟩ := keyIs_true.1 hkey
    rw [Bool.eq_iff_iff, decide_eq_true_eq, List.any_eq_true]
    constructor
    · intro he
      refine ⟨ps.getD k default, ?_, kA_true.2 ⟨k1, k3, he, k2⟩⟩
      rw [List.getD_eq_getElem?_getD, List.getElem?_eq_getElem hk]; exact List.getElem_mem hk
    · rintro ⟨p, hp, h⟩
      obtain ⟨h1, h2, h3, h4⟩ := kA_true.1 h
      obtain ⟨j, hj, hpj⟩ := List.getElem_of_mem hp
      have hgj := hg j hj
      rw [goodAt, Bool.and_eq_true, decide_eq_true_eq] at hgj
      have hpj' : ps.getD j default = p := by rw [List.getD_eq_getElem?_getD, List.getElem?_eq_getElem hj]; exact hpj
      have e := hgj.2
      rw [hpj', h1, h4, h2, hi] at e
      obtain rfl : k = j := by omega
      rw [hpj']; exact h3
theorem any_take {ps : List APair} (f : APair → Bool) {k : Nat} (hk : k < ps.length) : (ps.take (k + 1)).any f = ((ps.take k).any f || f (ps.getD k default)) := by
  rw [List.take_add_one, List.getElem?_eq_getElem hk, List.getD_eq_getElem?_getD, List.getElem?_eq_getElem hk, List.any_append]
  simp
theorem any_of_take {ps : List APair} (f : APair → Bool) {k : Nat} (hk : k < ps.length) (h : f (ps.getD k default) = true) : ps.any f = true := by
  refine List.any_eq_true.2 ⟨_, ?_, h⟩
  rw [List.getD_eq_getElem?_getD, List.getElem?_eq_getElem hk]; exact List.getElem_mem hk

set_option maxHeartbeats 4000000 in
theorem sellKey_any (me rev cr hh : Int) (bb : Nat) (bad lk : Int) (v : Value) (ps : List APair) (body tag : Int) (w : World) (h : Sl w v 4 ps.length (ps.flatMap APair.cells)) :
    Calls Tryz.prog 50 #[(MM.mk me rev cr hh bb bad lk).v, .agg #[v], I body, I tag] w (Grew (I (sellK me rev body tag ps)) w) := by
  obtain ⟨a, cap, rfl, hn, -, -, hr⟩ := h
  have kb := boxed_below w (.cells #[I me, I rev, I cr, I hh, .int .u64 bb, I bad, I lk] 40)
  have kB := kb.alloc kb.size (.cells #[.slice a ps.length cap] 25)
  have om := (Own.new (w := w) rfl [I me, I rev, I cr, I hh, .int .u64 bb, I bad, I lk] 40).alloc (.cells #[.slice a ps.length cap] 25)
  have oo := Own.new (w := w.alloc (.cells #[I me, I rev, I cr, I hh, .int .u64 bb, I bad, I lk] 40)) (g := w.heap.size + 1) (by simp) [.slice a ps.length cap] 25
  have h2s : w.heap.size + 2 ≤ ((w.alloc (.cells #[I me, I rev, I cr, I hh, .int .u64 bb, I bad, I lk] 40)).alloc (.cells #[.slice a ps.length cap] 25)).heap.size := by simp
  have hA := Lib.hid (fun k hk => any_take (ps := ps) (kA me rev body tag) (k := k) hk)
  have hU := Lib.hid (fun k hk => any_take (ps := ps) (kU me rev body tag) (k := k) hk)
  have hF := Lib.hid (fun k hk h => any_of_take (ps := ps) (kA me rev body tag) (k := k) hk h)
  have hR := Lib.hid hr
  clear kb hr
  unfold MM.v
  go_enter Tryz.func50, Tryz.ntmps50
  go_wp2
  go_loopw [9, 10] (fun o i wr => ∃ (k : Nat) (x : Int), k ≤ ps.length ∧ i = I k ∧ o = I x ∧ Hid (x = outK me rev body tag (ps.take k)) ∧ Hid ((ps.take k).any (kA me rev body tag) = false) ∧ Hid (Own wr w.heap.size [I me, I rev, I cr, I hh, .int .u64 bb, I bad, I lk]) ∧ Hid (Own wr (w.heap.size + 1) [.slice a ps.length cap]) ∧ Below w.heap.size w wr ∧ w.heap.size + 2 ≤ wr.heap.size) (fun _ i _ => ps.length - (intOf i).toNat)
  case atStart => exact ⟨0, 2, Nat.zero_le _, rfl, rfl, rfl, rfl, om, oo, kB, h2s⟩
  case round =>
    obtain ⟨k, x, hk, rfl, rfl, hX, hN, hM, hO, hbw, hsz⟩ := hrel
    clear om oo kB h2s
    have oO := hO.out
    have o0 := oO.cell 0 (by simp)
    have of0 := oO.frozen 0
    simp only [Nat.zero_add, List.getD_cons_zero] at o0
    clear oO
    by_cases hlt : k < ps.length
    · obtain ⟨b, off, rfl, hb, hc⟩ := hR.out.resolve_left (by omega)
      obtain ⟨e0, e1, e2, e3⟩ := elPair hb hc hbw k hlt
      have hi0 : (0 : Int) ≤ (k : Int) := by omega
      have hi1 : (k : Int) < (ps.length : Int) := by omega
      have HA := Lib.hid (hA.out k hlt)
      have HU := Lib.hid (hU.out k hlt)
      have HF := Lib.hid (hF.out k hlt)
      have HM2 := fun ob => hM.out.alloc ob
      have HO2 := fun ob => hO.out.alloc ob
      have HB2 := fun ob => hbw.alloc (Nat.le_trans (Nat.le_add_right _ 2) hsz) ob
      have hs2 : ∀ ob, w.heap.size + 2 ≤ (wr.alloc ob).heap.size := fun ob => by simp; omega
      generalize ps.getD k default = p at *
      obtain ⟨q1, q2, q3, q4⟩ := p
      simp only at e0 e1 e2 e3
      have mO := HM2 (.cells #[I q1, I q2, I q3, I q4] 55)
      have m0 := mO.cell 0 (by simp)
      have mf0 := mO.frozen 0
      have m1 := mO.cell 1 (by simp)
      have mf1 := mO.frozen 1
      have m2 := mO.cell 2 (by simp)
      have mf2 := mO.frozen 2
      have m3 := mO.cell 3 (by simp)
      have mf3 := mO.frozen 3
      have m4 := mO.cell 4 (by simp)
      have mf4 := mO.frozen 4
      have m5 := mO.cell 5 (by simp)
      have mf5 := mO.frozen 5
      have m6 := mO.cell 6 (by simp)
      have mf6 := mO.frozen 6
      simp only [Nat.zero_add, List.getD_cons_zero, List.getD_cons_succ] at m0 m1 m2 m3 m4 m5 m6
      clear mO
      by_cases c1 : q1 = me
      · have hb1 : (q1 != me) = false := by simp [c1]
        by_cases c2 : q3 = body
        · have hb2 : (q3 != body) = false := by simp [c2]
          by_cases c3 : q4 = tag
          · have hb3 : (q4 != tag) = false := by simp [c3]
            by_cases c4 : rev < q2
            · have hkU : kU me rev body tag ⟨q1, q2, q3, q4⟩ = false := by simp [kU]; omega
              have hkA : kA me rev body tag ⟨q1, q2, q3, q4⟩ = false := by simp [kA]; omega
              have HX2 : Hid (x = outK me rev body tag (ps.take (k + 1))) := Lib.hid (by rw [outK, HU.out, hkU, Bool.or_false]; exact hX.out)
              have HN2 : Hid ((ps.take (k + 1)).any (kA me rev body tag) = false) := Lib.hid (by rw [HA.out, hkA, hN.out]; rfl)
              clear hkU hkA HA HU HF hN hX hR hM hO hc hbw c1 c2 c3
              go_wp2
              exact ⟨⟨k + 1, x, by omega, by go_num, rfl, HX2, HN2, HM2 _, HO2 _, HB2 _, hs2 _⟩, by simp [intOf]; omega⟩
            · by_cases c5 : q2 = rev
              · have hb5 : (q2 == rev) = true := by simp [c5]
                have hR0 : Hid (sellK me rev body tag ps = 0) := Lib.hid (by rw [sellK, if_pos (HF.out (kA_true.2 ⟨c1, c2, c3, c5⟩))])
                clear c1 c2 c3 c5 HA HU HF hN hX hR hM hO hc
                go_wp2
                go_ret
                exact Grew.intro (eI hR0.out.symm) (HB2 _)
              · have hb5 : (q2 == rev) = false := by simp [c5]
                have hkU : kU me rev body tag ⟨q1, q2, q3, q4⟩ = true := by simp [kU]; omega
                have hkA : kA me rev body tag ⟨q1, q2, q3, q4⟩ = false := by simp [kA]; omega
                have HX2 : Hid (1 = outK me rev body tag (ps.take (k + 1))) := Lib.hid (by rw [outK, HU.out, hkU, Bool.or_true]; rfl)
                have HN2 : Hid ((ps.take (k + 1)).any (kA me rev body tag) = false) := Lib.hid (by rw [HA.out, hkA, hN.out]; rfl)
                clear hkU hkA HA HU HF hN hX hR hM hO hc hbw c1 c2 c3 c5
                go_wp2
                exact ⟨⟨k + 1, 1, by omega, by go_num, rfl, HX2, HN2, HM2 _, HO2 _, HB2 _, hs2 _⟩, by simp [intOf]; omega⟩
          · have hb3 : (q4 != tag) = true := by simp [c3]
            have hkU : kU me rev body tag ⟨q1, q2, q3, q4⟩ = false := by simp [kU]; omega
            have hkA : kA me rev body tag ⟨q1, q2, q3, q4⟩ = false := by simp [kA]; omega
            have HX2 : Hid (x = outK me rev body tag (ps.take (k + 1))) := Lib.hid (by rw [outK, HU.out, hkU, Bool.or_false]; exact hX.out)
            have HN2 : Hid ((ps.take (k + 1)).any (kA me rev body tag) = false) := Lib.hid (by rw [HA.out, hkA, hN.out]; rfl)
            clear hkU hkA HA HU HF hN hX hR hM hO hc hbw c1 c2 c3
            go_wp2
            exact ⟨⟨k + 1, x, by omega, by go_num, rfl, HX2, HN2, HM2 _, HO2 _, HB2 _, hs2 _⟩, by simp [intOf]; omega⟩
        · have hb2 : (q3 != body) = true := by simp [c2]
          have hkU : kU me rev body tag ⟨q1, q2, q3, q4⟩ = false := by simp [kU]; omega
          have hkA : kA me rev body tag ⟨q1, q2, q3, q4⟩ = false := by simp [kA]; omega
          have HX2 : Hid (x = outK me rev body tag (ps.take (k + 1))) := Lib.hid (by rw [outK, HU.out, hkU, Bool.or_false]; exact hX.out)
          have HN2 : Hid ((ps.take (k + 1)).any (kA me rev body tag) = false) := Lib.hid (by rw [HA.out, hkA, hN.out]; rfl)
          clear hkU hkA HA HU HF hN hX hR hM hO hc hbw c1 c2
          go_wp2
          exact ⟨⟨k + 1, x, by omega, by go_num, rfl, HX2, HN2, HM2 _, HO2 _, HB2 _, hs2 _⟩, by simp [intOf]; omega⟩
      · have hb1 : (q1 != me) = true := by simp [c1]
        have hkU : kU me rev body tag ⟨q1, q2, q3, q4⟩ = false := by simp [kU]; omega
        have hkA : kA me rev body tag ⟨q1, q2, q3, q4⟩ = false := by simp [kA]; omega
        have HX2 : Hid (x = outK me rev body tag (ps.take (k + 1))) := Lib.hid (by rw [outK, HU.out, hkU, Bool.or_false]; exact hX.out)
        have HN2 : Hid ((ps.take (k + 1)).any (kA me rev body tag) = false) := Lib.hid (by rw [HA.out, hkA, hN.out]; rfl)
        clear hkU hkA HA HU HF hN hX hR hM hO hc hbw c1
        go_wp2
        exact ⟨⟨k + 1, x, by omega, by go_num, rfl, HX2, HN2, HM2 _, HO2 _, HB2 _, hs2 _⟩, by simp [intOf]; omega⟩
    · have hkl : k = ps.length := by omega
      have hge : (ps.length : Int) ≤ (k : Int) := by omega
      have HR0 : Hid (sellK me rev body tag ps = x) := by
        have h1 := hN.out
        have h2 := hX.out
        rw [hkl, List.take_length] at h1 h2
        rw [sellK, h1, h2]; rfl
      clear hkl hX hN hM hO hR hA hU hF
      go_wp2
      go_ret
      exact Grew.intro (eI HR0.out.symm) hbw
end Go.Proofs.YtmciccnmpoijdaaGreatDoor
