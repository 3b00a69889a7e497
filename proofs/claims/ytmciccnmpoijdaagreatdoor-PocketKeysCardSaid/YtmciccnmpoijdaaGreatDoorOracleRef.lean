/- may an oracle be? which pair is it? the reference -/
import Derived.Test.YtmciccnmpoijdaaGreatDoorPk04
import Derived.Test.YtmciccnmpoijdaaGreatDoorElems
import Derived.Test.YtmciccnmpoijdaaGreatDoorPk06
namespace Go.Proofs.YtmciccnmpoijdaaGreatDoor
open Go.RowKit
set_option maxRecDepth 20000

def pairMay (p : APair) : Bool := inB p.meter 0 49 && (inB p.rev 0 15 && (inB p.body 0 8796093022207 && inB p.tag 0 65535))
/-- the first pair under a key: its place, or -1 -/
def tagI (ps : List APair) (x y z : Int) : Int := match ps.findIdx? (keyIs x y z) with | some i => (i : Int) | none => -1
theorem tagI_at {ps : List APair} {x y z : Int} {k : Nat} (hk : k < ps.length) (h0 : ∀ j, j < k → keyIs x y z (ps.getD j default) = false) (h1 : keyIs x y z (ps.getD k default) = true) : tagI ps x y z = k := by
  have : ps.findIdx? (keyIs x y z) = some k := by
    rw [List.findIdx?_eq_some_iff_getElem]
    refine ⟨hk, ?_, fun j hj => ?_⟩
    · have := h1; rw [List.getD_eq_getElem?_getD, List.getElem?_eq_getElem hk] at this; exact this
    · have := h0 j hj; rw [List.getD_eq_getElem?_getD, List.getElem?_eq_getElem (by omega)] at this; simpa using this
  rw [tagI, this]
theorem tagI_no {ps : List APair} {x y z : Int} (h : ∀ j, j < ps.length → keyIs x y z (ps.getD j default) = false) : tagI ps x y z = -1 := by
  have : ps.findIdx? (keyIs x y z) = none := by
    rw [List.findIdx?_eq_none_iff]
    intro p hp
    obtain ⟨j, hj, rfl⟩ := List.getElem_of_mem hp
    have := h j hj
    rw [List.getD_eq_getElem?_getD, List.getElem?_eq_getElem hj] at this
    exact this
  rw [tagI, this]
def goodAt (ps : List APair) (k : Nat) : Bool := pairMay (ps.getD k default) && decide (tagI ps (ps.getD k default).meter (ps.getD k default).rev (ps.getD k default).body = (k : Int))
def mayO (ps : List APair) : Bool := decide (ps.length ≤ 500) && (List.range ps.length).all (goodAt ps)
theorem mayO_no {ps : List APair} {k : Nat} (hk : k < ps.length) (h : goodAt ps k = false) : mayO ps = false := by
  rw [mayO, Bool.and_eq_false_iff]
  refine .inr (List.all_eq_false.2 ⟨k, List.mem_range.2 hk, by rw [h]; simp⟩)
theorem mayO_yes {ps : List APair} (h5 : ps.length ≤ 500) (h : ∀ k, k < ps.length → goodAt ps k = true) : mayO ps = true := by
  rw [mayO, Bool.and_eq_true, decide_eq_true_eq]
  exact ⟨h5, List.all_eq_true.2 fun k hk => h k (List.mem_range.1 hk)⟩
theorem PairMay_any (p : APair) (w : World) : Calls Tryz.prog 46 #[.agg #[I p.meter, I p.rev, I p.body, I p.tag]] w (Grew (.bool (pairMay p)) w) := by
  have hP : pairMay p = (inB p.meter 0 49 && (inB p.rev 0 15 && (inB p.body 0 8796093022207 && inB p.tag 0 65535))) := rfl
  obtain ⟨a, b, c, d⟩ := p
  simp only at hP ⊢
  rw [hP]
  have kb := boxed_below w (.cells #[I a, I b, I c, I d] 55)
  cases h1 : inB a 0 49
  · go_enter Tryz.func46, Tryz.ntmps46
    go_wp2_with (go_at_call 84; refine (In_any _ _ _ _).mono ?_; rintro e w' ⟨rfl, rfl⟩)
    go_ret
    exact ⟨by simp, kb⟩
  cases h2 : inB b 0 15
  · go_enter Tryz.func46, Tryz.ntmps46
    go_wp2_with (go_at_call 84; refine (In_any _ _ _ _).mono ?_; rintro e w' ⟨rfl, rfl⟩)
    go_ret
    exact ⟨by simp, kb⟩
  cases h3 : inB c 0 8796093022207
  · go_enter Tryz.func46, Tryz.ntmps46
    go_wp2_with (go_at_call 84; refine (In_any _ _ _ _).mono ?_; rintro e w' ⟨rfl, rfl⟩)
    go_ret
    exact ⟨by simp, kb⟩
  · go_enter Tryz.func46, Tryz.ntmps46
    go_wp2_with (go_at_call 84; refine (In_any _ _ _ _).mono ?_; rintro e w' ⟨rfl, rfl⟩)
    go_ret
    exact ⟨by simp, kb⟩
set_option maxHeartbeats 2000000 in
theorem tagged_any (v : Value) (ps : List APair) (x y z : Int) (w : World) (h : Sl w v 4 ps.length (ps.flatMap APair.cells)) :
    Calls Tryz.prog 47 #[.agg #[v], I x, I y, I z] w (Grew (I (tagI ps x y z)) w) := by
  obtain ⟨a, cap, rfl, hn, hl, -, h⟩ := h
  have ob := Own.new (w := w) rfl [.slice a ps.length cap] 25
  have kb := boxed_below w (.cells #[.slice a ps.length cap] 25)
  clear hl
  go_enter Tryz.func47, Tryz.ntmps47
  go_wp2
  go_loopw [9] (fun i wr => ∃ k : Nat, k ≤ ps.length ∧ i = I k ∧ Hid (∀ j, j < k → keyIs x y z (ps.getD j default) = false) ∧ Hid (Own wr w.heap.size [.slice a ps.length cap]) ∧ Below w.heap.size w wr) (fun i _ => ps.length - (intOf i).toNat)
  case atStart => exact ⟨0, Nat.zero_le _, rfl, (fun j hj => by omega), ob, kb⟩
  case round =>
    obtain ⟨k, hk, rfl, hno, hO, hbw⟩ := hrel
    have hsz := hbw.size
    have oO := hO.out
    have o0 := oO.cell 0 (by simp)
    have of0 := oO.frozen 0
    simp only [Nat.zero_add, List.getD_cons_zero] at o0
    clear oO
    by_cases hlt : k < ps.length
    · obtain ⟨b, off, rfl, hb, hc⟩ := h.resolve_left (by omega)
      obtain ⟨e0, e1, e2, e3⟩ := elPair hb hc hbw k hlt
      have hi0 : (0 : Int) ≤ (k : Int) := by omega
      have hi1 : (k : Int) < (ps.length : Int) := by omega
      have hat := Lib.hid (fun h1 => tagI_at hlt hno.out h1)
      have hst := Lib.hid (show keyIs x y z (ps.getD k default) = false → ∀ j, j < k + 1 → keyIs x y z (ps.getD j default) = false from fun h1 j hj => by
        rcases Nat.lt_or_ge j k with hj' | hj'
        · exact hno.out j hj'
        · rw [show j = k by omega]; exact h1)
      have hO' := fun c => Lib.hid (hO.out.alloc (.cells c 55))
      have hkd := Lib.hid (show keyIs x y z (ps.getD k default) = (decide ((ps.getD k default).meter = x) && (decide ((ps.getD k default).rev = y) && decide ((ps.getD k default).body = z))) from rfl)
      have hkk := fun c => hbw.alloc hsz (.cells c 55)
      have HK := Lib.hid (And.intro hO' hkk)
      clear h hc hno hO hO' hkk ob kb
      generalize ps.getD k default = p at *
      obtain ⟨p1, p2, p3, p4⟩ := p
      simp only at e0 e1 e2 e3
      by_cases q1 : p1 = x
      · by_cases q2 : p2 = y
        · by_cases q3 : p3 = z
          · have hr := hat.out (by rw [hkd.out]; simp [q1, q2, q3])
            have HR := Lib.hid hr
            clear hr hat hst hkd
            go_wp2
            go_ret
            exact Grew.intro (eI HR.out.symm) (HK.out.2 _)
          · have hr := hst.out (by rw [hkd.out]; simp [q1, q2, q3])
            have HR := Lib.hid hr
            clear hr hat hst hkd
            go_wp2
            exact ⟨⟨k + 1, by omega, by go_num, HR, HK.out.1 _, HK.out.2 _⟩, by simp [intOf]; omega⟩
        · have hr := hst.out (by rw [hkd.out]; simp [q1, q2])
          have HR := Lib.hid hr
          clear hr hat hst hkd
          go_wp2
          exact ⟨⟨k + 1, by omega, by go_num, HR, HK.out.1 _, HK.out.2 _⟩, by simp [intOf]; omega⟩
      · have hr := hst.out (by rw [hkd.out]; simp [q1])
        have HR := Lib.hid hr
        clear hr hat hst hkd
        go_wp2
        exact ⟨⟨k + 1, by omega, by go_num, HR, HK.out.1 _, HK.out.2 _⟩, by simp [intOf]; omega⟩
    · have hr := tagI_no (x := x) (y := y) (z := z) (ps := ps) (fun j hj => hno.out j (by omega))
      have HR := Lib.hid hr
      have hge : (ps.length : Int) ≤ (k : Int) := by omega
      clear hr hno h ob kb
      go_wp2
      go_ret
      exact Grew.intro (eI HR.out.symm) hbw
set_option maxHeartbeats 2000000 in
theorem OracleMay_any (v : Value) (ps : List APair) (w : World) (h : Sl w v 4 ps.length (ps.flatMap APair.cells)) :
    Calls Tryz.prog 17 #[.agg #[v]] w (Grew (.bool (mayO ps)) w) := by
  have hS := h
  obtain ⟨a, cap, rfl, hn, hl, -, h⟩ := h
  have ob := Own.new (w := w) rfl [.slice a ps.length cap] 25
  have kb := boxed_below w (.cells #[.slice a ps.length cap] 25)
  clear hl
  by_cases h5 : 500 < ps.length
  · have hM : mayO ps = false := by rw [mayO, Bool.and_eq_false_iff]; exact .inl (by simp; omega)
    have h5' : (500 : Int) < (ps.length : Int) := by omega
    rw [hM]
    clear hM h5
    go_enter Tryz.func17, Tryz.ntmps17
    go_wp2
    go_ret
    exact ⟨by simp, kb⟩
  · have h5' : ¬ (500 : Int) < (ps.length : Int) := by omega
    have HM := Lib.hid (And.intro (fun k hk hg => mayO_no (ps := ps) (k := k) hk hg) (fun hg => mayO_yes (ps := ps) (by omega) hg))
    have P := Lib.hid (fun p W => PairMay_any p W)
    have T := Lib.hid (fun x y z W hW => tagged_any (.slice a ps.length cap) ps x y z W hW)
    clear h5
    go_enter Tryz.func17, Tryz.ntmps17
    go_wp2
    go_loopw [3] (fun i wr => ∃ k : Nat, k ≤ ps.length ∧ i = I k ∧ Hid (∀ j, j < k → goodAt ps j = true) ∧ Hid (Own wr w.heap.size [.slice a ps.length cap]) ∧ Below w.heap.size w wr) (fun i _ => ps.length - (intOf i).toNat)
    case atStart => exact ⟨0, Nat.zero_le _, rfl, (fun j hj => by omega), ob, kb⟩
    case round =>
      obtain ⟨k, hk, rfl, hgd, hO, hbw⟩ := hrel
      have hsz := hbw.size
      have oO := hO.out
      have o0 := oO.cell 0 (by simp)
      have of0 := oO.frozen 0
      simp only [Nat.zero_add, List.getD_cons_zero] at o0
      clear oO
      by_cases hlt : k < ps.length
      · obtain ⟨b, off, rfl, hb, hc⟩ := h.resolve_left (by omega)
        obtain ⟨e0, e1, e2, e3⟩ := elPair hb hc hbw k hlt
        have hi0 : (0 : Int) ≤ (k : Int) := by omega
        have hi1 : (k : Int) < (ps.length : Int) := by omega
        have hG := Lib.hid (show goodAt ps k = (pairMay (ps.getD k default) && decide (tagI ps (ps.getD k default).meter (ps.getD k default).rev (ps.getD k default).body = (k : Int))) from rfl)
        have hno := Lib.hid (fun hg => HM.out.1 k hlt hg)
        have hst := Lib.hid (show goodAt ps k = true → ∀ j, j < k + 1 → goodAt ps j = true from fun h1 j hj => by
          rcases Nat.lt_or_ge j k with hj' | hj'
          · exact hgd.out j hj'
          · rw [show j = k by omega]; exact h1)
        generalize goodAt ps k = gd at *
        generalize ps.getD k default = p at *
        have PP := Lib.hid (fun W => P.out p W)
        generalize pairMay p = pm at *
        have TT := Lib.hid (fun W hW => T.out p.meter p.rev p.body W hW)
        generalize tagI ps p.meter p.rev p.body = ti at *
        obtain ⟨p1, p2, p3, p4⟩ := p
        simp only at PP TT e0 e1 e2 e3
        have kA := hbw.alloc hsz (.cells #[I p1, I p2, I p3, I p4] 55)
        have oA := hO.out.alloc (.cells #[I p1, I p2, I p3, I p4] 55)
        have op := Own.new (w := wr) rfl [I p1, I p2, I p3, I p4] 55
        clear hgd hO h hc P T HM ob kb
        go_wp2_with fail
        refine (PP.out _).mono ?_
        rintro e w1 ⟨rfl, k1⟩
        have k2 := kA.trans (k1.mono kA.size)
        have oB := oA.below k1
        have ppO := op.below k1
        have pp0 := ppO.cell 0 (by simp)
        have ppf0 := ppO.frozen 0
        have pp1 := ppO.cell 1 (by simp)
        have ppf1 := ppO.frozen 1
        have pp2 := ppO.cell 2 (by simp)
        have ppf2 := ppO.frozen 2
        have pp3 := ppO.cell 3 (by simp)
        have ppf3 := ppO.frozen 3
        simp only [Nat.zero_add, List.getD_cons_zero, List.getD_cons_succ] at pp0 pp1 pp2 pp3
        clear ppO
        have ooO := oB
        have oo0 := ooO.cell 0 (by simp)
        have oof0 := ooO.frozen 0
        simp only [Nat.zero_add, List.getD_cons_zero] at oo0
        clear ooO
        have hs1 : wr.heap.size < w1.heap.size := by have := k1.size; simp at this; omega
        clear k1 kA oA op o0 of0 e0 e1 e2 e3
        cases pm
        · have hr := hno.out (by rw [hG.out]; rfl)
          have HR := Lib.hid hr
          clear hr hG hst hno
          go_wp2
          go_ret
          exact Grew.intro (eB HR.out.symm) k2
        · have hS1 := hS.below k2
          by_cases hti : ti = (k : Int)
          · have hr := hst.out (by rw [hG.out, hti]; simp)
            have HR := Lib.hid hr
            clear hr hG hst hno
            subst hti
            go_wp2_with fail
            refine (TT.out _ hS1).mono ?_
            rintro e w3 ⟨rfl, k3⟩
            have k4 := k2.trans (k3.mono k2.size)
            have HO := Lib.hid (oB.below k3)
            have poO := oB.below k3
            have po0 := poO.cell 0 (by simp)
            have pof0 := poO.frozen 0
            simp only [Nat.zero_add, List.getD_cons_zero] at po0
            clear poO
            clear pp0 pp1 pp2 pp3 ppf0 ppf1 ppf2 ppf3 oo0 oof0 k3 oB
            go_wp2
            exact ⟨⟨k + 1, by omega, by go_num, HR, HO, k4⟩, by simp [intOf]; omega⟩
          · have hr := hno.out (by rw [hG.out]; simp [hti])
            have HR := Lib.hid hr
            clear hr hG hst hno
            have hb1 : (ti != (k : Int)) = true := by simp [hti]
            go_wp2_with fail
            refine (TT.out _ hS1).mono ?_
            rintro e w3 ⟨rfl, k3⟩
            go_wp2
            go_ret
            exact Grew.intro (eB HR.out.symm) (k2.trans (k3.mono k2.size))
      · have hr := HM.out.2 (fun j hj => hgd.out j (by omega))
        have HR := Lib.hid hr
        have hge : (ps.length : Int) ≤ (k : Int) := by omega
        clear hr hgd HM h ob kb P T
        go_wp2
        go_ret
        exact Grew.intro (eB HR.out.symm) hbw
end Go.Proofs.YtmciccnmpoijdaaGreatDoor
