/- the oracle: what was tagged, as a map; may it be? -/
import Derived.Test.YtmciccnmpoijdaaGreatDoorOracleRef
namespace Go.Proofs.YtmciccnmpoijdaaGreatDoor
open Go Go.RowKit
set_option maxRecDepth 20000

def whatMay (a b c : Int) : Bool := inB a 0 49 && (inB b 0 15 && inB c 0 8796093022207)
theorem of_any (p : APair) (w : World) : Calls Tryz.prog 99 #[.agg #[I p.meter, I p.rev, I p.body, I p.tag]] w (Grew (whatV p.meter p.rev p.body) w) := by
  obtain ⟨a, b, c, d⟩ := p
  simp only
  go_enter Tryz.func99, Tryz.ntmps99
  go_wp2
  exact bodyPost_ret (v := whatV a b c) (by simp [results, Tryz.results99, go_sem]) rfl (Grew.intro rfl (by repeat first | exact Below.refl _ _ | assumption | refine drewN_below ?_ _ | refine Below.alloc ?_ (by first | exact Nat.le_refl _ | exact Below.size (by assumption) | (simp; done) | (simp; omega) | omega) _ | refine Below.setCell ?_ (by first | exact Nat.le_refl _ | (simp; done) | (simp; omega) | omega) _))
theorem wmay_any (a b c : Int) (w : World) : Calls Tryz.prog 100 #[whatV a b c] w (Grew (.bool (whatMay a b c)) w) := by
  go_enter Tryz.func100, Tryz.ntmps100
  go_wp2
  all_goals
    go_ret
    refine Grew.intro ?_ (by repeat first | exact Below.refl _ _ | assumption | refine drewN_below ?_ _ | refine Below.alloc ?_ (by first | exact Nat.le_refl _ | exact Below.size (by assumption) | (simp; done) | (simp; omega) | omega) _ | refine Below.setCell ?_ (by first | exact Nat.le_refl _ | (simp; done) | (simp; omega) | omega) _)
    simp only [whatMay, inB]
    simp [*]
    try omega
theorem tagI_ne {ps : List APair} {x y z : Int} {j k : Nat} (hj : j < k) (hk : k < ps.length) (h : keyIs x y z (ps.getD j default) = true) : tagI ps x y z ≠ (k : Int) := by
  intro he
  unfold tagI at he
  split at he
  · rename_i i hi
    obtain ⟨hi0, hi1, hi2⟩ := List.findIdx?_eq_some_iff_getElem.1 hi
    have hik : i = k := by omega
    have := hi2 j (by omega)
    rw [List.getD_eq_getElem?_getD, List.getElem?_eq_getElem (by omega)] at h
    simp at h
    rw [h] at this
    simp at this
  · omega
theorem take_has {ps : List APair} {x y z : Int} {k : Nat} (hk : k ≤ ps.length) (h : hasKey (ps.take k) x y z = true) : ∃ j, j < k ∧ keyIs x y z (ps.getD j default) = true := by
  obtain ⟨p, hp, hh⟩ := List.any_eq_true.1 h
  obtain ⟨j, hj, rfl⟩ := List.getElem_of_mem hp
  rw [List.length_take] at hj
  refine ⟨j, by omega, ?_⟩
  rw [List.getElem_take] at hh
  rw [List.getD_eq_getElem?_getD, List.getElem?_eq_getElem (by omega)]
  exact hh
theorem take_not {ps : List APair} {x y z : Int} {k : Nat} (hk : k ≤ ps.length) (h : hasKey (ps.take k) x y z = false) : ∀ j, j < k → keyIs x y z (ps.getD j default) = false := by
  intro j hj
  rw [hasKey, List.any_eq_false] at h
  have := h (ps.getD j default) (by
    rw [List.getD_eq_getElem?_getD, List.getElem?_eq_getElem (by omega)]
    refine List.mem_of_getElem? (i := j) ?_
    rw [List.getElem?_take, if_pos hj, List.getElem?_eq_getElem (by omega)]; rfl)
  simpa using this
theorem pairMay_split (p : APair) : pairMay p = (whatMay p.meter p.rev p.body && inB p.tag 0 65535) := by
  simp only [pairMay, whatMay, Bool.and_assoc]
theorem good_twice {ps : List APair} {k : Nat} (hk : k < ps.length) (h : hasKey (ps.take k) (ps.getD k default).meter (ps.getD k default).rev (ps.getD k default).body = true) : goodAt ps k = false := by
  obtain ⟨j, hj, hh⟩ := take_has (by omega) h
  rw [goodAt, Bool.and_eq_false_iff]
  exact .inr (decide_eq_false (tagI_ne hj hk hh))
theorem good_once {ps : List APair} {k : Nat} (hk : k < ps.length) (h : hasKey (ps.take k) (ps.getD k default).meter (ps.getD k default).rev (ps.getD k default).body = false) : goodAt ps k = pairMay (ps.getD k default) := by
  rw [goodAt, tagI_at hk (take_not (by omega) h) (keyIs_true.2 ⟨rfl, rfl, rfl⟩)]
  simp
def GrewKnown (ps : List APair) (w : World) (e : Ending) (w' : World) : Prop :=
  (mayO ps = true ∧ ∃ b, e = .returned (T2 (.map (some b)) (.bool true)) ∧ w.heap.size ≤ b ∧ OwnMap w' b ps ∧ Below w.heap.size w w') ∨ (mayO ps = false ∧ e = .returned (T2 (.map none) (.bool false)) ∧ Below w.heap.size w w')
theorem OwnMap.alloc {w : World} {b : Nat} {ps : List APair} (h : OwnMap w b ps) (o : Obj) : OwnMap (w.alloc o) b ps := h.below (boxed_below w o)
set_option maxRecDepth 100000 in
set_option maxHeartbeats 4000000 in
theorem known_any (v : Value) (ps : List APair) (w : World) (h : Sl w v 4 ps.length (ps.flatMap APair.cells)) (hw : ∀ p ∈ ps, p.wf) :
    Calls Tryz.prog 67 #[.agg #[v]] w (GrewKnown ps w) := by
  obtain ⟨a, cap, rfl, hn, hl, -, h⟩ := h
  have kb := boxed_below w (.cells #[.slice a ps.length cap] 25)
  clear hl
  by_cases h5 : 500 < ps.length
  · have hM : mayO ps = false := by rw [mayO, Bool.and_eq_false_iff]; exact .inl (by simp; omega)
    have h5' : (500 : Int) < (ps.length : Int) := by omega
    clear h5
    go_enter Tryz.func67, Tryz.ntmps67
    go_wp2
    go_ret2
    exact .inr ⟨hM, rfl, kb⟩
  · have h5' : ¬ (500 : Int) < (ps.length : Int) := by omega
    have HM := Lib.hid (And.intro (fun k hk hg => mayO_no (ps := ps) (k := k) hk hg) (fun hg => mayO_yes (ps := ps) (by omega) hg))
    have hmm := @run_makeMap Tryz.prog
    have om := OwnMap.new (w.alloc (.cells #[.slice a ps.length cap] 25))
    rw [World.size_alloc] at om
    have km := kb.alloc (by simp) (.map #[] 0)
    clear h5
    go_enter Tryz.func67, Tryz.ntmps67
    go_wp2
    go_loopw [18] (fun i wr => ∃ k : Nat, k ≤ ps.length ∧ i = I k ∧ Hid (OwnMap wr (w.heap.size + 1) (ps.take k)) ∧ Hid (∀ j, j < k → goodAt ps j = true) ∧ Below w.heap.size w wr) (fun i _ => ps.length - (intOf i).toNat)
    case atStart => exact ⟨0, Nat.zero_le _, rfl, om, (fun j hj => by omega), km⟩
    case round =>
      obtain ⟨k, hk, rfl, hO, hgd, hbw⟩ := hrel
      clear hmm om km kb
      have hsz := hbw.size
      by_cases hlt : k < ps.length
      · obtain ⟨b, off, rfl, hb, hc⟩ := h.resolve_left (by omega)
        obtain ⟨e0, e1, e2, e3⟩ := elPair hb hc hbw k hlt
        have hi0 : (0 : Int) ≤ (k : Int) := by omega
        have hi1 : (k : Int) < (ps.length : Int) := by omega
        have hwf : (ps.getD k default).wf := hw _ (by rw [List.getD_eq_getElem?_getD, List.getElem?_eq_getElem hlt]; exact List.getElem_mem hlt)
        have hno := Lib.hid (fun hg => HM.out.1 k hlt hg)
        have hst := Lib.hid (show goodAt ps k = true → ∀ j, j < k + 1 → goodAt ps j = true from fun h1 j hj => by
          rcases Nat.lt_or_ge j k with hj' | hj'
          · exact hgd.out j hj'
          · rw [show j = k by omega]; exact h1)
        have htk := Lib.hid (show ps.take (k + 1) = ps.take k ++ [ps.getD k default] by
          rw [List.take_add_one, List.getElem?_eq_getElem hlt, List.getD_eq_getElem?_getD, List.getElem?_eq_getElem hlt]; rfl)
        have hg1 := Lib.hid (good_twice (ps := ps) hlt)
        have hg2 := Lib.hid (good_once (ps := ps) hlt)
        generalize ps.getD k default = p at *
        generalize ps.take k = tk at *
        generalize goodAt ps k = gd at *
        have hps := Lib.hid (pairMay_split p)
        have OF := Lib.hid (fun W => of_any p W)
        have HW := Lib.hid hwf
        obtain ⟨p1, p2, p3, p4⟩ := p
        simp only at OF e0 e1 e2 e3 hps hg1 hg2 htk
        have MAY := Lib.hid (fun W => wmay_any p1 p2 p3 W)
        have kA := hbw.alloc hsz (.cells #[I p1, I p2, I p3, I p4] 55)
        have op := Own.new (w := wr) rfl [I p1, I p2, I p3, I p4] 55
        have oM := hO.out.alloc (.cells #[I p1, I p2, I p3, I p4] 55)
        clear hgd hO h hc HM hwf
        go_wp2_with fail
        refine (OF.out _).mono ?_
        rintro e w1 ⟨rfl, k1⟩
        have oM1 := oM.below k1
        have k2 := kA.trans (k1.mono kA.size)
        have hs1 : wr.heap.size < w1.heap.size := by have := k1.size; simp at this; omega
        have kB := boxed_below w1 (.cells #[I p1, I p2, I p3] 146)
        have oM2 := oM1.below kB
        have k3 := k2.trans (kB.mono k2.size)
        have opp := (op.below k1).below kB
        have oww := Own.new (w := w1) rfl [I p1, I p2, I p3] 146
        have ppO := opp
        have pp0 := ppO.cell 0 (by simp)
        have ppf0 := ppO.frozen 0
        have pp1 := ppO.cell 1 (by simp)
        have ppf1 := ppO.frozen 1
        have pp2 := ppO.cell 2 (by simp)
        have ppf2 := ppO.frozen 2
        have pp3 := ppO.cell 3 (by simp)
        have ppf3 := ppO.frozen 3
        simp only [Nat.zero_add, List.getD_cons_zero, List.getD_cons_succ] at pp0 pp1 pp2 pp3
        clear ppO
        have wwO := oww
        have ww0 := wwO.cell 0 (by simp)
        have wwf0 := wwO.frozen 0
        have ww1 := wwO.cell 1 (by simp)
        have wwf1 := wwO.frozen 1
        have ww2 := wwO.cell 2 (by simp)
        have wwf2 := wwO.frozen 2
        simp only [Nat.zero_add, List.getD_cons_zero, List.getD_cons_succ] at ww0 ww1 ww2
        clear wwO
        have hL := run_look oM2 HW.out.1 HW.out.2.1 HW.out.2.2.1
        clear k1 kA op oM oM1 kB k2 e0 e1 e2 e3
        simp only at hL
        have hg1' := Lib.hid (hg1.out)
        have HP := Lib.hid (fun W (hM : OwnMap W (w.heap.size + 1) tk) hh => run_put hM (p := ⟨p1, p2, p3, p4⟩) HW.out hh)
        have hg2' := Lib.hid (hg2.out)
        generalize hasKey tk p1 p2 p3 = tw at *
        generalize tagOf tk p1 p2 p3 = tg at *
        have hgood := Lib.hid (fun (e1 : tw = false) (e2 : whatMay p1 p2 p3 = true) (e3 : inB p4 0 65535 = true) => show gd = true by rw [hg2.out e1, hps.out, e2, e3]; rfl)
        have hbad1 := Lib.hid (fun (e1 : tw = false) (e2 : whatMay p1 p2 p3 = false) => hno.out (show gd = false by rw [hg2.out e1, hps.out, e2]; rfl))
        have hbad2 := Lib.hid (fun (e1 : tw = false) (e3 : inB p4 0 65535 = false) => hno.out (show gd = false by rw [hg2.out e1, hps.out, e3, Bool.and_false]))
        have hbad0 := Lib.hid (fun (e1 : tw = true) => hno.out (hg1.out e1))
        clear hg1 hg2 hg1' hg2' hps hno OF
        generalize whatMay p1 p2 p3 = wm at *
        cases tw
        · go_wp2_with fail
          refine (MAY.out _).mono ?_
          rintro e w3 ⟨rfl, k4⟩
          have oM3 := oM2.below k4
          have k5 := k3.trans (k4.mono k3.size)
          clear hL pp0 pp1 pp2 pp3 ppf0 ppf1 ppf2 ppf3 ww0 ww1 ww2 wwf0 wwf1 wwf2
          have ppO := opp.below k4
          have pp0 := ppO.cell 0 (by simp)
          have ppf0 := ppO.frozen 0
          have pp1 := ppO.cell 1 (by simp)
          have ppf1 := ppO.frozen 1
          have pp2 := ppO.cell 2 (by simp)
          have ppf2 := ppO.frozen 2
          have pp3 := ppO.cell 3 (by simp)
          have ppf3 := ppO.frozen 3
          simp only [Nat.zero_add, List.getD_cons_zero, List.getD_cons_succ] at pp0 pp1 pp2 pp3
          clear ppO
          have wwO := oww.below k4
          have ww0 := wwO.cell 0 (by simp)
          have wwf0 := wwO.frozen 0
          have ww1 := wwO.cell 1 (by simp)
          have wwf1 := wwO.frozen 1
          have ww2 := wwO.cell 2 (by simp)
          have wwf2 := wwO.frozen 2
          simp only [Nat.zero_add, List.getD_cons_zero, List.getD_cons_succ] at ww0 ww1 ww2
          clear wwO
          clear opp oww k4 k3 oM2 MAY
          cases wm
          · have HR := Lib.hid (hbad1.out (by first | rfl | trivial) (by first | rfl | trivial))
            clear hgood hbad1 hbad2 hbad0 HP
            go_wp2
            go_ret2
            exact .inr ⟨HR.out, rfl, k5⟩
          · cases ht : inB p4 0 65535
            · have HR := Lib.hid (hbad2.out (by first | rfl | trivial) ht)
              have hn := inB_false.1 ht
              clear hgood hbad1 hbad2 hbad0 HP ht
              by_cases hneg : p4 < 0
              · clear hn
                go_wp2
                go_ret2
                exact .inr ⟨HR.out, rfl, k5⟩
              · have hbig : 65535 < p4 := by omega
                clear hn
                go_wp2
                go_ret2
                exact .inr ⟨HR.out, rfl, k5⟩
            · obtain ⟨h0, h1⟩ := inB_true.1 ht
              have hneg : ¬ p4 < 0 := by omega
              have hbig : ¬ 65535 < p4 := by omega
              have HR := Lib.hid (hst.out (hgood.out (by first | rfl | trivial) (by first | rfl | trivial) ht))
              obtain ⟨w4, hU, hM4, hB4⟩ := HP.out w3 oM3 (by first | rfl | trivial)
              have HM4 := Lib.hid (show OwnMap w4 (w.heap.size + 1) (ps.take (k + 1)) by rw [htk.out]; exact hM4)
              have k6 := hB4 _ _ k5 (Nat.le_succ _)
              clear hgood hbad1 hbad2 hbad0 HP ht oM3 hM4 hB4 hst htk h0 h1 k5
              go_wp2
              exact ⟨⟨k + 1, by omega, by go_num, HM4, HR, k6⟩, by simp [intOf]; omega⟩
        · have HR := Lib.hid (hbad0.out (by first | rfl | trivial))
          clear hgood hbad1 hbad2 hbad0 HP opp oww
          go_wp2
          go_ret2
          exact .inr ⟨HR.out, rfl, k3⟩
      · have hr := HM.out.2 (fun j hj => hgd.out j (by omega))
        have hge : (ps.length : Int) ≤ (k : Int) := by omega
        have hkk : k = ps.length := by omega
        have hO' := hO.out
        rw [hkk, List.take_length] at hO'
        have HH := Lib.hid (And.intro hr hO')
        clear hr hO' hO hgd HM h hkk
        go_wp2
        go_ret2
        exact .inl ⟨HH.out.1, _, rfl, Nat.le_succ _, HH.out.2, hbw⟩
theorem May_any (v : Value) (ps : List APair) (w : World) (h : Sl w v 4 ps.length (ps.flatMap APair.cells)) (hw : ∀ p ∈ ps, p.wf) :
    Calls Tryz.prog 29 #[.agg #[v]] w (Grew (.bool (mayO ps)) w) := by
  obtain ⟨a, cap, rfl, -⟩ := id h
  have kb := boxed_below w (.cells #[.slice a ps.length cap] 25)
  have K := Lib.hid (known_any _ ps _ (h.below kb) hw)
  go_enter Tryz.func29, Tryz.ntmps29
  go_wp2_with fail
  refine K.out.mono ?_
  rintro e w1 (⟨hm, b, rfl, hb, hM, k1⟩ | ⟨hm, rfl, k1⟩)
  · have k := kb.trans (k1.mono kb.size)
    have HM := Lib.hid hm
    clear hm kb k1 hM hb K
    go_wp2
    go_ret
    exact Grew.intro (eB HM.out.symm) k
  · have k := kb.trans (k1.mono kb.size)
    have HM := Lib.hid hm
    clear hm kb k1 K
    go_wp2
    go_ret
    exact Grew.intro (eB HM.out.symm) k
def verO (ps : List APair) (x y z t : Int) : Bool := mayO ps && (hasKey ps x y z && decide (tagOf ps x y z = t))
set_option maxHeartbeats 2000000 in
theorem Verify_any (v : Value) (ps : List APair) (x y z t : Int) (w : World) (h : Sl w v 4 ps.length (ps.flatMap APair.cells)) (hw : ∀ p ∈ ps, p.wf) (hx : I64 x) (hy : I64 y) (hz : I64 z) :
    Calls Tryz.prog 68 #[.agg #[v], I x, I y, I z, I t] w (Grew (.bool (verO ps x y z t)) w) := by
  have HV := Lib.hid (show verO ps x y z t = (mayO ps && (hasKey ps x y z && decide (tagOf ps x y z = t))) from rfl)
  obtain ⟨a, cap, rfl, -⟩ := id h
  have kb := boxed_below w (.cells #[.slice a ps.length cap] 25)
  have K := Lib.hid (known_any _ ps _ (h.below kb) hw)
  have HX := Lib.hid (And.intro hx (And.intro hy hz))
  clear hx hy hz
  go_enter Tryz.func68, Tryz.ntmps68
  go_wp2_with fail
  refine K.out.mono ?_
  rintro e w1 (⟨hm, b, rfl, hb, hM, k1⟩ | ⟨hm, rfl, k1⟩)
  · have k := kb.trans (k1.mono kb.size)
    have hL := run_look hM HX.out.1 HX.out.2.1 HX.out.2.2
    have HM := Lib.hid (HV.out.trans (by rw [hm, Bool.true_and]))
    clear hm kb k1 hM hb K HV
    cases hh : hasKey ps x y z
    · rw [hh] at hL
      have HR := Lib.hid (HM.out.trans (by rw [hh, Bool.false_and]))
      clear HM hh
      generalize tagOf ps x y z = g at *
      go_wp2
      go_ret
      exact Grew.intro (eB HR.out.symm) k
    · rw [hh] at hL
      have HR := Lib.hid (HM.out.trans (by rw [hh, Bool.true_and]))
      clear HM hh
      generalize tagOf ps x y z = g at *
      go_wp2
      go_ret
      refine Grew.intro ?_ k
      rw [HR.out]
      by_cases hgt : g = t
      · simp [hgt]
      · simp [hgt]
  · have k := kb.trans (k1.mono kb.size)
    have HR := Lib.hid (HV.out.trans (by rw [hm, Bool.false_and]))
    clear hm kb k1 K HV
    go_wp2
    go_ret
    exact Grew.intro (eB HR.out.symm) k
theorem tagI_cases (ps : List APair) (x y z : Int) : (tagI ps x y z = -1 ∧ hasKey ps x y z = false) ∨ ∃ k : Nat, k < ps.length ∧ tagI ps x y z = (k : Int) ∧ hasKey ps x y z = true ∧ tagOf ps x y z = (ps.getD k default).tag := by
  cases hi : ps.findIdx? (keyIs x y z) with
  | none =>
    refine .inl ⟨by rw [tagI, hi], ?_⟩
    rw [hasKey, List.any_eq_false]
    intro p hp
    have := List.findIdx?_eq_none_iff.1 hi p hp
    simp [this]
  | some k =>
    obtain ⟨hk, h1, h2⟩ := List.findIdx?_eq_some_iff_getElem.1 hi
    have hf : ps.find? (keyIs x y z) = some ps[k] := by
      rw [List.find?_eq_some_iff_getElem]
      exact ⟨h1, k, hk, rfl, fun j hj => by simpa using h2 j hj⟩
    refine .inr ⟨k, hk, by rw [tagI, hi], List.any_eq_true.2 ⟨_, List.getElem_mem hk, h1⟩, ?_⟩
    rw [tagOf, hf, List.getD_eq_getElem?_getD, List.getElem?_eq_getElem hk]
    rfl
end Go.Proofs.YtmciccnmpoijdaaGreatDoor
