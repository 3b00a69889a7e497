/- ref.WindowMay, ref.Judged, ref.UsedOf -/
import Derived.Test.YtiiielccimchgaaDoorMembers
import Derived.Test.YtiiielccimchgaaDoorApi
namespace Go.Proofs.YtiiielccimchgaaDoor
open Go.RowKit
set_option maxRecDepth 20000

theorem beq_cast (b : Nat) : ((b : Int) == 0) = (b == 0) := by
  by_cases h : b = 0
  · subst h; rfl
  · rw [beq_eq_false_iff_ne.2 h, beq_eq_false_iff_ne.2 (by omega)]
theorem last_getD (L : List Int) (m : Nat) (h : L.length = m + 1) : L.getD m 0 = L.getLastD 0 := by
  rw [List.getLastD_eq_getLast?, List.getLast?_eq_getElem?, h, List.getD_eq_getElem?_getD]; rfl
theorem mayW_ref {h : Int} {b : Nat} (hb : b < 18446744073709551616) (h1 : 1 ≤ h) (h2 : h ≤ 1048575) (hb0 : b ≠ 0) : mayW h b = (decide (1 ≤ (memb h b 64).getD 0 0) && (memb h b 64).getLastD 0 == h) := by
  obtain ⟨t1, t2, t3, t4⟩ := bl_bd hb hb0
  have hh := memb_head h hb hb0
  have hne : memb h b 64 ≠ [] := by rw [memb_top h hb hb0]; simp
  have hl := memb_last h b 64 hne
  have e1 : (decide (1 ≤ (memb h b 64).getD 0 0)) = decide ((bl b : Int) ≤ min h 64) := by
    rw [hh]; apply decide_eq_decide.2; omega
  have e2 : ((memb h b 64).getLastD 0 == h) = (b % 2 == 1) := by
    cases hc : (b % 2 == 1)
    · rw [beq_eq_false_iff_ne] at hc ⊢
      exact fun hh => hc (hl.1 hh)
    · rw [beq_iff_eq] at hc ⊢
      exact hl.2 hc
  unfold mayW
  rw [if_neg (by omega), e1, e2]
  simp [h2, Bool.and_comm]

set_option maxHeartbeats 1000000 in
theorem WindowMay_any (h : Int) (b : Nat) (w : World) (hb : b < 18446744073709551616) : Calls Tryd.prog 29 #[WinV h b] w (Grew (.bool (mayW h b)) w) := by
  by_cases h0 : h = 0
  · have e1 : mayW h b = (b == 0) := by simp [mayW, h0]
    rw [e1]
    subst h0
    clear e1
    go_enter Tryd.func29, Tryd.ntmps29
    go_wp2
    all_goals
      go_ret
      exact Grew.intro (eB (beq_cast b)) (by repeat first | exact Below.refl _ _ | assumption | refine drewN_below ?_ _ | refine Below.alloc ?_ (by first | exact Nat.le_refl _ | exact Below.size (by assumption) | (simp; done) | (simp; omega) | omega) _ | refine Below.setCell ?_ (by first | exact Nat.le_refl _ | (simp; done) | (simp; omega) | omega) _)
  · cases hi : inB h 1 1048575
    · have e1 : mayW h b = false := by
        rw [← Bool.not_eq_true, inB_true] at hi
        unfold mayW; split
        · simp; omega
        · simp; omega
      rw [e1]
      have h0' : (h == 0) = false := by simp [h0]
      clear e1 h0
      go_enter Tryd.func29, Tryd.ntmps29
      go_wp2_with (go_at_call 28; refine (In_any _ _ _ _).mono ?_; rintro e w' ⟨rfl, rfl⟩)
      go_ret
      exact Grew.intro rfl (by repeat first | exact Below.refl _ _ | assumption | refine drewN_below ?_ _ | refine Below.alloc ?_ (by first | exact Nat.le_refl _ | exact Below.size (by assumption) | (simp; done) | (simp; omega) | omega) _ | refine Below.setCell ?_ (by first | exact Nat.le_refl _ | (simp; done) | (simp; omega) | omega) _)
    · obtain ⟨h1, h2⟩ := inB_true.1 hi
      have R := Lib.hid (fun hb0 => mayW_ref hb h1 h2 hb0)
      have Mm := Lib.hid (fun W => members_any h b W hb (by omega) h2)
      have h0' : (h == 0) = false := by simp [h0]
      have HM := Lib.hid (show b = 0 → mayW h b = false from fun hz => by subst hz; simp [mayW]; omega)
      have k0 := boxed_below w (.cells #[I h, .int .u64 b] 24)
      have hlen64 := memb_len h b 64
      have hnil : memb h b 64 = [] → b = 0 := by
        intro hh
        refine Decidable.byContradiction fun hb0 => ?_
        rw [memb_top h hb hb0] at hh; simp at hh
      have H00 := Lib.hid (show b = 0 → memb h b 64 = [] from fun hz => by subst hz; exact memb_cut (high := h) (b := 0) (m := 0) (by decide) 64)
      generalize memb h b 64 = L at *
      cases hL : L.length with
      | zero =>
        have hLn : L = [] := List.length_eq_zero_iff.1 hL
        rw [HM.out (hnil hLn)]
        subst hLn
        clear hL hnil R HM H00 h0
        go_enter Tryd.func29, Tryd.ntmps29
        go_wp2_with (go_at_call 28; refine (In_any _ _ _ _).mono ?_; rintro e w' ⟨rfl, rfl⟩)
        refine (Mm.out _).mono ?_
        rintro e w1 ⟨v, rfl, hS, k1⟩
        obtain ⟨a, cap, rfl, hn, hl, h00, hr⟩ := hS
        obtain ⟨hc, _⟩ := bcell k1
        have k := below_box k1
        clear k1 hr h00 hl hn
        go_wp2
        go_quiet (fail)
        go_wp2
        go_ret
        exact Grew.intro rfl (drewN_below k _)
      | succ m =>
        have hb0 : b ≠ 0 := fun hz => by rw [H00.out hz] at hL; simp at hL
        rw [R.out hb0, ← last_getD L m hL]
        rw [hL] at Mm hlen64
        clear hnil R HM H00 h0
        have hL := Lib.hid hL
        have hm : m ≤ 63 := by omega
        go_enter Tryd.func29, Tryd.ntmps29
        go_wp2_with (go_at_call 28; refine (In_any _ _ _ _).mono ?_; rintro e w' ⟨rfl, rfl⟩)
        refine (Mm.out _).mono ?_
        rintro e w1 ⟨v, rfl, hS, k1⟩
        obtain ⟨a, cap, rfl, hn, hl, h00, hr⟩ := hS
        obtain ⟨p, off, rfl, hp, hcell⟩ := hr.resolve_left (by omega)
        have e0 := hcell 0 (by simp [hL.out])
        have em := hcell m (by simp [hL.out])
        rw [getD_map' _ _ (by rw [hL.out]; omega)] at e0 em
        obtain ⟨hc, _⟩ := bcell k1
        have k := below_box k1
        rw [Nat.add_zero] at e0
        have hi0 : (0 : Int) ≤ (m : Int) := by omega
        have hi1 : (m : Int) < (m : Int) + 1 := by omega
        have hi2 : (0 : Int) < (m : Int) + 1 := by omega
        clear k1 h00 hl hn hcell
        generalize L.getD 0 0 = x at *
        generalize L.getD m 0 = y at *
        by_cases hx : 1 ≤ x
        · go_wp2
          go_quiet (fail)
          go_wp2
          go_ret
          exact Grew.intro (eB (by simp [hx])) (drewN_below k _)
        · have hxd := Lib.hid hx
          have hx2 : x < 1 := by omega
          have hx3 : (1 ≤ x) = False := by simp; omega
          clear hx
          go_wp2
          go_quiet (fail)
          go_wp2
          go_ret
          exact Grew.intro (eB (by simp [hx3])) (drewN_below k _)

theorem judge_mem {h : Int} {b : Nat} {id : Int} (hm : mayW h b = true) (hi : inB id 1 1048575 = true) (h2 : ¬ 64 ≤ h - id) : judgeE h b id = if id ∈ memb h b 64 then 14 else 0 := by
  unfold judgeE
  rw [if_neg (by simp [hm]), if_neg (by simp [hi]), if_neg h2]
  by_cases hc : 0 ≤ h - id ∧ b.testBit (h - id).toNat = true
  · rw [if_pos hc, if_pos ((memb_mem 64).2 ⟨(h - id).toNat, by omega, hc.2, by omega⟩)]
  · rw [if_neg hc, if_neg ?_]
    intro hh
    obtain ⟨i, h3, h4, h5⟩ := (memb_mem 64).1 hh
    exact hc ⟨by omega, by rw [show (h - id).toNat = i by omega]; exact h4⟩

end Go.Proofs.YtiiielccimchgaaDoor
