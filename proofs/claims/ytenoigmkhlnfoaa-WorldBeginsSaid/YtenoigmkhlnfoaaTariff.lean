/- tariffs: what is wrong with one; the reference -/
import Derived.Test.YtenoigmkhlnfoaaDebt
namespace Go.Proofs.Ytenoigmkhlnfoaa
set_option linter.unusedSimpArgs false
set_option linter.unusedVariables false
open Go.RowKit
set_option maxRecDepth 20000

def okStep (d : AStep) : Bool := inB d.upto 1 10000000 && inB d.price 1 100000
theorem okStep_true {d : AStep} : okStep d = true ↔ 1 ≤ d.upto ∧ d.upto ≤ 10000000 ∧ 1 ≤ d.price ∧ d.price ≤ 100000 := by simp [okStep, inB, and_assoc]
theorem okStep_false {d : AStep} : okStep d = false ↔ d.upto < 1 ∨ 1 ≤ d.upto ∧ (10000000 < d.upto ∨ d.upto ≤ 10000000 ∧ (d.price < 1 ∨ 1 ≤ d.price ∧ 100000 < d.price)) := by
  rw [← Bool.not_eq_true, okStep_true]; omega
/-- each step ends behind the one ahead of it -/
def rises (xs : List AStep) : Bool := (List.range (xs.length - 1)).all fun j => decide ((xs.getD j default).upto < (xs.getD (j + 1) default).upto)
theorem rises_true {xs : List AStep} (h : ∀ j, j + 1 < xs.length → (xs.getD j default).upto < (xs.getD (j + 1) default).upto) : rises xs = true := by
  simp only [rises, List.all_eq_true, List.mem_range, decide_eq_true_eq]
  exact fun j hj => h j (by omega)
theorem rises_false {xs : List AStep} {j : Nat} (hj : j + 1 < xs.length) (h : ¬ (xs.getD j default).upto < (xs.getD (j + 1) default).upto) : rises xs = false := by
  rw [← Bool.not_eq_true]
  intro hr
  simp only [rises, List.all_eq_true, List.mem_range, decide_eq_true_eq] at hr
  exact h (hr j (by omega))
def lastU (xs : List AStep) : Int := (xs.getD (xs.length - 1) default).upto
def tariffE (xs : List AStep) : Int :=
  if inB (xs.length : Int) 1 8 then (if xs.all okStep then (if rises xs then (if lastU xs = 10000000 then 0 else 3) else 3) else 2) else 1
set_option maxHeartbeats 2000000 in
theorem TariffFault_any (v : Value) (xs : List AStep) (w : World) (h : Sl w v 2 xs.length (xs.flatMap AStep.cells)) :
    Calls Try.prog 62 #[v] w (Grew (I (tariffE xs)) w) := by
  obtain ⟨a, cap, rfl, hn, hl, h0, h⟩ := h
  clear hl h0
  cases hi : inB (xs.length : Int) 1 8
  · have hE : tariffE xs = 1 := by simp [tariffE, hi]
    rw [hE]
    clear hE h
    go_enter Try.func62, Try.ntmps62
    go_wp2_with (go_at_call 43; refine (In_any _ _ _ _).mono ?_; rintro e w' ⟨rfl, rfl⟩)
    go_ret
    exact Grew.intro rfl (Below.refl _ _)
  · obtain ⟨l0, l1⟩ := inB_true.1 hi
    obtain ⟨b, off, rfl, hb, hc⟩ := h.resolve_left (by omega)
    have HE := Lib.hid (show tariffE xs = if xs.all okStep then (if rises xs then (if lastU xs = 10000000 then 0 else 3) else 3) else 2 by simp only [tariffE, hi, if_true])
    have HC := Lib.hid hc
    clear h hc
    go_enter Try.func62, Try.ntmps62
    go_wp2_with (go_at_call 43; refine (In_any _ _ _ _).mono ?_; rintro e w' ⟨rfl, rfl⟩)
    go_loop [3] (fun i => ∃ k : Nat, k ≤ xs.length ∧ i = I k ∧ Hid ((xs.take k).all okStep = true)) (fun i => xs.length - (intOf i).toNat)
    case atStart => exact ⟨0, Nat.zero_le _, rfl, rfl⟩
    case round =>
      obtain ⟨k, hk, rfl, hall⟩ := hrel
      by_cases hlt : k < xs.length
      · obtain ⟨e0, e1⟩ := elStep hb HC.out (Below.refl _ _) k hlt
        have hi0 : (0 : Int) ≤ (k : Int) := by omega
        have hi1 : (k : Int) < (xs.length : Int) := by omega
        have hgood := Lib.hid (fun hp => all_take_succ (p := okStep) hlt hall.out hp)
        have hbad := Lib.hid (fun hp => all_false_at (p := okStep) hlt hp)
        generalize xs.getD k default = x at *
        cases p1 : inB x.upto 1 10000000
        · have hA := Lib.hid (hbad.out (by simp [okStep, p1]))
          clear hgood hbad
          go_wp2_with (go_at_call 43; refine (In_any _ _ _ _).mono ?_; rintro e w' ⟨rfl, rfl⟩)
          go_ret
          exact Grew.intro (eI (by rw [HE.out, hA.out]; rfl)) (Below.refl _ _)
        · cases p2 : inB x.price 1 100000
          · have hA := Lib.hid (hbad.out (by simp [okStep, p1, p2]))
            clear hgood hbad
            go_wp2_with (go_at_call 43; refine (In_any _ _ _ _).mono ?_; rintro e w' ⟨rfl, rfl⟩)
            go_ret
            exact Grew.intro (eI (by rw [HE.out, hA.out]; rfl)) (Below.refl _ _)
          · have hA := Lib.hid (hgood.out (by simp [okStep, p1, p2]))
            clear hgood hbad
            go_wp2_with (go_at_call 43; refine (In_any _ _ _ _).mono ?_; rintro e w' ⟨rfl, rfl⟩)
            go_round
            case rel => exact ⟨k + 1, by omega, by go_num, hA.out⟩
            case measure => simp [intOf]; omega
      · have hA := Lib.hid (show xs.all okStep = true by have := hall.out; rwa [List.take_of_length_le (by omega)] at this)
        clear hall
        have hge : (xs.length : Int) ≤ (k : Int) := by omega
        rw [hA.out, if_pos rfl] at HE
        clear hA hk
        go_wp2
        go_loopw [4] (fun i wr => ∃ k : Nat, 1 ≤ k ∧ k ≤ xs.length ∧ i = I k ∧ Hid (∀ j, j + 1 < k → (xs.getD j default).upto < (xs.getD (j + 1) default).upto) ∧ ∃ q, wr = w.drewN q) (fun i _ => xs.length - (intOf i).toNat)
        case atStart => exact ⟨1, Nat.le_refl _, by omega, rfl, (fun j hj => by omega), 0, rfl⟩
        case round =>
          obtain ⟨k, hk1, hk, rfl, hall, q, rfl⟩ := hrel
          by_cases hlt : k < xs.length
          · obtain ⟨e0, e1⟩ := elStep hb HC.out (Below.refl _ _) k hlt
            obtain ⟨k, rfl⟩ : ∃ k', k = k' + 1 := ⟨k - 1, by omega⟩
            obtain ⟨d0, d1⟩ := elStep hb HC.out (Below.refl _ _) k (by omega)
            have hi0 : (0 : Int) ≤ ((k + 1 : Nat) : Int) := by omega
            have hi1 : ((k + 1 : Nat) : Int) < (xs.length : Int) := by omega
            have hto : (((k + 1 : Nat) : Int) - 1).toNat = k := by omega
            have hto2 : (((k + 1 : Nat) : Int)).toNat = k + 1 := by omega
            have hgood := Lib.hid (show (xs.getD k default).upto < (xs.getD (k + 1) default).upto → ∀ j, j + 1 < k + 1 + 1 → (xs.getD j default).upto < (xs.getD (j + 1) default).upto from fun h j hj => by
              by_cases hjk : j = k
              · rw [hjk]; exact h
              · exact hall.out j (by omega))
            have hbad := Lib.hid (fun h => rises_false (xs := xs) (j := k) hlt h)
            have hj0 : (0 : Int) ≤ ((k + 1 : Nat) : Int) - 1 := by omega
            have hj1 : ((k + 1 : Nat) : Int) - 1 < (xs.length : Int) := by omega
            have hkk : ((k + 1 : Nat) : Int) + 1 = ((k + 1 + 1 : Nat) : Int) := by omega
            have Hkk := Lib.hid hkk
            clear hall hkk
            generalize xs.getD (k + 1) default = x at *
            generalize xs.getD k default = y at *
            generalize hK : ((k + 1 : Nat) : Int) = K at *
            by_cases hq : x.upto ≤ y.upto
            · have hA := Lib.hid (hbad.out (by omega))
              clear hgood hbad
              go_wp2
              go_quiet (fail)
              go_wp2
              go_ret
              exact Grew.intro (eI (by rw [HE.out, hA.out]; rfl)) below_auto
            · have hA := Lib.hid (hgood.out (by omega))
              clear hgood hbad
              go_wp2
              go_quiet (fail)
              go_wp2
              exact ⟨⟨k + 1 + 1, by omega, by omega, eI Hkk.out, hA, _, rfl⟩, by simp [intOf]; omega⟩
          · have hA := Lib.hid (rises_true (xs := xs) (fun j hj => hall.out j (by omega)))
            have hkl : k = xs.length := by omega
            have hge : (xs.length : Int) ≤ (k : Int) := by omega
            rw [hA.out, if_pos rfl] at HE
            obtain ⟨e0, e1⟩ := elStep hb HC.out (Below.refl _ _) (xs.length - 1) (by omega)
            have hL := Lib.hid (show lastU xs = (xs.getD (xs.length - 1) default).upto from rfl)
            have hto : ((xs.length : Int) - 1).toNat = xs.length - 1 := by omega
            have hj0 : (0 : Int) ≤ (xs.length : Int) - 1 := by omega
            have hj1 : (xs.length : Int) - 1 < (xs.length : Int) := by omega
            clear hall hA hkl
            generalize xs.getD (xs.length - 1) default = x at *
            rw [hL.out] at HE
            by_cases hq : x.upto = 10000000
            · rw [if_pos hq] at HE
              have hq2 : (x.upto != 10000000) = false := by simp [hq]
              clear hq
              go_wp2
              go_ret
              exact Grew.intro (eI HE.out.symm) below_auto
            · rw [if_neg hq] at HE
              have hq2 : (x.upto != 10000000) = true := by simp [hq]
              clear hq
              go_wp2
              go_ret
              exact Grew.intro (eI HE.out.symm) below_auto
end Go.Proofs.Ytenoigmkhlnfoaa
