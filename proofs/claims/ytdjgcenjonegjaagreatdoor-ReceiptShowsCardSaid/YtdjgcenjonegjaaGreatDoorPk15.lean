/- great numbers: sub · great numbers: cmp -/
import Derived.Test.YtdjgcenjonegjaaGreatDoorBigAdd
import Derived.Test.YtdjgcenjonegjaaGreatDoorBigTrim
import Derived.Test.YtdjgcenjonegjaaGreatDoorBigPlain
set_option maxRecDepth 20000
set_option maxHeartbeats 8000000
set_option linter.unusedSimpArgs false
set_option linter.unusedVariables false
namespace Go.Proofs.YtdjgcenjonegjaaGreatDoor
section
open Go.RowKit

def SubRel (W : World) (g : Nat) (la lb : List Nat) (k c : Nat) (wr : World) : Prop :=
  (∃ rl : List Nat, rl.length = la.length ∧ allW rl ∧ Own wr g (wcells rl) ∧ val (rl.take k) + val (lb.take k) = val (la.take k) + 4294967296 ^ k * c) ∧ Below W.heap.size W wr
end
section
open Go.RowKit

def cmpI (n m : Nat) : Int := if n < m then -1 else if n = m then 0 else 1
theorem cmpI_lt {n m : Nat} (h : n < m) : cmpI n m = -1 := by simp [cmpI, h]
theorem cmpI_gt {n m : Nat} (h : m < n) : cmpI n m = 1 := by unfold cmpI; rw [if_neg (by omega), if_neg (by omega)]
theorem cmpI_eq {n m : Nat} (h : n = m) : cmpI n m = 0 := by subst h; unfold cmpI; rw [if_neg (by omega), if_pos rfl]

theorem cmp_any (va vb : Value) (n m : Nat) (w : World) (hA : Abs w va n) (hB : Abs w vb m) : Calls Tryz.prog 138 #[va, vb] w (Grew (I (cmpI n m)) w) := by
  obtain ⟨la, hA, ca⟩ := hA; obtain ⟨lb, hB, cb⟩ := hB; obtain ⟨a, cap, rfl, hn1, hl1, h01, hr1⟩ := hA; obtain ⟨a2, cap2, rfl, hn2, hl2, h02, hr2⟩ := hB; clear hl1 h01 hl2 h02; rcases Nat.lt_trichotomy la.length lb.length with hlt | heq | hgt
  · have he := Lib.hid (cmpI_lt (can_longer ca cb hlt))
    have t1 : ((la.length : Int) != (lb.length : Int)) = true := by simp; omega
    have t2 : (la.length : Int) < (lb.length : Int) := by omega
    generalize cmpI n m = R at *; clear hr1 hr2 ca cb; go_enter Tryz.func138, Tryz.ntmps138; go_wp2; go_ret; exact Grew.intro (eI he.out.symm) (Below.refl _ _)
  · have t1 : ((la.length : Int) != (lb.length : Int)) = false := by simp; omega
    have L1 := Lib.hid (fun h => cmpI_lt (n := n) (m := m) h); have L2 := Lib.hid (fun h => cmpI_gt (n := n) (m := m) h); have L3 := Lib.hid (fun h => cmpI_eq (n := n) (m := m) h); generalize cmpI n m = R at *; have CA := Lib.hid ca; have CB := Lib.hid cb; have HE := Lib.hid heq; clear ca cb heq; go_enter Tryz.func138, Tryz.ntmps138; go_wp2
    go_loopw [5] (fun i wr => ∃ k : Nat, k ≤ la.length ∧ i = I ((k : Int) - 1) ∧ Hid (∀ q, k ≤ q → la.getD q 0 = lb.getD q 0) ∧ ∃ q, wr = w.drewN q) (fun i _ => (intOf i + 1).toNat)
    case atStart => exact ⟨la.length, Nat.le_refl _, rfl, (fun q hq => by rw [List.getD_eq_getElem?_getD, List.getD_eq_getElem?_getD, List.getElem?_eq_none hq, List.getElem?_eq_none (by have := HE.out; omega)]), 0, rfl⟩
    case round =>
      obtain ⟨k, hk, rfl, hsame, q, rfl⟩ := hrel; cases k with
      | zero =>
        have hR := Lib.hid (L3.out (by rw [← CA.out.1, ← CB.out.1, val_alike HE.out (fun i _ => hsame.out i (by omega))])); clear hr1 hr2 L1 L2 L3 hsame; go_wp2; go_ret; exact Grew.intro (eI hR.out.symm) (drewN_below (Below.refl _ _) _)
      | succ k =>
        rw [show (((k + 1 : Nat) : Int) - 1) = (k : Int) by omega]; have hkb : k < lb.length := by have := HE.out; omega
        obtain ⟨b, off, rfl, hb, hcell⟩ := hr1.resolve_left (by omega); obtain ⟨b2, off2, rfl, hb2, hcell2⟩ := hr2.resolve_left (by omega); have ea := hcell k (by rw [wcells_len]; omega); have eb := hcell2 k (by rw [wcells_len]; omega); rw [wcells_at (by omega)] at ea eb; have hi0 : (0 : Int) ≤ (k : Int) := by omega
        have hi1 : (k : Int) < (la.length : Int) := by omega
        have hi2 : (k : Int) < (lb.length : Int) := by omega
        have F := Lib.hid (show ∀ j, la.getD k 0 = lb.getD k 0 → k ≤ j → la.getD j 0 = lb.getD j 0 from fun j he hj => by
          rcases Nat.eq_or_lt_of_le hj with h | h
          · subst h; exact he
          · exact hsame.out j h)
        have G1 := Lib.hid (show la.getD k 0 < lb.getD k 0 → R = -1 from fun h => L1.out (by
          rw [← CA.out.1, ← CB.out.1]; exact val_less CA.out.2.1 HE.out (by omega) (fun i hi => hsame.out i hi) h))
        have G2 := Lib.hid (show lb.getD k 0 < la.getD k 0 → R = 1 from fun h => L2.out (by
          rw [← CA.out.1, ← CB.out.1]; exact val_less CB.out.2.1 HE.out.symm (by omega) (fun i hi => (hsame.out i hi).symm) h))
        clear hr1 hr2 hcell hcell2 L1 L2 L3 hsame; generalize la.getD k 0 = x at *; generalize lb.getD k 0 = y at *; rcases Nat.lt_trichotomy x y with h | h | h
        · have hR := Lib.hid (G1.out h)
          have q1 : ((x : Int) != (y : Int)) = true := by rw [bne_iff_ne]; omega
          have q2 : (x : Int) < (y : Int) := by omega
          clear F G1 G2 h; go_wp2
          go_quiet (fail)
          go_wp2
          go_quiet (fail)
          go_wp2; go_ret; exact Grew.intro (eI hR.out.symm) below_auto
        · have q1 : ((x : Int) != (y : Int)) = false := by rw [bne_eq_false_iff_eq]; omega
          have hF := Lib.hid (fun j => F.out j h); clear F G1 G2; go_wp2
          go_quiet (fail)
          go_wp2; exact ⟨⟨k, by omega, rfl, hF, _, rfl⟩, by simp [intOf]; try omega⟩
        · have hR := Lib.hid (G2.out h)
          have q1 : ((x : Int) != (y : Int)) = true := by rw [bne_iff_ne]; omega
          have q2 : ¬ (x : Int) < (y : Int) := by omega
          clear F G1 G2 h; go_wp2
          go_quiet (fail)
          go_wp2
          go_quiet (fail)
          go_wp2; go_ret; exact Grew.intro (eI hR.out.symm) below_auto
  · have he := Lib.hid (cmpI_gt (can_longer cb ca hgt))
    have t1 : ((la.length : Int) != (lb.length : Int)) = true := by simp; omega
    have t2 : ¬ (la.length : Int) < (lb.length : Int) := by omega
    generalize cmpI n m = R at *; clear hr1 hr2 ca cb; go_enter Tryz.func138, Tryz.ntmps138; go_wp2; go_ret; exact Grew.intro (eI he.out.symm) (Below.refl _ _)
end
end Go.Proofs.YtdjgcenjonegjaaGreatDoor
