/- great numbers: right -/
import Derived.Test.YtdjgcenjonegjaaGreatDoorBigShift
set_option maxRecDepth 20000
set_option maxHeartbeats 8000000
set_option linter.unusedSimpArgs false
set_option linter.unusedVariables false
namespace Go.Proofs.YtdjgcenjonegjaaGreatDoor
open Go.RowKit
def RightRel (W : World) (g : Nat) (l : List Nat) (s k : Nat) (wr : World) : Prop :=
  (∃ rl : List Nat, rl.length = l.length ∧ allW rl ∧ Own wr g (wcells rl) ∧ ∀ i, i < k → rl.getD i 0 = rword l s i) ∧ Below W.heap.size W wr
theorem right_done {l rl : List Nat} {s : Nat} (h1 : rl.length = l.length) (h : ∀ i, i < l.length → rl.getD i 0 = rword l s i) : rl = (List.range l.length).map (rword l s) := by
  apply List.ext_getElem
  · simp [h1]
  · intro i h2 h3
    have := h i (by omega); rw [List.getD_eq_getElem?_getD, List.getElem?_eq_getElem h2] at this; simpa using this
theorem right_any (va : Value) (n x : Nat) (w : World) (hA : Abs w va n) (hn : n < 4294967296 ^ 240) (hx : x < 3000) : Calls Tryz.prog 144 #[va, .int .u64 x] w (GrewAbs (n / 2 ^ x) w) := by
  obtain ⟨la, hA, ca⟩ := hA; have h1 := can_len ca hn; clear hn; obtain ⟨q, s, hs, hqs⟩ : ∃ q s, s < 32 ∧ x = 32 * q + s := ⟨x / 32, x % 32, Nat.mod_lt _ (by decide), by omega⟩; have hq : q < 100 := by omega
  have e1 : (x : Int) / 32 = (q : Int) := by omega
  have e2 : (x : Int) % 32 = (s : Int) := by omega
  have hfin : n / 2 ^ x = val (la.drop q) / 2 ^ s := by
    rw [val_drop la ca.2.1, ca.1, hqs, Nat.pow_add, Nat.pow_mul, Nat.div_div_eq_div_mul]
  rw [hfin]; clear hfin hqs; obtain ⟨i0, hi, hz0, hz1, hz2⟩ := info_parts infoWd; obtain ⟨a, cap, rfl, hn1, hl1, h01, hr1⟩ := hA; clear hl1 h01
  by_cases hql : la.length ≤ q
  · have h0 := Lib.hid (show val (la.drop q) / 2 ^ s = 0 by rw [List.drop_of_length_le hql]; simp [val])
    have t1 : (la.length : Int) ≤ (q : Int) := by omega
    clear hr1 ca; go_enter Tryz.func144, Tryz.ntmps144; go_wp2; go_ret; exact ⟨_, rfl, by rw [h0.out]; exact ⟨[], Sl.nil _ _, rfl, by simp [allW], by simp⟩, Below.refl _ _⟩
  · have t1 : ¬ (la.length : Int) ≤ (q : Int) := by omega
    obtain ⟨m, hm⟩ : ∃ m, la.length = q + m ∧ 0 < m := ⟨la.length - q, by omega, by omega⟩; obtain ⟨hm, hm0⟩ := hm; have hdl : (la.drop q).length = m := by rw [List.length_drop]; omega
    have e3 : (la.length : Int) - (q : Int) = (m : Int) := by omega
    obtain ⟨b, off, rfl, hb, hcell⟩ := hr1.resolve_left (by omega); have CA := Lib.hid ca; have HC := Lib.hid hcell; have HD := Lib.hid hdl; have hm1 : la.length ≤ q + m := by omega
    have hm2 : q + m ≤ la.length := by omega
    clear ca hr1 hcell hdl hm; go_enter Tryz.func144, Tryz.ntmps144
    go_wp2_with (refine wpList_make_full _ rfl (.tmp 22) (.tmp 22) 102 rfl w.heap.size 84 i0 (.int .u32 0) 1 Tryz.underlying102 hi hz0 hz1 .i64 .i64 _ _ m rfl rfl (by simp) (by simp) (by rw [hz2]; omega) (by unfold maxLen; omega) (Nat.le_refl _) ?_; intro w2 hown hgrow; have hbel := Below.grown (B := w.heap.size) (Below.refl _ w) hgrow (Nat.le_refl _) (fun k hk => by cases hk); have hO := Own.of_owns (made_int hown); clear hown hgrow)
    have hD : Hid (RightRel w w.heap.size (la.drop q) s 0 w2) := ⟨⟨List.replicate m 0, by rw [HD.out]; simp, allW_replicate _, by unfold wcells; rw [List.map_replicate]; exact hO, fun i hi => by omega⟩, hbel⟩; clear hO hbel
    go_loopw [8, 9] (fun i _ wr => ∃ k : Nat, k ≤ m ∧ i = I k ∧ Hid (RightRel w w.heap.size (la.drop q) s k wr)) (fun i _ _ => m - (intOf i).toNat)
    case atStart => exact ⟨0, Nat.zero_le _, rfl, hD⟩
    case round =>
      obtain ⟨k, hk, rfl, hD⟩ := hrel; obtain ⟨⟨rl, hrl, hrw, hO, hv⟩, hbw⟩ := hD.out; rw [HD.out] at hrl; have hi0 : (0 : Int) ≤ (k : Int) := by omega
      by_cases hlt : k < m
      · have hi1 : (k : Int) < (m : Int) := by omega
        have ea := (hbw.cell (p := ⟨b, off + (k + q), none⟩) hb).trans (HC.out (k + q) (by rw [wcells_len]; omega)); rw [wcells_at (by omega)] at ea; have er := hO.cell k (by rw [wcells_len]; omega); rw [wcells_at (by omega), Nat.zero_add] at er; have fr := hO.frozen k; have hx := allW_at CA.out.2.1 (k + q)
        have hrwd := Lib.hid (show rword (la.drop q) s k = (la.getD (k + q) 0 + 4294967296 * la.getD (k + q + 1) 0) / 2 ^ s % 4294967296 by
          unfold rword; rw [getD_drop', getD_drop', Nat.add_comm q k, show q + (k + 1) = k + q + 1 by omega])
        have HO := Lib.hid hO; have HV := Lib.hid hv; have s0 : (0 : Int) ≤ (k : Int) + (q : Int) := by omega
        have s1 : (k : Int) + (q : Int) < (la.length : Int) := by omega
        have s2 : ((k : Int) + (q : Int)).toNat = k + q := by omega
        by_cases hnx : k + q + 1 < la.length
        · have eb := (hbw.cell (p := ⟨b, off + (k + q + 1), none⟩) hb).trans (HC.out (k + q + 1) (by rw [wcells_len]; omega))
          rw [wcells_at (by omega)] at eb; have hy := allW_at CA.out.2.1 (k + q + 1); have s3 : (0 : Int) ≤ (k : Int) + (q : Int) + 1 := by omega
          have s4 : (k : Int) + (q : Int) + 1 < (la.length : Int) := by omega
          have s5 : ((k : Int) + (q : Int) + 1).toNat = k + q + 1 := by omega
          clear hO hv hD; generalize la.getD (k + q) 0 = y at *; generalize la.getD (k + q + 1) 0 = z at *; have HOR := Lib.hid (or64t y z hx hy); go_wp2; rw [HOR.out, div_up]; generalize (y + 4294967296 * z) / 2 ^ s = R at *; have e4 : ((R : Nat) : Int) % 4294967296 = ((R % 4294967296 : Nat) : Int) := by omega
          rw [e4]; refine ⟨⟨k + 1, by omega, by go_num, ⟨⟨rl.set k (R % 4294967296), by rw [List.length_set, HD.out]; exact hrl, allW_set hrw _ (by omega), by rw [wcells_set]; exact HO.out.set k _, fun j hj => ?_⟩, hbw.setCell (p := ⟨w.heap.size, k, none⟩) (Nat.le_refl _) _⟩⟩, by simp [intOf]; omega⟩
          by_cases hjk : k = j
          · subst hjk; rw [getD_set_selfB (by omega)]; exact hrwd.out.symm
          · rw [getD_set_ne hjk]; exact HV.out j (by omega)
        · have h0 : la.getD (k + q + 1) 0 = 0 := by rw [List.getD_eq_getElem?_getD, List.getElem?_eq_none (by omega)]; rfl
          rw [h0] at hrwd; have s4 : ¬ (k : Int) + (q : Int) + 1 < (la.length : Int) := by omega
          clear hO hv hD h0; generalize la.getD (k + q) 0 = y at *; go_wp2; rw [Nat.mul_zero, Nat.add_zero] at hrwd; rw [div_up]; generalize y / 2 ^ s = R at *; have e4 : ((R : Nat) : Int) % 4294967296 = ((R % 4294967296 : Nat) : Int) := by omega
          rw [e4]; refine ⟨⟨k + 1, by omega, by go_num, ⟨⟨rl.set k (R % 4294967296), by rw [List.length_set, HD.out]; exact hrl, allW_set hrw _ (by omega), by rw [wcells_set]; exact HO.out.set k _, fun j hj => ?_⟩, hbw.setCell (p := ⟨w.heap.size, k, none⟩) (Nat.le_refl _) _⟩⟩, by simp [intOf]; omega⟩
          by_cases hjk : k = j
          · subst hjk; rw [getD_set_selfB (by omega)]; exact hrwd.out.symm
          · rw [getD_set_ne hjk]; exact HV.out j (by omega)
      · have hkl : k = m := by omega
        have hge : (m : Int) ≤ (k : Int) := by omega
        have hsum : val rl = val (la.drop q) / 2 ^ s := by
          rw [right_done (l := la.drop q) (s := s) (by rw [HD.out]; exact hrl) (fun i hi => hv i (by rw [HD.out] at hi; omega)), right_val s hs _ (allW_drop CA.out.2.1 q)]
        have hfin : Hid (Sl wr (.slice (some ⟨w.heap.size, 0, none⟩) m m) 1 rl.length (wcells rl)) := by
          have h2 := hO.sl (n := m) (cap := m) (sz := 1) (by omega) (Nat.le_refl _) (by rw [wcells_len]; omega); rw [hrl]; exact h2
        have T := Lib.hid (trim_any _ rl _ hfin.out hrw); rw [hsum] at T; clear hfin hsum hO hv hD hrw hkl HC
        go_wp2_with fail
        refine T.out.mono ?_; rintro e w3 ⟨v', rfl, hA, rfl⟩; go_wp2; go_ret; exact ⟨_, rfl, hA, hbw⟩
end Go.Proofs.YtdjgcenjonegjaaGreatDoor
