/- great numbers: left -/
import Derived.Test.YtdjgcenjonegjaaGreatDoorBigShift
set_option maxRecDepth 20000
set_option maxHeartbeats 8000000
set_option linter.unusedSimpArgs false
set_option linter.unusedVariables false
namespace Go.Proofs.YtdjgcenjonegjaaGreatDoor
open Go.RowKit
def LeftRel (W : World) (g : Nat) (la : List Nat) (q s k : Nat) (wr : World) : Prop :=
  (∃ rl : List Nat, rl.length = la.length + q + 1 ∧ allW rl ∧ Own wr g (wcells rl) ∧ val rl = 4294967296 ^ q * (val (la.take k) * 2 ^ s) ∧ rl.getD (k + q) 0 < 2 ^ s ∧ ∀ i, k + q < i → rl.getD i 0 = 0) ∧ Below W.heap.size W wr
theorem left_pos (va : Value) (n x : Nat) (w : World) (hA : Abs w va n) (hn : n < 4294967296 ^ 240) (hx : x < 3000) (hpos : 0 < n) : Calls Tryz.prog 143 #[va, .int .u64 x] w (GrewAbs (n * 2 ^ x) w) := by
  obtain ⟨la, hA, ca⟩ := hA; have h1 := can_len ca hn; clear hn
  have hl0 : la.length ≠ 0 := by
    intro h; have := ca.1; rw [List.length_eq_zero_iff.1 h] at this; simp [val] at this; omega
  obtain ⟨q, s, hs, hqs⟩ : ∃ q s, s < 32 ∧ x = 32 * q + s := ⟨x / 32, x % 32, Nat.mod_lt _ (by decide), by omega⟩; have hq : q < 100 := by omega
  have e1 : (x : Int) / 32 = (q : Int) := by omega
  have e2 : (x : Int) % 32 = (s : Int) := by omega
  have hfin : n * 2 ^ x = 4294967296 ^ q * (n * 2 ^ s) := by
    rw [hqs, Nat.pow_add, Nat.pow_mul, Nat.mul_left_comm]
  rw [hfin]; clear hfin hqs hpos; obtain ⟨i0, hi, hz0, hz1, hz2⟩ := info_parts infoWd; obtain ⟨a, cap, rfl, hn1, hl1, h01, hr1⟩ := hA; clear hl1 h01; obtain ⟨b, off, rfl, hb, hcell⟩ := hr1.resolve_left hl0; have t1 : ((la.length : Int) == 0) = false := by rw [beq_eq_false_iff_ne]; omega
  have CA := Lib.hid ca; have HC := Lib.hid hcell; clear ca hr1 hcell; go_enter Tryz.func143, Tryz.ntmps143
  go_wp2_with (refine wpList_make_full _ rfl (.tmp 22) (.tmp 22) 102 rfl w.heap.size 84 i0 (.int .u32 0) 1 Tryz.underlying102 hi hz0 hz1 .i64 .i64 _ _ (la.length + q + 1) rfl rfl (by simp) (by simp) (by rw [hz2]; omega) (by unfold maxLen; omega) (Nat.le_refl _) ?_; intro w2 hown hgrow; have hbel := Below.grown (B := w.heap.size) (Below.refl _ w) hgrow (Nat.le_refl _) (fun k hk => by cases hk); have hO := Own.of_owns (made_int hown); clear hown hgrow)
  have hD : Hid (LeftRel w w.heap.size la q s 0 w2) := ⟨⟨List.replicate (la.length + q + 1) 0, by simp, allW_replicate _, by unfold wcells; rw [List.map_replicate]; exact hO, by rw [val_replicate]; simp [val], by rw [getD_replicate']; exact Nat.two_pow_pos s, fun i _ => getD_replicate' _ i⟩, hbel⟩; clear hO hbel
  go_loopw [8, 9] (fun i _ wr => ∃ k : Nat, k ≤ la.length ∧ i = I k ∧ Hid (LeftRel w w.heap.size la q s k wr)) (fun i _ _ => la.length - (intOf i).toNat)
  case atStart => exact ⟨0, Nat.zero_le _, rfl, hD⟩
  case round =>
    obtain ⟨k, hk, rfl, hD⟩ := hrel; obtain ⟨⟨rl, hrl, hrw, hO, hv, ht, hz⟩, hbw⟩ := hD.out; have hi0 : (0 : Int) ≤ (k : Int) := by omega
    by_cases hlt : k < la.length
    · have hi1 : (k : Int) < (la.length : Int) := by omega
      have ea := (hbw.cell (p := ⟨b, off + k, none⟩) hb).trans (HC.out k (by rw [wcells_len]; omega)); rw [wcells_at hlt] at ea; have er := hO.cell (k + q) (by rw [wcells_len]; omega); rw [wcells_at (by omega), Nat.zero_add] at er; have er2 := hO.cell (k + q + 1) (by rw [wcells_len]; omega); rw [wcells_at (by omega), Nat.zero_add, hz _ (by omega)] at er2; have fr := hO.frozen (k + q); have fr2 := hO.frozen (k + q + 1); have hx := allW_at CA.out.2.1 k; obtain ⟨m1, m2, m3, m4⟩ := left_word _ _ s hs hx ht; have hst := Lib.hid (left_step (s := s) hlt (show k + q + 1 < rl.length by omega) hv rfl (hz _ (by omega))); have HO := Lib.hid hO; have HZ := Lib.hid hz; clear hO hv hz hD; generalize la.getD k 0 = y at *; generalize rl.getD (k + q) 0 = t at *; have M1 := Lib.hid m1; have s0 : (0 : Int) ≤ (k : Int) + (q : Int) := by omega
      have s1 : (k : Int) + (q : Int) < (la.length : Int) + (q : Int) + 1 := by omega
      have s2 : ((k : Int) + (q : Int)).toNat = k + q := by omega
      have s3 : (0 : Int) ≤ (k : Int) + (q : Int) + 1 := by omega
      have s4 : (k : Int) + (q : Int) + 1 < (la.length : Int) + (q : Int) + 1 := by omega
      have s5 : ((k : Int) + (q : Int) + 1).toNat = k + q + 1 := by omega
      have s6 : 2 ^ s < 4294967296 := Nat.pow_lt_pow_right (show 1 < 2 by decide) hs; have r1 := set_same; have r2 := set_off; clear m1; go_wp2; rw [wrap_up y s m4]; generalize y * 2 ^ s = z at *; have e4 : ((z : Nat) : Int) % 4294967296 = ((z % 4294967296 : Nat) : Int) := by omega
      have e5 : ((z : Nat) : Int) / 4294967296 % 4294967296 = ((z / 4294967296 : Nat) : Int) := by omega
      have o1 := u32_or_nat t (z % 4294967296) (by omega) (by omega)
      have o2 : bits .or .u32 0 ((z / 4294967296 : Nat) : Int) = ((z / 4294967296 : Nat) : Int) := by
        have := u32_or_nat 0 (z / 4294967296) (by omega) (by omega); rw [Nat.zero_or] at this; exact this
      rw [e4, e5, o1, o2, M1.out]; refine ⟨⟨k + 1, by omega, by go_num, ⟨⟨(rl.set (k + q) (z % 4294967296 + t)).set (k + q + 1) (z / 4294967296), by rw [List.length_set, List.length_set]; exact hrl, allW_set (allW_set hrw _ (by omega)) _ (by omega), by rw [wcells_set, wcells_set]; exact (HO.out.set (k + q) _).set (k + q + 1) _, hst.out, ?_, ?_⟩, (hbw.setCell (p := ⟨w.heap.size, k + q, none⟩) (Nat.le_refl _) _).setCell (p := ⟨w.heap.size, k + q + 1, none⟩) (Nat.le_refl _) _⟩⟩, by simp [intOf]; omega⟩
      · rw [show k + 1 + q = k + q + 1 by omega, getD_set_selfB (by rw [List.length_set]; omega)]
        exact m3
      · intro j hj
        rw [getD_set_ne (by omega), getD_set_ne (by omega)]; exact HZ.out j (by omega)
    · have hkl : k = la.length := by omega
      have hge : (la.length : Int) ≤ (k : Int) := by omega
      have hsum : val rl = 4294967296 ^ q * (n * 2 ^ s) := by
        rw [hv, hkl, List.take_of_length_le (Nat.le_refl _), CA.out.1]
      have hfin : Hid (Sl wr (.slice (some ⟨w.heap.size, 0, none⟩) (la.length + q + 1) (la.length + q + 1)) 1 rl.length (wcells rl)) := by
        have h2 := hO.sl (n := la.length + q + 1) (cap := la.length + q + 1) (sz := 1) (by omega) (Nat.le_refl _) (by rw [wcells_len]; omega); rw [hrl]; exact h2
      have T := Lib.hid (trim_any _ rl _ hfin.out hrw); rw [hsum] at T; clear hfin hsum hO hv hz hD hrw hkl HC ht
      go_wp2_with fail
      refine T.out.mono ?_; rintro e w3 ⟨v', rfl, hA, rfl⟩; go_wp2; go_ret; exact ⟨_, rfl, hA, hbw⟩
theorem left_any (va : Value) (n x : Nat) (w : World) (hA : Abs w va n) (hn : n < 4294967296 ^ 240) (hx : x < 3000) : Calls Tryz.prog 143 #[va, .int .u64 x] w (GrewAbs (n * 2 ^ x) w) := by
  by_cases hpos : 0 < n
  · exact left_pos va n x w hA hn hx hpos
  · have : n = 0 := by omega
    subst this; obtain ⟨la, hA, ca⟩ := hA; obtain rfl := can_zero ca; obtain ⟨a, cap, rfl, -⟩ := hA; rw [Nat.zero_mul]; clear hpos ca hn; go_enter Tryz.func143, Tryz.ntmps143; go_wp2; go_ret; exact ⟨_, rfl, ⟨[], Sl.nil _ _, rfl, by simp [allW], by simp⟩, Below.refl _ _⟩
end Go.Proofs.YtdjgcenjonegjaaGreatDoor
