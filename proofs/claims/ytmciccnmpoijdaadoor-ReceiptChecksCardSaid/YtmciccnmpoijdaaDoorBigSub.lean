/- great numbers: sub -/
import Derived.Test.YtmciccnmpoijdaaDoorBigAdd
namespace Go.Proofs.YtmciccnmpoijdaaDoor
open Go.RowKit
set_option maxRecDepth 20000

theorem wrap64u (e : Int) : IntKind.u64.wrap e = e % 18446744073709551616 := rfl
def SubRel (W : World) (g : Nat) (la lb : List Nat) (k c : Nat) (wr : World) : Prop :=
  (∃ rl : List Nat, rl.length = la.length ∧ allW rl ∧ Own wr g (wcells rl) ∧ val (rl.take k) + val (lb.take k) = val (la.take k) + 4294967296 ^ k * c) ∧ Below W.heap.size W wr
theorem SubRel.step {W : World} {g : Nat} {la lb rl : List Nat} {k c : Nat} {wr : World} (hg : W.heap.size ≤ g) (hlt : k < la.length) (hrl : rl.length = la.length) (hrw : allW rl) (hO : Own wr g (wcells rl))
    (hv : val (rl.take k) + val (lb.take k) = val (la.take k) + 4294967296 ^ k * c) (hb : Below W.heap.size W wr) (y c' d : Nat) (hy : y = (if k < lb.length then lb.getD k 0 else 0)) (hd : d + y + c = la.getD k 0 + 4294967296 * c') (hdl : d < 4294967296) :
    Hid (SubRel W g la lb (k + 1) c' (wr.setCell ⟨g, k, none⟩ (U32 d))) :=
  ⟨⟨rl.set k d, by rw [List.length_set]; exact hrl, allW_set hrw k hdl, by rw [wcells_set]; exact hO.set k _, sub_step hlt (by omega) hv y c' d hy hd⟩, hb.setCell (p := ⟨g, k, none⟩) hg _⟩

set_option maxHeartbeats 2000000 in
theorem sub_any (va vb : Value) (n m : Nat) (w : World) (hA : Abs w va n) (hB : Abs w vb m) (hmn : m ≤ n) (hn : n < 4294967296 ^ 250) : Calls Tryd.prog 92 #[va, vb] w (GrewAbs (n - m) w) := by
  obtain ⟨la, hA, ca⟩ := hA
  obtain ⟨lb, hB, cb⟩ := hB
  have h1 := can_len ca hn
  have hle : lb.length ≤ la.length := by
    refine Decidable.byContradiction fun h => ?_
    have := can_longer ca cb (by omega)
    omega
  clear hn
  obtain ⟨i0, hi, hz0, hz1, hz2⟩ := info_parts infoWd
  obtain ⟨a, cap, rfl, hn1, hl1, h01, hr1⟩ := hA
  obtain ⟨a2, cap2, rfl, hn2, hl2, h02, hr2⟩ := hB
  clear hl1 h01 hl2 h02
  have CA := Lib.hid ca
  have CB := Lib.hid cb
  clear ca cb
  go_enter Tryd.func92, Tryd.ntmps92
  go_wp2_with (refine wpList_make_full _ rfl (.tmp 10) (.tmp 10) 75 rfl w.heap.size 61 i0 (.int .u32 0) 1 Tryd.underlying75 hi hz0 hz1 .i64 .i64 _ _ la.length rfl rfl (by simp) (by simp) (by rw [hz2]; omega) (by unfold maxLen; omega) (Nat.le_refl _) ?_; intro w2 hown hgrow; have hbel := Below.grown (B := w.heap.size) (Below.refl _ w) hgrow (Nat.le_refl _) (fun k hk => by cases hk); have hO := Own.of_owns (made_int hown); clear hown hgrow)
  have hD : Hid (SubRel w w.heap.size la lb 0 0 w2) := ⟨⟨List.replicate la.length 0, by simp, allW_replicate _, by unfold wcells; rw [List.map_replicate]; exact hO, by simp [val]⟩, hbel⟩
  clear hO hbel
  go_loopw [6, 7, 8] (fun cv i _ wr => ∃ k c : Nat, k ≤ la.length ∧ c ≤ 1 ∧ i = I k ∧ cv = .int .u64 c ∧ Hid (SubRel w w.heap.size la lb k c wr)) (fun _ i _ _ => la.length - (intOf i).toNat)
  case atStart => exact ⟨0, 0, Nat.zero_le _, by omega, rfl, rfl, hD⟩
  case round =>
    obtain ⟨k, c, hk, hc, rfl, rfl, hD⟩ := hrel
    obtain ⟨⟨rl, hrl, hrw, hO, hv⟩, hbw⟩ := hD.out
    have hi0 : (0 : Int) ≤ (k : Int) := by omega
    by_cases hlt : k < la.length
    · have hi1 : (k : Int) < (la.length : Int) := by omega
      obtain ⟨b, off, rfl, hb, hcell⟩ := hr1.resolve_left (by omega)
      have ea := (hbw.cell (p := ⟨b, off + k, none⟩) hb).trans (hcell k (by rw [wcells_len]; omega))
      rw [wcells_at hlt] at ea
      have er := hO.cell k (by rw [wcells_len]; omega)
      rw [wcells_at (by omega), Nat.zero_add] at er
      have fr := hO.frozen k
      have hx := allW_at CA.out.2.1 k
      have hst := Lib.hid (fun y c' d hy hd hdl => SubRel.step (Nat.le_refl _) hlt hrl hrw hO hv hbw y c' d hy hd hdl)
      clear hcell hr1 hO hv hrw
      generalize la.getD k 0 = x at *
      generalize rl.getD k 0 = z at *
      by_cases hkb : k < lb.length
      · have hi3 : (k : Int) < (lb.length : Int) := by omega
        obtain ⟨b2, off2, rfl, hb2, hcell2⟩ := hr2.resolve_left (by omega)
        have eb := (hbw.cell (p := ⟨b2, off2 + k, none⟩) hb2).trans (hcell2 k (by rw [wcells_len]; omega))
        rw [wcells_at hkb] at eb
        have hy := allW_at CB.out.2.1 k
        simp only [if_pos hkb] at hst
        clear hcell2 hr2 hD
        generalize lb.getD k 0 = y at *
        obtain ⟨d, c', hd, hc', hdl, e1, e2⟩ : ∃ d c' : Nat, d + y + c = x + 4294967296 * c' ∧ c' ≤ 1 ∧ d < 4294967296 ∧ ((((x : Int) - c) % 18446744073709551616 - y) % 18446744073709551616) % 4294967296 = (d : Int) ∧ ((((x : Int) - c) % 18446744073709551616 - y) % 18446744073709551616) / 9223372036854775808 = (c' : Int) := by
          by_cases h : c + y ≤ x
          · exact ⟨x - c - y, 0, by omega, by omega, by omega, by omega, by omega⟩
          · exact ⟨x + 4294967296 - c - y, 1, by omega, by omega, by omega, by omega, by omega⟩
        have hD' := hst.out y c' d rfl hd hdl
        have E1 := Lib.hid e1
        have E2 := Lib.hid e2
        clear hst e1 e2
        go_wp2
        exact ⟨⟨k + 1, c', by omega, hc', by go_num, by rw [wrap64u, wrap64u, E2.out], by rw [wrap64u, wrap64u, E1.out]; exact hD'⟩, by simp [intOf]; omega⟩
      · have hi3 : ¬ (k : Int) < (lb.length : Int) := by omega
        simp only [if_neg hkb] at hst
        clear hr2 hD
        obtain ⟨d, c', hd, hc', hdl, e1, e2⟩ : ∃ d c' : Nat, d + 0 + c = x + 4294967296 * c' ∧ c' ≤ 1 ∧ d < 4294967296 ∧ (((x : Int) - c) % 18446744073709551616) % 4294967296 = (d : Int) ∧ (((x : Int) - c) % 18446744073709551616) / 9223372036854775808 = (c' : Int) := by
          by_cases h : c ≤ x
          · exact ⟨x - c, 0, by omega, by omega, by omega, by omega, by omega⟩
          · exact ⟨x + 4294967296 - c, 1, by omega, by omega, by omega, by omega, by omega⟩
        have hD' := hst.out 0 c' d rfl hd hdl
        have E1 := Lib.hid e1
        have E2 := Lib.hid e2
        clear hst e1 e2
        go_wp2
        exact ⟨⟨k + 1, c', by omega, hc', by go_num, by rw [wrap64u, E2.out], by rw [wrap64u, E1.out]; exact hD'⟩, by simp [intOf]; omega⟩
    · have hkl : k = la.length := by omega
      have hge : (la.length : Int) ≤ (k : Int) := by omega
      have hsum : val rl = n - m := by
        rw [hkl, List.take_of_length_le (by omega), List.take_of_length_le (by omega), List.take_of_length_le (Nat.le_refl _), CA.out.1, CB.out.1] at hv
        have hlt := val_lt hrw
        rw [hrl] at hlt
        cases c with
        | zero => omega
        | succ c =>
          exfalso
          have : 4294967296 ^ la.length * 1 ≤ 4294967296 ^ la.length * (c + 1) := Nat.mul_le_mul_left _ (by omega)
          omega
      have hfin : Hid (Sl wr (.slice (some ⟨w.heap.size, 0, none⟩) la.length la.length) 1 rl.length (wcells rl)) := by
        have h2 := hO.sl (n := la.length) (cap := la.length) (sz := 1) (by omega) (Nat.le_refl _) (by rw [wcells_len]; omega)
        rw [hrl]; exact h2
      have T := Lib.hid (trim_any _ rl _ hfin.out hrw)
      rw [hsum] at T
      clear hfin hsum hO hv hD hrw hkl hr1 hr2
      go_wp2_with fail
      refine T.out.mono ?_
      rintro e w3 ⟨v', rfl, hA, rfl⟩
      go_wp2
      go_ret
      exact ⟨_, rfl, hA, hbw⟩
end Go.Proofs.YtmciccnmpoijdaaDoor
