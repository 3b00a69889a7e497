/- great numbers: by one word -/
import Derived.Test.YtdjgcenjonegjaaGreatDoorBigAdd
set_option maxRecDepth 20000
set_option maxHeartbeats 8000000
set_option linter.unusedSimpArgs false
set_option linter.unusedVariables false
namespace Go.Proofs.YtdjgcenjonegjaaGreatDoor
open Go.RowKit

theorem or64s (x y : Nat) (hx : x < 4294967296) (hy : y < 4294967296) : bits .or .u64 ((x : Int) * 4294967296) (y : Int) = ((4294967296 * x + y : Nat) : Int) := by
  have e : (x : Int) * 4294967296 = ((x * 2 ^ 32 : Nat) : Int) := by rw [Int.natCast_mul]; rfl
  rw [e, u64_or_nat _ _ (by omega) (by omega), ← Nat.shiftLeft_eq, ← Nat.shiftLeft_add_eq_or_of_lt (show y < 2 ^ 32 by omega), Nat.shiftLeft_eq]
  congr 1; omega
def SmallRel (W : World) (g : Nat) (la : List Nat) (d k r : Nat) (wr : World) : Prop :=
  (∃ ql : List Nat, ql.length = la.length ∧ allW ql ∧ Own wr g (wcells ql) ∧ val ql * d + 4294967296 ^ k * r + val (la.take k) = val la ∧ ∀ i, i < k → ql.getD i 0 = 0) ∧ Below W.heap.size W wr
def GrewAbs2 (n r : Nat) (w : World) (e : Ending) (w' : World) : Prop := ∃ v, e = .returned (T2 v (U32 r)) ∧ Abs w' v n ∧ Below w.heap.size w w'

theorem small_any (va : Value) (n d : Nat) (w : World) (hA : Abs w va n) (hn : n < 4294967296 ^ 250) (hd0 : 0 < d) (hd1 : d < 4294967296) : Calls Tryz.prog 142 #[va, U32 d] w (GrewAbs2 (n / d) (n % d) w) := by
  obtain ⟨la, hA, ca⟩ := hA; have h1 := can_len ca hn; clear hn; obtain ⟨i0, hi, hz0, hz1, hz2⟩ := info_parts infoWd; obtain ⟨a, cap, rfl, hn1, hl1, h01, hr1⟩ := hA; clear hl1 h01; have CA := Lib.hid ca; clear ca; go_enter Tryz.func142, Tryz.ntmps142
  go_wp2_with (refine wpList_make_full _ rfl (.tmp 10) (.tmp 10) 102 rfl w.heap.size 84 i0 (.int .u32 0) 1 Tryz.underlying102 hi hz0 hz1 .i64 .i64 _ _ la.length rfl rfl (by simp) (by simp) (by rw [hz2]; omega) (by unfold maxLen; omega) (Nat.le_refl _) ?_; intro w2 hown hgrow; have hbel := Below.grown (B := w.heap.size) (Below.refl _ w) hgrow (Nat.le_refl _) (fun k hk => by cases hk); have hO := Own.of_owns (made_int hown); clear hown hgrow)
  have hD : Hid (SmallRel w w.heap.size la d la.length 0 w2) := ⟨⟨List.replicate la.length 0, by simp, allW_replicate _, by unfold wcells; rw [List.map_replicate]; exact hO, by rw [val_replicate, List.take_of_length_le (Nat.le_refl _)]; simp, fun i _ => getD_replicate' _ i⟩, hbel⟩; clear hO hbel
  go_loopw [7, 8] (fun rv i wr => ∃ k r : Nat, k ≤ la.length ∧ r < d ∧ i = I ((k : Int) - 1) ∧ rv = .int .u64 r ∧ Hid (SmallRel w w.heap.size la d k r wr)) (fun _ i _ => (intOf i + 1).toNat)
  case atStart => exact ⟨la.length, 0, Nat.le_refl _, hd0, rfl, rfl, hD⟩
  case round =>
    obtain ⟨k, r, hk, hr, rfl, rfl, hD⟩ := hrel; obtain ⟨⟨ql, hql, hqw, hO, hv, hz⟩, hbw⟩ := hD.out; cases k with
    | zero =>
      obtain ⟨q1, q2⟩ := div_of (q := val ql) (d := d) (r := r) (n := n) (by rw [← CA.out.1, ← hv]; simp [val]) hr
      have hfin : Hid (Sl wr (.slice (some ⟨w.heap.size, 0, none⟩) la.length la.length) 1 ql.length (wcells ql)) := by
        have h2 := hO.sl (n := la.length) (cap := la.length) (sz := 1) (by omega) (Nat.le_refl _) (by rw [wcells_len]; omega); rw [hql]; exact h2
      have T := Lib.hid (trim_any _ ql _ hfin.out hqw); rw [← q1] at T; have Q2 := Lib.hid q2; have hr32 : (r : Int) % 4294967296 = (r : Int) := by omega
      have HR := Lib.hid hr32; clear hfin q1 q2 hO hv hD hqw hz hr1 hr32
      go_wp2_with fail
      refine T.out.mono ?_; rintro e w3 ⟨v', rfl, hA, rfl⟩; go_wp2; go_ret2; exact ⟨_, by rw [Q2.out]; rfl, hA, hbw⟩
    | succ k =>
      rw [show (((k + 1 : Nat) : Int) - 1) = (k : Int) by omega]; have hi0 : (0 : Int) ≤ (k : Int) := by omega
      have hi1 : (k : Int) < (la.length : Int) := by omega
      obtain ⟨b, off, rfl, hb, hcell⟩ := hr1.resolve_left (by omega); have ea := (hbw.cell (p := ⟨b, off + k, none⟩) hb).trans (hcell k (by rw [wcells_len]; omega)); rw [wcells_at (by omega)] at ea; have er := hO.cell k (by rw [wcells_len]; omega); rw [wcells_at (by omega), Nat.zero_add] at er; have fr := hO.frozen k; have hx := allW_at CA.out.2.1 k; have hst := Lib.hid (small_step (show k < la.length by omega) (show k < ql.length by omega) (hz k (by omega)) hv); have HO := Lib.hid hO; have HZ := Lib.hid hz; clear hcell hr1 hO hv hz hD; generalize la.getD k 0 = x at *; generalize ql.getD k 0 = z at *; have hor := Lib.hid (or64s r x (by omega) hx); go_wp2; rw [hor.out]
      have hdl : (4294967296 * r + x) / d < 4294967296 := by
        refine Nat.div_lt_of_lt_mul ?_; omega
      have hml : (4294967296 * r + x) % d < d := Nat.mod_lt _ hd0; have e1 : (((4294967296 * r + x : Nat) : Int)).tmod (d : Int) = (((4294967296 * r + x) % d : Nat) : Int) := rfl; have e2 : (((4294967296 * r + x : Nat) : Int)).tdiv (d : Int) = (((4294967296 * r + x) / d : Nat) : Int) := rfl; rw [e1, e2]
      have e3 : ∀ Q : Nat, Q < 4294967296 → IntKind.u64.wrap (Q : Int) % 4294967296 = (Q : Int) := fun Q hQ => by
        show (Q : Int) % 18446744073709551616 % 4294967296 = _; omega
      rw [e3 _ hdl]; exact ⟨⟨k, (4294967296 * r + x) % d, by omega, hml, rfl, rfl, ⟨⟨ql.set k ((4294967296 * r + x) / d), by rw [List.length_set]; exact hql, allW_set hqw _ hdl, by rw [wcells_set]; exact HO.out.set k _, hst.out, fun j hj => by rw [getD_set_ne (by omega)]; exact HZ.out j (by omega)⟩, hbw.setCell (p := ⟨w.heap.size, k, none⟩) (Nat.le_refl _) _⟩⟩, by simp [intOf]; try omega⟩
end Go.Proofs.YtdjgcenjonegjaaGreatDoor
