/- receipt.Number and its reference -/
import Derived.Test.YtiiielccimchgaaDoorCentsShow
import Derived.Test.YtiiielccimchgaaDoorGood
namespace Go.Proofs.YtiiielccimchgaaDoor
open Go.RowKit
set_option maxRecDepth 20000

/-- eight noughts, two digits -/
def numS (m : Nat) : ByteArray := ⟨#[48, 48, 48, 48, 48, 48, 48, 48]⟩ ++ (decS (m / 10) ++ decS (m % 10))
theorem numS_size (m : Nat) (hm : m < 50) : (numS m).size = 10 := by
  unfold numS
  rw [ByteArray.size_append, ByteArray.size_append, decS_small (show m / 10 < 10 by omega), decS_small (Nat.mod_lt m (by decide))]
  rfl
theorem num_cut : ∀ m, m < 50 → (decS (10000000000 + m)).size = 11 ∧ (decS (10000000000 + m)).extract 1 11 = numS m := by
  have h : ∀ m : Fin 50, (decS (10000000000 + m.val)).size = 11 ∧ (decS (10000000000 + m.val)).extract 1 11 = numS m.val := by decide +kernel
  exact fun m hm => h ⟨m, hm⟩
def zerosS (k : Nat) : ByteArray := ⟨(List.replicate k (48 : UInt8)).toArray⟩
theorem zerosS_succ (k : Nat) (B : ByteArray) : (⟨#[48]⟩ : ByteArray) ++ (zerosS k ++ B) = zerosS (k + 1) ++ B := by
  apply ByteArray.ext
  apply Array.toList_inj.1
  simp [zerosS, ByteArray.data_append, List.replicate_succ]
theorem zerosS_size (k : Nat) (B : ByteArray) : (zerosS k ++ B).size = k + B.size := by
  rw [ByteArray.size_append]
  show (List.replicate k (48 : UInt8)).toArray.size + _ = _
  simp
theorem pad_num : ∀ m, m < 50 → zerosS (10 - (decS m).size) ++ decS m = numS m := by
  have h : ∀ m : Fin 50, zerosS (10 - (decS m.val).size) ++ decS m.val = numS m.val := by decide +kernel
  exact fun m hm => h ⟨m, hm⟩
theorem chkA_bd (s : ByteArray) : 0 ≤ chkA s ∧ chkA s ≤ 9 := by
  unfold chkA
  split
  · rename_i h
    obtain ⟨c0, c1⟩ := foldI_bd s (c := 0) (by omega) (by omega) 1 s.size
    exact backI_bd _ c0 c1
  · omega
def numD (m : Nat) : Nat := (chkA (numS m)).toNat
def numE (n : Int) : Int := if inB n 0 49 then 0 else 18
def numV (n : Int) : ByteArray := if inB n 0 49 then numS n.toNat ++ decS (numD n.toNat) else ⟨#[]⟩
def NumP (n : Int) (w : World) (e : Ending) (w' : World) : Prop := Grew (T2 (.string (numV n)) (I (numE n))) w e w'
theorem num_yes {m : Nat} (hm : m < 50) : numV m = numS m ++ decS (numD m) ∧ numE m = 0 ∧ numD m < 10 ∧ chkA (numS m) = (numD m : Int) := by
  have hin : inB (m : Int) 0 49 = true := by rw [inB_true]; omega
  have hb := chkA_bd (numS m)
  refine ⟨by unfold numV; rw [hin, Int.toNat_natCast]; rfl, by unfold numE; rw [hin]; rfl, ?_, ?_⟩
  · unfold numD; omega
  · unfold numD; omega
def strSz : Value → Nat | .string s => s.size | _ => 0
theorem padded_any (m : Nat) (w : World) (hm : m < 50) : Calls Tryd.prog 13 #[I m, I 10] w (Grew (.string (numS m)) w) := by
  have D := Lib.hid (fun W => Dec_nat m W (by omega))
  have hz := decS_size (n := m) (k := 2) (by omega) (by decide)
  have hp := Lib.hid (pad_num m hm)
  generalize decS m = b at *
  generalize numS m = q at *
  go_enter Tryd.func13, Tryd.ntmps13
  go_wp2_with fail
  refine (D.out _).mono ?_
  rintro e w1 ⟨rfl, k1⟩
  go_wp2
  go_loop [5] (fun v => ∃ k : Nat, k + b.size ≤ 10 ∧ v = .string (zerosS k ++ b)) (fun v => 10 - strSz v)
  case atStart =>
    refine ⟨0, by omega, ?_⟩
    have : zerosS 0 ++ b = b := by
      apply ByteArray.ext
      apply Array.toList_inj.1
      simp [zerosS, ByteArray.data_append]
    rw [this]
  case round =>
    obtain ⟨k, hk, rfl⟩ := hrel
    have hzs := zerosS_size k b
    have hsu := Lib.hid (zerosS_succ k b)
    have hzs2 := zerosS_size (k + 1) b
    generalize hz1 : zerosS k ++ b = s1 at *
    generalize hz2 : zerosS (k + 1) ++ b = s2 at *
    have hov : ¬ 9223372036854775807 < 1 + s1.size := by omega
    have hov2 : ¬ 9223372036854775807 < (⟨#[48]⟩ : ByteArray).size + s1.size := by show ¬ 9223372036854775807 < 1 + s1.size; omega
    by_cases hlt2 : k + b.size < 10
    · have hI : (s1.size : Int) < 10 := by omega
      clear hz1
      go_wp2
      have e1 : strSz (.string ((⟨#[48]⟩ : ByteArray) ++ s1)) = k + 1 + b.size := by rw [hsu.out]; exact hzs2
      have e2 : strSz (.string s1) = k + b.size := hzs
      exact ⟨⟨k + 1, by omega, congrArg Value.string (hsu.out.trans hz2.symm)⟩, by rw [e1, e2]; omega⟩
    · have hI : ¬ (s1.size : Int) < 10 := by omega
      have hF : Hid (q = s1) := by unfold Hid; rw [← hz1, ← hp.out, show 10 - b.size = k by omega]
      clear hsu hz2 hzs2 hz1 hzs hlt2 hk hov hov2
      go_wp2
      go_ret
      exact ⟨by rw [hF.out]; rfl, k1⟩
theorem NumberOf_bad (n : Int) (w : World) (h : inB n 0 49 = false) : Calls Tryd.prog 19 #[I n] w (NumP n w) := by
  have hE := Lib.hid (show numE n = 18 by unfold numE; rw [h]; rfl)
  have hV := Lib.hid (show numV n = ⟨#[]⟩ by unfold numV; rw [h]; rfl)
  go_enter Tryd.func19, Tryd.ntmps19
  go_wp2_with (go_at_call 28; refine (In_any _ _ _ _).mono ?_; rintro e w' ⟨rfl, rfl⟩)
  go_ret2
  exact ⟨by rw [hE.out, hV.out]; rfl, (by repeat first | exact Below.refl _ _ | assumption | refine drewN_below ?_ _ | refine Below.alloc ?_ (by first | exact Nat.le_refl _ | exact Below.size (by assumption) | (simp; done) | (simp; omega) | omega) _ | refine Below.setCell ?_ (by first | exact Nat.le_refl _ | (simp; done) | (simp; omega) | omega) _)⟩
set_option maxHeartbeats 2000000 in
theorem NumberOf_good (m : Nat) (w : World) (hm : m < 50) : Calls Tryd.prog 19 #[I m] w (NumP m w) := by
  obtain ⟨v1, v2, v3, v4⟩ := num_yes hm
  have hz10 := numS_size m hm
  have hin : inB (m : Int) 0 49 = true := by rw [inB_true]; omega
  have A := Lib.hid (fun W => padded_any m W hm)
  have D := Lib.hid (fun W => CheckDigit_any (numS m) W)
  have B := Lib.hid (fun W => Dec_nat (numD m) W (by omega))
  have hds := decS_size (n := numD m) (k := 1) (by omega) (by decide)
  rw [v4] at D
  have HV := Lib.hid v1
  have HE := Lib.hid v2
  clear v1 v2 v4
  generalize numS m = q at *
  generalize decS (numD m) = db at *
  generalize numD m = d at *
  have hov : ¬ 9223372036854775807 < q.size + db.size := by omega
  clear hm v3
  go_enter Tryd.func19, Tryd.ntmps19
  go_wp2_with (go_at_call 28; refine (In_any _ _ _ _).mono ?_; rintro e w' ⟨rfl, rfl⟩)
  refine (A.out _).mono ?_
  rintro e w1 ⟨rfl, k1⟩
  go_wp2_with fail
  refine (D.out _).mono ?_
  rintro e w2 ⟨rfl, k2⟩
  have kk := k1.trans (k2.mono k1.size)
  go_wp2_with fail
  refine (B.out _).mono ?_
  rintro e w3 ⟨rfl, k3⟩
  have kk3 := kk.trans (k3.mono kk.size)
  go_wp2
  go_ret2
  refine ⟨?_, kk3⟩
  rw [HV.out, HE.out]
  rfl
theorem NumberOf_any (n : Int) (w : World) : Calls Tryd.prog 19 #[I n] w (NumP n w) := by
  cases h : inB n 0 49
  · exact NumberOf_bad n w h
  · rw [inB_true] at h
    obtain ⟨m, rfl⟩ := Int.eq_ofNat_of_zero_le h.1
    exact NumberOf_good m w (by omega)
end Go.Proofs.YtiiielccimchgaaDoor
