/- readback.Code and its reference -/
import Derived.Test.YtiiielccimchgaaDoorRecNum
import Derived.Test.YtiiielccimchgaaDoorMeterWords
import Derived.Lib.Repeat
namespace Go.Proofs.YtiiielccimchgaaDoor
open Go.RowKit
set_option maxRecDepth 20000

/-- a number of the given digits, noughts ahead -/
def padS (d n : Nat) : ByteArray := zerosS (d - (decS n).size) ++ decS n
theorem zerosS_zero (b : ByteArray) : zerosS 0 ++ b = b := by
  apply ByteArray.ext
  apply Array.toList_inj.1
  simp [zerosS, ByteArray.data_append]
set_option maxHeartbeats 2000000 in
theorem padded_gen (d n : Nat) (w : World) (hd : d ≤ 100) (hn : n < 9223372036854775808) : Calls Tryd.prog 13 #[I n, I d] w (Grew (.string (padS d n)) w) := by
  have D := Lib.hid (fun W => Dec_nat n W hn)
  have hz := decS_20 (n := n) hn
  unfold padS
  clear hn
  generalize decS n = b at *
  go_enter Tryd.func13, Tryd.ntmps13
  go_wp2_with fail
  refine (D.out _).mono ?_
  rintro e w1 ⟨rfl, k1⟩
  go_wp2
  go_loop [5] (fun v => ∃ k : Nat, k ≤ d - b.size ∧ v = .string (zerosS k ++ b)) (fun v => d - strSz v)
  case atStart => exact ⟨0, by omega, by rw [zerosS_zero]⟩
  case round =>
    obtain ⟨k, hk, rfl⟩ := hrel
    have hzs := zerosS_size k b
    have hsu := Lib.hid (zerosS_succ k b)
    have hzs2 := zerosS_size (k + 1) b
    generalize hz1 : zerosS k ++ b = s1 at *
    generalize hz2 : zerosS (k + 1) ++ b = s2 at *
    have hov : ¬ 9223372036854775807 < 1 + s1.size := by omega
    have hov2 : ¬ 9223372036854775807 < (⟨#[48]⟩ : ByteArray).size + s1.size := by show ¬ 9223372036854775807 < 1 + s1.size; omega
    by_cases hlt2 : k + b.size < d
    · have hI : (s1.size : Int) < (d : Int) := by omega
      clear hz1
      go_wp2
      have e1 : strSz (.string ((⟨#[48]⟩ : ByteArray) ++ s1)) = k + 1 + b.size := by rw [hsu.out]; exact hzs2
      have e2 : strSz (.string s1) = k + b.size := hzs
      exact ⟨⟨k + 1, by omega, congrArg Value.string (hsu.out.trans hz2.symm)⟩, by rw [e1, e2]; omega⟩
    · have hI : ¬ (s1.size : Int) < (d : Int) := by omega
      have hF : Hid (zerosS (d - b.size) ++ b = s1) := by unfold Hid; rw [← hz1, show d - b.size = k by omega]
      clear hsu hz2 hzs2 hz1 hzs hlt2 hk hov hov2
      go_wp2
      go_ret
      exact ⟨by rw [hF.out]; rfl, k1⟩

def codeN (m : MM) : Int := ((m.cr * 1048576 + m.h) * 50 + m.me) * 97
def codeV (m : MM) : ByteArray := if m.ok then padS 18 (codeN m).toNat else ⟨#[]⟩
def codeE (m : MM) : Int := if m.ok then 0 else 5
def CodeP (m : MM) (w : World) (e : Ending) (w' : World) : Prop := Grew (T2 (.string (codeV m)) (I (codeE m))) w e w'
theorem rep48 (k : Nat) : (⟨(Lib.repeatL (⟨#[48]⟩ : ByteArray).data.toList k).toArray⟩ : ByteArray) = zerosS k := by
  unfold zerosS
  have h := Lib.repeatL_replicate (48 : UInt8) 1 k
  rw [Nat.mul_one] at h
  rw [← h]
  rfl
set_option maxHeartbeats 2000000 in
theorem Code_any (m : MM) (w : World) (hb : m.b < 18446744073709551616) (ht : PowTab w) : Calls Tryd.prog 5 #[m.v] w (CodeP m w) := by
  have W0 := Lib.hid (fun W => WordsM_any m W hb)
  unfold CodeP
  cases hm : m.ok
  · have e1 : codeV m = ⟨#[]⟩ := by simp [codeV, hm]
    have e2 : codeE m = 5 := by simp [codeE, hm]
    have e3 : wordsE m = 5 := by simp [wordsE, hm]
    rw [e1, e2]
    rw [e3] at W0
    generalize wordsL m = L at *
    clear e1 e2 e3 hm hb ht
    obtain ⟨me, rev, cr, h, b, bad, lk⟩ := m
    go_enter Tryd.func5, Tryd.ntmps5
    go_wp2_with fail
    refine (W0.out _).mono ?_
    rintro e w1 ⟨v, rfl, hS, k1⟩
    have k := below_box k1
    clear k1 hS
    go_wp2
    go_ret2
    exact Grew.intro rfl k
  · have e2 : codeE m = 0 := by simp [codeE, hm]
    have e3 : wordsE m = 0 := by simp [wordsE, hm]
    have hcv : codeV m = padS 18 (codeN m).toNat := by simp [codeV, hm]
    rw [e3] at W0
    rw [e2]
    generalize wordsL m = L at *
    generalize hcw : codeV m = cv at *
    clear hcw
    obtain ⟨me, rev, cr, h, b, bad, lk⟩ := m
    obtain ⟨⟨a1, a2, a3, a4, a5, a6, a7, a8, a9, a10, _⟩, hw⟩ := mayM_true.1 hm
    obtain ⟨h0, h1, _⟩ := mayW_bd hw
    simp only at a1 a2 a5 a6 h0 h1
    have n0 : 0 ≤ ((cr * 1048576 + h) * 50 + me) * 97 := by omega
    have n1 : ((cr * 1048576 + h) * 50 + me) * 97 < 1000000000000000000 := by omega
    have n2 := Lib.hid (show codeN ⟨me, rev, cr, h, b, bad, lk⟩ = ((cr * 1048576 + h) * 50 + me) * 97 from rfl)
    rw [n2.out] at hcv
    obtain ⟨n, hn⟩ := Int.eq_ofNat_of_zero_le n0
    have hn18 : n < 1000000000000000000 := by omega
    rw [hn, Int.toNat_natCast] at hcv
    have hds := decS_size (n := n) (k := 18) (by omega) (by decide)
    have A := Lib.hid (fun W hW => Itoa_nat n W (by omega) hW)
    have HT := Lib.hid ht
    rw [show ((n : Nat) : Int) = ((cr * 1048576 + h) * 50 + me) * 97 by omega] at A
    have B := Lib.hid (fun W => Tryd.strings_Repeat (⟨#[48]⟩ : ByteArray) (18 - (decS n).size) W (by omega) (by show 1 * _ ≤ _; omega))
    rw [rep48] at B
    unfold padS at hcv
    have HC := Lib.hid hcv
    have hcs := zerosS_size (18 - (decS n).size) (decS n)
    rw [← hcv] at hcs
    generalize zerosS (18 - (decS n).size) = zs at *
    have hzz : zs.size + (decS n).size ≤ 18 := by rw [← ByteArray.size_append, ← hcv]; omega
    clear e2 e3 hm hb ht hw hcv n2 hn hcs
    generalize decS n = s at *
    have e1 : ((18 - s.size : Nat) : Int) = 18 - (s.size : Int) := by omega
    rw [e1] at B
    have hov : ¬ 9223372036854775807 < zs.size + s.size := by omega
    clear e1
    have r1 : 0 ≤ cr * 1048576 := by omega
    have r2 : cr * 1048576 ≤ 104857600000000 := by omega
    go_enter Tryd.func5, Tryd.ntmps5
    go_wp2_with fail
    refine (W0.out _).mono ?_
    rintro e w1 ⟨v, rfl, hS, k1⟩
    obtain ⟨hc, hf⟩ := bcell k1
    have k := below_box k1
    have HT1 := Lib.hid (HT.out.below k)
    clear k1 hS
    go_wp2_with fail
    refine (A.out _ HT1.out).mono ?_
    rintro e w2 ⟨rfl, k2⟩
    have kk := k.trans (k2.mono k.size)
    clear k k2 A W0
    go_wp2_with fail
    refine (B.out _).mono ?_
    rintro e w3 ⟨rfl, k3⟩
    have kkk := kk.trans (k3.mono kk.size)
    go_wp2
    go_ret2
    exact Grew.intro (by rw [HC.out]; rfl) kkk
set_option maxHeartbeats 2000000 in
theorem Coded_any (m : MM) (w : World) (hb : m.b < 18446744073709551616) : Calls Tryd.prog 6 #[m.v] w (CodeP m w) := by
  unfold CodeP
  have M := Lib.hid (fun W => MeterMay_any m.me m.rev m.cr m.h m.b m.bad m.lk W hb)
  cases hm : m.ok
  · have e1 : codeV m = ⟨#[]⟩ := by simp [codeV, hm]
    have e2 : codeE m = 5 := by simp [codeE, hm]
    rw [e1, e2]
    have hm' : mayM m.me m.rev m.cr m.h m.b m.bad m.lk = false := hm
    rw [hm'] at M
    clear e1 e2 hm hm' hb
    obtain ⟨me, rev, cr, h, b, bad, lk⟩ := m
    simp only at M
    go_enter Tryd.func6, Tryd.ntmps6
    go_wp2_with fail
    refine (M.out _).mono ?_
    rintro e w1 ⟨rfl, k1⟩
    have k := below_box k1
    clear k1
    go_wp2
    go_ret2
    exact Grew.intro rfl k
  · have e2 : codeE m = 0 := by simp [codeE, hm]
    have hcv : codeV m = padS 18 (codeN m).toNat := by simp [codeV, hm]
    rw [e2]
    have hm' : mayM m.me m.rev m.cr m.h m.b m.bad m.lk = true := hm
    rw [hm'] at M
    generalize hcw : codeV m = cv at *
    clear hcw
    obtain ⟨me, rev, cr, h, b, bad, lk⟩ := m
    simp only at M
    obtain ⟨⟨a1, a2, a3, a4, a5, a6, a7, a8, a9, a10, _⟩, hw⟩ := mayM_true.1 hm
    obtain ⟨h0, h1, _⟩ := mayW_bd hw
    simp only at a1 a2 a5 a6 h0 h1
    have n0 : 0 ≤ ((cr * 1048576 + h) * 50 + me) * 97 := by omega
    have n2 := Lib.hid (show codeN ⟨me, rev, cr, h, b, bad, lk⟩ = ((cr * 1048576 + h) * 50 + me) * 97 from rfl)
    rw [n2.out] at hcv
    obtain ⟨n, hn⟩ := Int.eq_ofNat_of_zero_le n0
    have hn18 : n < 1000000000000000000 := by omega
    rw [hn, Int.toNat_natCast] at hcv
    have P := Lib.hid (fun W => padded_gen 18 n W (by decide) (by omega))
    rw [← hcv, show ((n : Nat) : Int) = 97 * (50 * (1048576 * cr + h) + me) by omega] at P
    clear e2 hm hm' hb hw hcv n2 hn
    go_enter Tryd.func6, Tryd.ntmps6
    go_wp2_with fail
    refine (M.out _).mono ?_
    rintro e w1 ⟨rfl, k1⟩
    obtain ⟨hc, hf⟩ := bcell k1
    have k := below_box k1
    clear k1
    go_wp2_with fail
    refine (P.out _).mono ?_
    rintro e w2 ⟨rfl, k2⟩
    have kk := k.trans (k2.mono k.size)
    go_wp2
    go_ret2
    exact Grew.intro rfl kk
end Go.Proofs.YtiiielccimchgaaDoor
