/- debt.Times and its reference -/
import Derived.Test.YtjkdngbaidjdmaaDebt
import Derived.Test.YtjkdngbaidjdmaaPart
namespace Go.Proofs.Ytjkdngbaidjdmaa
open Go.RowKit
set_option maxRecDepth 20000

def shareOk (t bp : Int) : Bool := inB t 0 100000000 && inB bp 0 10000
def shareA (t bp : Int) : Int := if shareOk t bp then partA t bp else 0
def shareE (t bp : Int) : Int := if shareOk t bp then 0 else 2
theorem shareOf_any (t bp : Int) (w : World) : Calls Try.prog 55 #[I t, I bp] w (Pure (T2 (I (shareA t bp)) (I (shareE t bp))) w) := by
  by_cases ht : inB t 0 100000000 = true
  · obtain ⟨t0, t1⟩ := inB_true.1 ht
    have h1 : inB t 0 1000000000000 = true := inB_true.2 ⟨by omega, by omega⟩
    have hA : shareA t bp = partA t bp := by
      simp only [shareA, shareOk, ht, Bool.true_and]
      cases hb : inB bp 0 10000
      · simp [partA, partOk, hb]
      · rfl
    have hE : shareE t bp = partE t bp := by
      simp only [shareE, shareOk, ht, Bool.true_and, partE, partOk, h1]
    rw [hA, hE]
    clear hA hE h1
    go_enter Try.func55, Try.ntmps55
    go_wp2_with (first | (go_at_call 46; refine (In_any _ _ _ _).mono ?_; rintro e w' ⟨rfl, rfl⟩) | (go_at_call 64; refine (parted_any _ _ _).mono ?_; rintro e w' ⟨rfl, rfl⟩))
    go_ret2
    exact Pure.intro rfl
  · simp only [Bool.not_eq_true] at ht
    have hA : shareA t bp = 0 := by simp [shareA, shareOk, ht]
    have hE : shareE t bp = 2 := by simp [shareE, shareOk, ht]
    rw [hA, hE]
    clear hA hE
    go_enter Try.func55, Try.ntmps55
    go_wp2_with (go_at_call 46; refine (In_any _ _ _ _).mono ?_; rintro e w' ⟨rfl, rfl⟩)
    go_ret2
    exact Pure.intro rfl

def timesE (xs : List ADebt) (t bp : Int) : Int :=
  if debtE xs = 0 then (if shareOk t bp then (if debtSum xs = 0 then 0 else if shareA t bp = 0 then 4 else 0) else 2) else debtE xs
def timesA (xs : List ADebt) (t bp : Int) : Int :=
  if debtE xs = 0 then (if shareOk t bp then (if debtSum xs = 0 then 0 else if shareA t bp = 0 then 0 else (debtSum xs + shareA t bp - 1) / shareA t bp) else 0) else 0

theorem ceil_eq (a s : Int) (hs : 1 ≤ s) : (a + s - 1) / s = if a / s * s < a then a / s + 1 else a / s := by
  have h1 := Int.mul_ediv_add_emod a s
  have h2 := Int.emod_nonneg a (show s ≠ 0 by omega)
  have h3 := Int.emod_lt_of_pos a (show 0 < s by omega)
  rw [Int.mul_comm] at h1
  split
  · have : a + s - 1 = (a % s - 1) + (a / s + 1) * s := by rw [Int.add_mul]; omega
    rw [this, Int.add_mul_ediv_right _ _ (by omega), Int.ediv_eq_zero_of_lt (by omega) (by omega)]
    omega
  · have : a + s - 1 = (s - 1) + a / s * s := by omega
    rw [this, Int.add_mul_ediv_right _ _ (by omega), Int.ediv_eq_zero_of_lt (by omega) (by omega)]
    omega

theorem debtSum_bd {xs : List ADebt} (h8 : xs.length ≤ 8) (hok : xs.all okDebt = true) : 0 ≤ debtSum xs ∧ debtSum xs ≤ 8000000000 := by
  have := sumTo_bd hok xs.length (Nat.le_refl _)
  rw [sumTo_all] at this
  omega

set_option maxHeartbeats 1000000 in
theorem Times_any (v : Value) (xs : List ADebt) (t bp : Int) (w : World) (h : Sl w v 2 xs.length (xs.flatMap ADebt.cells)) :
    Calls Try.prog 31 #[v, I t, I bp] w (Grew (T2 (I (timesA xs t bp)) (I (timesE xs t bp))) w) := by
  by_cases hE : debtE xs = 0
  · obtain ⟨h8, hok⟩ := debtE_zero hE
    have C := Lib.hid (fun W (hW : Sl W v 2 xs.length (xs.flatMap ADebt.cells)) => total_any v xs W hW h8 hok)
    have F := Lib.hid (fun W (hW : Sl W v 2 xs.length (xs.flatMap ADebt.cells)) => fault_any v xs W hW)
    have hsb := debtSum_bd h8 hok
    have hTA : timesA xs t bp = (if shareOk t bp then (if debtSum xs = 0 then 0 else if shareA t bp = 0 then 0 else (debtSum xs + shareA t bp - 1) / shareA t bp) else 0) := by simp [timesA, hE]
    have hTE : timesE xs t bp = (if shareOk t bp then (if debtSum xs = 0 then 0 else if shareA t bp = 0 then 4 else 0) else 2) := by simp [timesE, hE]
    rw [hE] at F
    clear hE h8 hok
    by_cases hs : shareOk t bp = true
    · rw [if_pos hs] at hTA hTE
      have hs' := hs
      simp only [shareOk, Bool.and_eq_true, inB_true] at hs'
      obtain ⟨⟨t0, t1⟩, p0, p1⟩ := hs'
      have hSA : shareA t bp = partA t bp := by simp [shareA, hs]
      have hPE : partE t bp = 0 := by
        have : partOk t bp = true := by simp [partOk, inB_true]; omega
        simp [partE, this]
      rw [hSA] at hTA hTE
      have P := Lib.hid (fun W => part_any t bp W)
      rw [hPE] at P
      have hpb := partA_bd t bp
      have hpl := partA_le t bp t0
      clear hSA hPE hs
      generalize partA t bp = s at *
      generalize debtSum xs = d at *
      by_cases hd : d = 0
      · rw [if_pos hd] at hTA hTE
        subst hd
        rw [hTA, hTE]
        clear hTA hTE
        go_enter Try.func31, Try.ntmps31
        go_wp2_with fail
        refine (F.out _ h).mono ?_
        rintro e w1 ⟨rfl, k1⟩
        have h1 := h.below k1
        go_wp2_with (first | (go_at_call 54; refine (P.out _).mono ?_; rintro e w' ⟨rfl, rfl⟩))
        refine (C.out _ h1).mono ?_
        rintro e w2 ⟨rfl, k2⟩
        go_wp2
        go_ret2
        exact Grew.intro rfl (k1.trans (k2.mono k1.size))
      · have hdB : (d == 0) = false := by simp [hd]
        rw [if_neg hd] at hTA hTE
        by_cases hz : s = 0
        · rw [if_pos hz] at hTA hTE
          subst hz
          rw [hTA, hTE]
          clear hTA hTE hd
          go_enter Try.func31, Try.ntmps31
          go_wp2_with fail
          refine (F.out _ h).mono ?_
          rintro e w1 ⟨rfl, k1⟩
          have h1 := h.below k1
          go_wp2_with (first | (go_at_call 54; refine (P.out _).mono ?_; rintro e w' ⟨rfl, rfl⟩))
          refine (C.out _ h1).mono ?_
          rintro e w2 ⟨rfl, k2⟩
          go_wp2
          go_ret2
          exact Grew.intro rfl (k1.trans (k2.mono k1.size))
        · have hzB : (s == 0) = false := by simp [hz]
          rw [if_neg hz] at hTA hTE
          have s1 : 1 ≤ s := by omega
          rw [hTE]
          have HA := Lib.hid hTA
          clear hTA hTE hd hz
          go_enter Try.func31, Try.ntmps31
          go_wp2_with fail
          refine (F.out _ h).mono ?_
          rintro e w1 ⟨rfl, k1⟩
          have h1 := h.below k1
          go_wp2_with (first | (go_at_call 54; refine (P.out _).mono ?_; rintro e w' ⟨rfl, rfl⟩))
          refine (C.out _ h1).mono ?_
          rintro e w2 ⟨rfl, k2⟩
          go_wp2
          go_ret2
          exact Grew.intro (eI2 HA.out.symm rfl) (k1.trans (k2.mono k1.size))
    · rw [if_neg hs] at hTA hTE
      rw [hTA, hTE]
      have hcase : (¬ (0 ≤ t ∧ t ≤ 1000000000000 ∧ 0 ≤ bp ∧ bp ≤ 10000)) ∨ (100000000 < t ∧ t ≤ 1000000000000 ∧ 0 ≤ bp ∧ bp ≤ 10000) := by
        simp only [shareOk, Bool.and_eq_true, inB_true] at hs; omega
      clear hTA hTE hs
      rcases hcase with hc | ⟨c1, c2, c3, c4⟩
      · have hPE : partE t bp = 2 := by
          have : partOk t bp = false := by
            rw [← Bool.not_eq_true]; simp only [partOk, Bool.and_eq_true, inB_true]; omega
          simp [partE, this]
        have P := Lib.hid (fun W => part_any t bp W)
        rw [hPE] at P
        clear hPE hc
        go_enter Try.func31, Try.ntmps31
        go_wp2_with fail
        refine (F.out _ h).mono ?_
        rintro e w1 ⟨rfl, k1⟩
        go_wp2_with (first | (go_at_call 54; refine (P.out _).mono ?_; rintro e w' ⟨rfl, rfl⟩))
        go_ret2
        exact Grew.intro rfl k1
      · have hPE : partE t bp = 0 := by
          have : partOk t bp = true := by simp only [partOk, Bool.and_eq_true, inB_true]; omega
          simp [partE, this]
        have P := Lib.hid (fun W => part_any t bp W)
        rw [hPE] at P
        clear hPE
        go_enter Try.func31, Try.ntmps31
        go_wp2_with fail
        refine (F.out _ h).mono ?_
        rintro e w1 ⟨rfl, k1⟩
        go_wp2_with (first | (go_at_call 54; refine (P.out _).mono ?_; rintro e w' ⟨rfl, rfl⟩))
        go_ret2
        exact Grew.intro rfl k1
  · have hA : timesA xs t bp = 0 := by simp [timesA, hE]
    have hE2 : timesE xs t bp = debtE xs := by simp [timesE, hE]
    have hb : (debtE xs != 0) = true := by simp [hE]
    rw [hA, hE2]
    clear hA hE hE2
    go_enter Try.func31, Try.ntmps31
    go_wp2_with fail
    refine (fault_any v xs _ h).mono ?_
    rintro e w1 ⟨rfl, k1⟩
    go_wp2
    go_ret2
    exact Grew.intro rfl k1

set_option maxHeartbeats 1000000 in
theorem TimesOf_any (v : Value) (xs : List ADebt) (t bp : Int) (w : World) (h : Sl w v 2 xs.length (xs.flatMap ADebt.cells)) :
    Calls Try.prog 32 #[v, I t, I bp] w (Pure (T2 (I (timesA xs t bp)) (I (timesE xs t bp))) w) := by
  have F := Lib.hid (fun W (hW : Sl W v 2 xs.length (xs.flatMap ADebt.cells)) => Owed_any v xs W hW)
  by_cases hE : debtE xs = 0
  · obtain ⟨h8, hok⟩ := debtE_zero hE
    have hsb := debtSum_bd h8 hok
    have hTA : timesA xs t bp = (if shareOk t bp then (if debtSum xs = 0 then 0 else if shareA t bp = 0 then 0 else (debtSum xs + shareA t bp - 1) / shareA t bp) else 0) := by simp [timesA, hE]
    have hTE : timesE xs t bp = (if shareOk t bp then (if debtSum xs = 0 then 0 else if shareA t bp = 0 then 4 else 0) else 2) := by simp [timesE, hE]
    have hA : totalA xs = debtSum xs := by simp [totalA, hE]
    have P := Lib.hid (fun W => shareOf_any t bp W)
    rw [hE, hA] at F
    clear hE h8 hok hA
    by_cases hs : shareOk t bp = true
    · rw [if_pos hs] at hTA hTE
      have hs' := hs
      simp only [shareOk, Bool.and_eq_true, inB_true] at hs'
      obtain ⟨⟨t0, t1⟩, p0, p1⟩ := hs'
      have hSE : shareE t bp = 0 := by simp [shareE, hs]
      have hSA : shareA t bp = partA t bp := by simp [shareA, hs]
      have hpb := partA_bd t bp
      have hpl := partA_le t bp t0
      rw [hSE] at P
      rw [← hSA] at hpb hpl
      clear hSE hs hSA
      generalize shareA t bp = s at *
      generalize debtSum xs = d at *
      by_cases hd : d = 0
      · rw [if_pos hd] at hTA hTE
        subst hd
        rw [hTA, hTE]
        clear hTA hTE
        go_enter Try.func32, Try.ntmps32
        go_wp2_with fail
        refine (F.out _ h).mono ?_
        rintro e w1 ⟨rfl, rfl⟩
        go_wp2_with (first | (go_at_call 55; refine (P.out _).mono ?_; rintro e w' ⟨rfl, rfl⟩))
        go_ret2
        exact Pure.intro rfl
      · have hdB : (d == 0) = false := by simp [hd]
        rw [if_neg hd] at hTA hTE
        by_cases hz : s = 0
        · rw [if_pos hz] at hTA hTE
          subst hz
          rw [hTA, hTE]
          clear hTA hTE hd
          go_enter Try.func32, Try.ntmps32
          go_wp2_with fail
          refine (F.out _ h).mono ?_
          rintro e w1 ⟨rfl, rfl⟩
          go_wp2_with (first | (go_at_call 55; refine (P.out _).mono ?_; rintro e w' ⟨rfl, rfl⟩))
          go_ret2
          exact Pure.intro rfl
        · have hzB : (s == 0) = false := by simp [hz]
          rw [if_neg hz] at hTA hTE
          have s1 : 1 ≤ s := by omega
          rw [hTE]
          rw [ceil_eq d s s1] at hTA
          have hq0 : 0 ≤ d / s := Int.ediv_nonneg (by omega) (by omega)
          have hq1 : d / s * s ≤ d := Int.ediv_mul_le _ (by omega)
          have hq2 : d / s ≤ d := Int.ediv_le_self _ (by omega)
          have hq3 : 0 ≤ d / s * s := Int.mul_nonneg hq0 (by omega)
          by_cases hlt : d / s * s < d
          · rw [if_pos hlt] at hTA
            have HA := Lib.hid hTA
            clear hTA hTE hd hz
            go_enter Try.func32, Try.ntmps32
            go_wp2_with fail
            refine (F.out _ h).mono ?_
            rintro e w1 ⟨rfl, rfl⟩
            go_wp2_with (first | (go_at_call 55; refine (P.out _).mono ?_; rintro e w' ⟨rfl, rfl⟩))
            go_ret2
            exact Pure.intro (eI2 HA.out.symm rfl)
          · rw [if_neg hlt] at hTA
            have HA := Lib.hid hTA
            clear hTA hTE hd hz
            go_enter Try.func32, Try.ntmps32
            go_wp2_with fail
            refine (F.out _ h).mono ?_
            rintro e w1 ⟨rfl, rfl⟩
            go_wp2_with (first | (go_at_call 55; refine (P.out _).mono ?_; rintro e w' ⟨rfl, rfl⟩))
            go_ret2
            exact Pure.intro (eI2 HA.out.symm rfl)
    · rw [if_neg hs] at hTA hTE
      have hSE : shareE t bp = 2 := by simp [shareE, hs]
      rw [hSE] at P
      rw [hTA, hTE]
      clear hTA hTE hs hSE
      go_enter Try.func32, Try.ntmps32
      go_wp2_with fail
      refine (F.out _ h).mono ?_
      rintro e w1 ⟨rfl, rfl⟩
      go_wp2_with (first | (go_at_call 55; refine (P.out _).mono ?_; rintro e w' ⟨rfl, rfl⟩))
      go_ret2
      exact Pure.intro rfl
  · have hA : timesA xs t bp = 0 := by simp [timesA, hE]
    have hE2 : timesE xs t bp = debtE xs := by simp [timesE, hE]
    have hb : (debtE xs != 0) = true := by simp [hE]
    rw [hA, hE2]
    clear hA hE hE2
    go_enter Try.func32, Try.ntmps32
    go_wp2_with fail
    refine (F.out _ h).mono ?_
    rintro e w1 ⟨rfl, rfl⟩
    go_wp2
    go_ret2
    exact Pure.intro rfl
end Go.Proofs.Ytjkdngbaidjdmaa
