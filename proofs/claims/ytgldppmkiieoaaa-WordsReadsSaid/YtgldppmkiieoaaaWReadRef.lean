/- ref.WideRead -/
import Derived.Test.YtgldppmkiieoaaaWRead
namespace Go.Proofs.Ytgldppmkiieoaaa
open Go.RowKit
set_option maxRecDepth 20000

def RefRel (W : World) (s : ByteArray) (k : Nat) (wr : World) : Prop :=
  BN wr (W.heap.size + 1) (decV s k) ∧ Own wr W.heap.size [U32 0, U32 0, U32 0] ∧ Below W.heap.size W wr
theorem RefRel.start {W : World} {s : ByteArray} : RefRel W s 0 ((W.alloc (.cells #[U32 0, U32 0, U32 0] 24)).alloc (.cells #[.bool false, .slice none 0 0] 64)) := by
  refine ⟨?_, (Own.new (w := W) rfl [U32 0, U32 0, U32 0] 24).alloc _, (boxed_below W _).alloc (boxed_below W _).size _⟩
  have := zeroBN (W.alloc (.cells #[U32 0, U32 0, U32 0] 24))
  rwa [World.size_alloc] at this
theorem RefRel.drewN {W : World} {s : ByteArray} {k : Nat} {wr : World} (h : RefRel W s k wr) (q : Nat) : RefRel W s k (wr.drewN q) := ⟨h.1, h.2.1, drewN_below h.2.2 q⟩
theorem WideRead_size (s : ByteArray) (w : World) (h : 40 < s.size) : Calls Try.prog 25 #[.string s] w (GrewW2 0 0 0 1 w) := by
  have k0 := boxed_below w (.cells #[U32 0, U32 0, U32 0] 24)
  have zO := (Own.new (w := w) rfl [U32 0, U32 0, U32 0] 24)
  have z0 := zO.cell 0 (by simp)
  have zf0 := zO.frozen 0
  have z1 := zO.cell 1 (by simp)
  have zf1 := zO.frozen 1
  have z2 := zO.cell 2 (by simp)
  have zf2 := zO.frozen 2
  simp only [Nat.zero_add, List.getD_cons_zero, List.getD_cons_succ] at z0 z1 z2
  clear zO
  have r1 := set_same
  have r2 := set_off
  have r3 := set_blk
  have h1 : (40 : Int) < (s.size : Int) := by omega
  go_enter Try.func25, Try.ntmps25
  go_wp2
  refine bodyPost_ret (v := T2 (wideV 0 0 0) (I 1)) (by simp [results, Try.results25, go_sem, *]) rfl ⟨rfl, (by repeat first | with_reducible assumption | with_reducible exact Below.refl _ _ | with_reducible refine Below.setCell ?_ (by first | exact Nat.le_refl _ | exact Below.size (by assumption) | (simp; done) | (simp; omega) | omega) _ | with_reducible refine Below.alloc ?_ (by first | exact Nat.le_refl _ | exact Below.size (by assumption) | (simp; done) | (simp; omega) | omega) _ | with_reducible refine drewN_below ?_ _ | with_reducible refine Below.drew ?_)⟩
theorem WideRead_form (s : ByteArray) (w : World) (h : ¬ 40 < s.size) (hf : formS s = true) : Calls Try.prog 25 #[.string s] w (GrewW2 0 0 0 3 w) := by
  have k0 := boxed_below w (.cells #[U32 0, U32 0, U32 0] 24)
  have zO := (Own.new (w := w) rfl [U32 0, U32 0, U32 0] 24)
  have z0 := zO.cell 0 (by simp)
  have zf0 := zO.frozen 0
  have z1 := zO.cell 1 (by simp)
  have zf1 := zO.frozen 1
  have z2 := zO.cell 2 (by simp)
  have zf2 := zO.frozen 2
  simp only [Nat.zero_add, List.getD_cons_zero, List.getD_cons_succ] at z0 z1 z2
  clear zO
  have r1 := set_same
  have r2 := set_off
  have r3 := set_blk
  have h1 : ¬ (40 : Int) < (s.size : Int) := by omega
  unfold formS at hf
  rw [decide_eq_true_eq] at hf
  by_cases h0 : s.size = 0
  · have h0' : (s.size : Int) = 0 := by omega
    clear h hf
    go_enter Try.func25, Try.ntmps25
    go_wp2
    refine bodyPost_ret (v := T2 (wideV 0 0 0) (I 3)) (by simp [results, Try.results25, go_sem, *]) rfl ⟨rfl, (by repeat first | with_reducible assumption | with_reducible exact Below.refl _ _ | with_reducible refine Below.setCell ?_ (by first | exact Nat.le_refl _ | exact Below.size (by assumption) | (simp; done) | (simp; omega) | omega) _ | with_reducible refine Below.alloc ?_ (by first | exact Nat.le_refl _ | exact Below.size (by assumption) | (simp; done) | (simp; omega) | omega) _ | with_reducible refine drewN_below ?_ _ | with_reducible refine Below.drew ?_)⟩
  · obtain ⟨f1, f2⟩ := hf.resolve_left h0
    have hs0 : 0 < s.size := by omega
    have h0' : ¬ (s.size : Int) = 0 := by omega
    have hb := bat_eq (s := s) (k := 0) hs0
    have h2 : (1 : Int) < (s.size : Int) := by omega
    go_enter Try.func25, Try.ntmps25
    go_wp2
    refine bodyPost_ret (v := T2 (wideV 0 0 0) (I 3)) (by simp [results, Try.results25, go_sem, *]) rfl ⟨rfl, (by repeat first | with_reducible assumption | with_reducible exact Below.refl _ _ | with_reducible refine Below.setCell ?_ (by first | exact Nat.le_refl _ | exact Below.size (by assumption) | (simp; done) | (simp; omega) | omega) _ | with_reducible refine Below.alloc ?_ (by first | exact Nat.le_refl _ | exact Below.size (by assumption) | (simp; done) | (simp; omega) | omega) _ | with_reducible refine drewN_below ?_ _ | with_reducible refine Below.drew ?_)⟩
set_option maxHeartbeats 4000000 in
theorem WideRead_main (s : ByteArray) (w : World) (h : ¬ 40 < s.size) (hf : formS s = false) : Calls Try.prog 25 #[.string s] w (GrewWE (readV s) (readE s) w) := by
  have hE : readE s = if allDig s s.size then (if 79228162514264337593543950336 ≤ decV s s.size then 2 else 0) else 3 := by unfold readE; rw [if_neg h, hf]; rfl
  have HBAD : Hid (allDig s s.size = false → Ending.returned (T2 (wideV 0 0 0) (I 3)) = Ending.returned (T2 (wideV (readV s % 4294967296) (readV s / 4294967296 % 4294967296) (readV s / 18446744073709551616 % 4294967296)) (I (readE s)))) := fun ha => by
    have h3 : readE s = 3 := by rw [hE, ha]; rfl
    rw [readV_zero (by rw [h3]; decide), h3]
  have HE := Lib.hid hE
  unfold formS at hf
  rw [decide_eq_false_iff_not] at hf
  have h1 : ¬ (40 : Int) < (s.size : Int) := by omega
  have hs0 : 0 < s.size := by omega
  have h0' : ¬ (s.size : Int) = 0 := by omega
  have hb0 := bat_eq (s := s) (k := 0) hs0
  have hnes : ¬ s = ByteArray.empty := by rintro rfl; exact absurd hs0 (by decide)
  have hz1 : ((s.size : Int) == 0) = false := by rw [beq_eq_false_iff_ne]; omega
  clear hE
  by_cases h2 : s.size ≤ 1
  · have h2' : ¬ (1 : Int) < (s.size : Int) := by omega
    go_enter Try.func25, Try.ntmps25
    go_wp2
    go_loopw [5] (fun i wr => ∃ k : Nat, k ≤ s.size ∧ i = I k ∧ Hid (allDig s k = true) ∧ Hid (RefRel w s k wr)) (fun i _ => s.size - (intOf i).toNat)
    case atStart => exact ⟨0, Nat.zero_le _, rfl, rfl, RefRel.start⟩
    case round =>
      obtain ⟨k, hk, rfl, hall, hR⟩ := hrel
      by_cases hlt : k < s.size
      · have hi0 : (0 : Int) ≤ (k : Int) := by omega
        have hi1 : (k : Int) < (s.size : Int) := by omega
        have hb := bat_eq hlt
        have hdf : digAt s k = inB ((bat s k : Nat) : Int) 48 57 := rfl
        cases hd : digAt s k
        · have hbad := Lib.hid (HBAD.out (allDig_no hlt hd))
          rw [hd] at hdf
          obtain ⟨hB, oR, hbw⟩ := hR.out
          have zO := oR
          have z0 := zO.cell 0 (by simp)
          have zf0 := zO.frozen 0
          have z1 := zO.cell 1 (by simp)
          have zf1 := zO.frozen 1
          have z2 := zO.cell 2 (by simp)
          have zf2 := zO.frozen 2
          simp only [Nat.zero_add, List.getD_cons_zero, List.getD_cons_succ] at z0 z1 z2
          clear zO
          have hdf' := hdf.symm
          clear hd hdf oR hB hR
          have r1 := set_same
          have r2 := set_off
          have r3 := set_blk
          go_wp2_with (go_at_call 55; refine (Digit_any _ _).mono ?_; rintro e w' ⟨rfl, rfl⟩)
          refine bodyPost_ret (v := T2 (wideV 0 0 0) (I 3)) (by simp [results, Try.results25, go_sem, *]) rfl ⟨hbad.out, (by repeat first | with_reducible assumption | with_reducible exact Below.refl _ _ | with_reducible refine Below.setCell ?_ (by first | exact Nat.le_refl _ | exact Below.size (by assumption) | (simp; done) | (simp; omega) | omega) _ | with_reducible refine Below.alloc ?_ (by first | exact Nat.le_refl _ | exact Below.size (by assumption) | (simp; done) | (simp; omega) | omega) _ | with_reducible refine drewN_below ?_ _ | with_reducible refine Below.drew ?_)⟩
        · obtain ⟨d0, d1⟩ := digAt_true.1 hd
          have hA := Lib.hid (allDig_succ hall.out hd)
          have hdf' := (hdf.symm.trans hd)
          obtain ⟨dg, hdg⟩ : ∃ dg, bat s k = 48 + dg := ⟨bat s k - 48, by omega⟩
          have hdV := Lib.hid (show decV s (k + 1) = decV s k * 10 + dg by rw [decV, hdg]; omega)
          have h10 : decV s k < 10 ^ 40 := Nat.lt_of_lt_of_le (decV_lt k hall.out) (Nat.pow_le_pow_right (by decide) (by omega))
          have big : 10 ^ 42 < 4294967296 ^ 100 := Nat.lt_of_lt_of_le (by decide : 10 ^ 42 < 4294967296 ^ 5) (Nat.pow_le_pow_right (by decide) (by decide))
          obtain ⟨hB, oR, hbw⟩ := hR.out
          have N1 := Lib.hid (fun W => NewInt_nat 10 W (by decide))
          have N2 := Lib.hid (fun W => NewInt_nat dg W (by omega))
          have M := Lib.hid (fun W y hz hy => Mul_any (w.heap.size + 1) (w.heap.size + 1) y (decV s k) (decV s k) 10 W hz hz hy (Nat.lt_trans (by omega) big) (Nat.lt_trans (by decide) big))
          have A := Lib.hid (fun W y hz hy => Add_any (w.heap.size + 1) (w.heap.size + 1) y (decV s k * 10) (decV s k * 10) dg W hz hz hy (Nat.lt_trans (by omega) big) (Nat.lt_trans (by omega) big))
          rw [← hdV.out] at A
          have hdgi : IntKind.u8.wrap (((bat s k : Nat) : Int) - 48) = (dg : Int) := by
            rw [hdg]; show (((48 + dg : Nat) : Int) - 48) % 256 = _; omega
          have hdgi2 : ((bat s k : Nat) : Int) - 48 = (dg : Int) := by omega
          have hdg9 : (dg : Int) % 256 = (dg : Int) := by omega
          clear hd hdf h10 big hdg d0 d1 hR
          obtain ⟨vn, hvn⟩ : ∃ vn, vn = decV s (k + 1) := ⟨_, rfl⟩
          have HVN := Lib.hid hvn.symm
          rw [← hvn] at A
          clear hdV hvn
          generalize decV s k * 10 = vm at *
          generalize decV s k = vv at *
          generalize bat s k = b at *
          go_wp2_with (go_at_call 55; refine (Digit_any _ _).mono ?_; rintro e w' ⟨rfl, rfl⟩)
          refine (N1.out _).mono ?_
          rintro e W1 ⟨y, rfl, hy, hyl, k1⟩
          have hB1 := hB.below k1
          have oR1 := oR.below k1
          have kk1 := hbw.trans (k1.mono hbw.size)
          have hbl := hB.lt
          clear hB oR hbw k1
          go_wp2_with fail
          refine (M.out _ _ hB1 hy).mono ?_
          rintro e W2 ⟨rfl, hB2, c2⟩
          have oR2 := oR1.chg c2 (by omega)
          have kk2 := c2.below kk1 (by omega) kk1.size
          clear hB1 oR1 kk1 c2 hy
          go_wp2_with fail
          refine (N2.out _).mono ?_
          rintro e W3 ⟨y2, rfl, hy2, hyl2, k3⟩
          have hB3 := hB2.below k3
          have oR3 := oR2.below k3
          have kk3 := kk2.trans (k3.mono kk2.size)
          clear hB2 oR2 kk2 k3
          go_wp2_with fail
          refine (A.out _ _ hB3 hy2).mono ?_
          rintro e W4 ⟨rfl, hB4, c4⟩
          have oR4 := oR3.chg c4 (by omega)
          have kk4 := c4.below kk3 (by omega) kk3.size
          have hnew : Hid (RefRel w s (k + 1) W4) := ⟨by rw [HVN.out]; exact hB4, oR4, kk4⟩
          clear hB3 oR3 kk3 c4 hy2 hB4 oR4 kk4
          go_wp2
          exact ⟨⟨k + 1, by omega, by go_num, hA, hnew⟩, by simp [intOf]; try omega⟩
      · have hks : k = s.size := by omega
        subst hks
        have hE2 := HE.out
        rw [hall.out, if_pos rfl] at hE2
        have hge : ¬ ((s.size : Int) < (s.size : Int)) := by omega
        have h10 : decV s s.size < 10 ^ 40 := Nat.lt_of_lt_of_le (decV_lt s.size hall.out) (Nat.pow_le_pow_right (by decide) (by omega))
        have big : 10 ^ 40 < 4294967296 ^ 100 := Nat.lt_of_lt_of_le (by decide : 10 ^ 40 < 4294967296 ^ 5) (Nat.pow_le_pow_right (by decide) (by decide))
        obtain ⟨hB, oR, hbw⟩ := hR.out
        have L := Lib.hid (BitLen_any (w.heap.size + 1) (decV s s.size) wr hB (Nat.lt_trans h10 big))
        by_cases hov : 79228162514264337593543950336 ≤ decV s s.size
        · rw [if_pos hov] at hE2
          have hfin : Hid (Ending.returned (T2 (wideV 0 0 0) (I 2)) = Ending.returned (T2 (wideV (readV s % 4294967296) (readV s / 4294967296 % 4294967296) (readV s / 18446744073709551616 % 4294967296)) (I (readE s)))) := by
            rw [readV_zero (by rw [hE2]; decide), hE2]
            rfl
          have hbl := blen_ge 96 (decV s s.size) hov
          have hbl' : (96 : Int) < ((blen (decV s s.size) : Nat) : Int) := by omega
          have qO := oR
          have q0 := qO.cell 0 (by simp)
          have qf0 := qO.frozen 0
          have q1 := qO.cell 1 (by simp)
          have qf1 := qO.frozen 1
          have q2 := qO.cell 2 (by simp)
          have qf2 := qO.frozen 2
          simp only [Nat.zero_add, List.getD_cons_zero, List.getD_cons_succ] at q0 q1 q2
          clear qO
          clear oR hR hE2 hB hbl h10 big hov
          generalize blen (decV s s.size) = bb at *
          have r1 := set_same
          have r2 := set_off
          have r3 := set_blk
          go_wp2_with fail
          refine L.out.mono ?_
          rintro e w' ⟨rfl, rfl⟩
          go_wp2
          refine bodyPost_ret (v := T2 (wideV 0 0 0) (I 2)) (by simp [results, Try.results25, go_sem, *]) rfl ⟨hfin.out, (by repeat first | with_reducible assumption | with_reducible exact Below.refl _ _ | with_reducible refine Below.setCell ?_ (by first | exact Nat.le_refl _ | exact Below.size (by assumption) | (simp; done) | (simp; omega) | omega) _ | with_reducible refine Below.alloc ?_ (by first | exact Nat.le_refl _ | exact Below.size (by assumption) | (simp; done) | (simp; omega) | omega) _ | with_reducible refine drewN_below ?_ _ | with_reducible refine Below.drew ?_)⟩
        · rw [if_neg hov] at hE2
          have h6 : readV s = decV s s.size := by unfold readV; rw [if_pos hE2]
          have hbl := blen_lt 96 (decV s s.size) (Nat.lt_of_not_le hov)
          have hbl' : ¬ (96 : Int) < ((blen (decV s s.size) : Nat) : Int) := by omega
          have V := Lib.hid (wide96_any (w.heap.size + 1) (decV s s.size) wr hB (by omega))
          have HE2 := Lib.hid hE2
          have H6 := Lib.hid h6
          have hor := oR.lt
          clear hR hE2 hB hbl h10 big hov h6
          generalize blen (decV s s.size) = bb at *
          rw [← H6.out] at V
          generalize hn0 : readV s % 4294967296 = n0 at V
          generalize hn1 : readV s / 4294967296 % 4294967296 = n1 at V
          generalize hn2 : readV s / 18446744073709551616 % 4294967296 = n2 at V
          have HFN := Lib.hid (And.intro hn0 (And.intro hn1 hn2))
          clear hn0 hn1 hn2
          generalize readV s / 79228162514264337593543950336 = n3 at V
          go_wp2_with fail
          refine L.out.mono ?_
          rintro e w' ⟨rfl, rfl⟩
          go_wp2_with fail
          refine V.out.mono ?_
          rintro e w3 ⟨rfl, k3⟩
          have hq := (oR.below k3).lt
          have qO := oR.below k3
          have q0 := qO.cell 0 (by simp)
          have qf0 := qO.frozen 0
          have q1 := qO.cell 1 (by simp)
          have qf1 := qO.frozen 1
          have q2 := qO.cell 2 (by simp)
          have qf2 := qO.frozen 2
          simp only [Nat.zero_add, List.getD_cons_zero, List.getD_cons_succ] at q0 q1 q2
          clear qO
          have kk3 := hbw.trans (k3.mono hbw.size)
          clear oR k3
          have r1 := set_same
          have r2 := set_off
          have r3 := set_blk
          go_wp2
          exact bodyPost_ret (v := T2 (wideV n0 n1 n2) (I 0)) (by simp [results, Try.results25, go_sem, *]; try omega) rfl ⟨by rw [HE2.out, HFN.out.1, HFN.out.2.1, HFN.out.2.2], (by repeat first | with_reducible assumption | with_reducible exact Below.refl _ _ | with_reducible refine Below.setCell ?_ (by first | exact Nat.le_refl _ | exact Below.size (by assumption) | (simp; done) | (simp; omega) | omega) _ | with_reducible refine Below.alloc ?_ (by first | exact Nat.le_refl _ | exact Below.size (by assumption) | (simp; done) | (simp; omega) | omega) _ | with_reducible refine drewN_below ?_ _ | with_reducible refine Below.drew ?_)⟩
  · have h2' : (1 : Int) < (s.size : Int) := by omega
    have h48' : ¬ ((bat s 0 : Nat) : Int) = 48 := by omega
    have hz2 : (((bat s 0 : Nat) : Int) == 48) = false := by rw [beq_eq_false_iff_ne]; omega
    go_enter Try.func25, Try.ntmps25
    go_wp2
    go_loopw [5] (fun i wr => ∃ k : Nat, k ≤ s.size ∧ i = I k ∧ Hid (allDig s k = true) ∧ Hid (RefRel w s k wr)) (fun i _ => s.size - (intOf i).toNat)
    case atStart => exact ⟨0, Nat.zero_le _, rfl, rfl, RefRel.start⟩
    case round =>
      obtain ⟨k, hk, rfl, hall, hR⟩ := hrel
      by_cases hlt : k < s.size
      · have hi0 : (0 : Int) ≤ (k : Int) := by omega
        have hi1 : (k : Int) < (s.size : Int) := by omega
        have hb := bat_eq hlt
        have hdf : digAt s k = inB ((bat s k : Nat) : Int) 48 57 := rfl
        cases hd : digAt s k
        · have hbad := Lib.hid (HBAD.out (allDig_no hlt hd))
          rw [hd] at hdf
          obtain ⟨hB, oR, hbw⟩ := hR.out
          have zO := oR
          have z0 := zO.cell 0 (by simp)
          have zf0 := zO.frozen 0
          have z1 := zO.cell 1 (by simp)
          have zf1 := zO.frozen 1
          have z2 := zO.cell 2 (by simp)
          have zf2 := zO.frozen 2
          simp only [Nat.zero_add, List.getD_cons_zero, List.getD_cons_succ] at z0 z1 z2
          clear zO
          have hdf' := hdf.symm
          clear hd hdf oR hB hR
          have r1 := set_same
          have r2 := set_off
          have r3 := set_blk
          go_wp2_with (go_at_call 55; refine (Digit_any _ _).mono ?_; rintro e w' ⟨rfl, rfl⟩)
          refine bodyPost_ret (v := T2 (wideV 0 0 0) (I 3)) (by simp [results, Try.results25, go_sem, *]) rfl ⟨hbad.out, (by repeat first | with_reducible assumption | with_reducible exact Below.refl _ _ | with_reducible refine Below.setCell ?_ (by first | exact Nat.le_refl _ | exact Below.size (by assumption) | (simp; done) | (simp; omega) | omega) _ | with_reducible refine Below.alloc ?_ (by first | exact Nat.le_refl _ | exact Below.size (by assumption) | (simp; done) | (simp; omega) | omega) _ | with_reducible refine drewN_below ?_ _ | with_reducible refine Below.drew ?_)⟩
        · obtain ⟨d0, d1⟩ := digAt_true.1 hd
          have hA := Lib.hid (allDig_succ hall.out hd)
          have hdf' := (hdf.symm.trans hd)
          obtain ⟨dg, hdg⟩ : ∃ dg, bat s k = 48 + dg := ⟨bat s k - 48, by omega⟩
          have hdV := Lib.hid (show decV s (k + 1) = decV s k * 10 + dg by rw [decV, hdg]; omega)
          have h10 : decV s k < 10 ^ 40 := Nat.lt_of_lt_of_le (decV_lt k hall.out) (Nat.pow_le_pow_right (by decide) (by omega))
          have big : 10 ^ 42 < 4294967296 ^ 100 := Nat.lt_of_lt_of_le (by decide : 10 ^ 42 < 4294967296 ^ 5) (Nat.pow_le_pow_right (by decide) (by decide))
          obtain ⟨hB, oR, hbw⟩ := hR.out
          have N1 := Lib.hid (fun W => NewInt_nat 10 W (by decide))
          have N2 := Lib.hid (fun W => NewInt_nat dg W (by omega))
          have M := Lib.hid (fun W y hz hy => Mul_any (w.heap.size + 1) (w.heap.size + 1) y (decV s k) (decV s k) 10 W hz hz hy (Nat.lt_trans (by omega) big) (Nat.lt_trans (by decide) big))
          have A := Lib.hid (fun W y hz hy => Add_any (w.heap.size + 1) (w.heap.size + 1) y (decV s k * 10) (decV s k * 10) dg W hz hz hy (Nat.lt_trans (by omega) big) (Nat.lt_trans (by omega) big))
          rw [← hdV.out] at A
          have hdgi : IntKind.u8.wrap (((bat s k : Nat) : Int) - 48) = (dg : Int) := by
            rw [hdg]; show (((48 + dg : Nat) : Int) - 48) % 256 = _; omega
          have hdgi2 : ((bat s k : Nat) : Int) - 48 = (dg : Int) := by omega
          have hdg9 : (dg : Int) % 256 = (dg : Int) := by omega
          clear hd hdf h10 big hdg d0 d1 hR
          obtain ⟨vn, hvn⟩ : ∃ vn, vn = decV s (k + 1) := ⟨_, rfl⟩
          have HVN := Lib.hid hvn.symm
          rw [← hvn] at A
          clear hdV hvn
          generalize decV s k * 10 = vm at *
          generalize decV s k = vv at *
          generalize bat s k = b at *
          go_wp2_with (go_at_call 55; refine (Digit_any _ _).mono ?_; rintro e w' ⟨rfl, rfl⟩)
          refine (N1.out _).mono ?_
          rintro e W1 ⟨y, rfl, hy, hyl, k1⟩
          have hB1 := hB.below k1
          have oR1 := oR.below k1
          have kk1 := hbw.trans (k1.mono hbw.size)
          have hbl := hB.lt
          clear hB oR hbw k1
          go_wp2_with fail
          refine (M.out _ _ hB1 hy).mono ?_
          rintro e W2 ⟨rfl, hB2, c2⟩
          have oR2 := oR1.chg c2 (by omega)
          have kk2 := c2.below kk1 (by omega) kk1.size
          clear hB1 oR1 kk1 c2 hy
          go_wp2_with fail
          refine (N2.out _).mono ?_
          rintro e W3 ⟨y2, rfl, hy2, hyl2, k3⟩
          have hB3 := hB2.below k3
          have oR3 := oR2.below k3
          have kk3 := kk2.trans (k3.mono kk2.size)
          clear hB2 oR2 kk2 k3
          go_wp2_with fail
          refine (A.out _ _ hB3 hy2).mono ?_
          rintro e W4 ⟨rfl, hB4, c4⟩
          have oR4 := oR3.chg c4 (by omega)
          have kk4 := c4.below kk3 (by omega) kk3.size
          have hnew : Hid (RefRel w s (k + 1) W4) := ⟨by rw [HVN.out]; exact hB4, oR4, kk4⟩
          clear hB3 oR3 kk3 c4 hy2 hB4 oR4 kk4
          go_wp2
          exact ⟨⟨k + 1, by omega, by go_num, hA, hnew⟩, by simp [intOf]; try omega⟩
      · have hks : k = s.size := by omega
        subst hks
        have hE2 := HE.out
        rw [hall.out, if_pos rfl] at hE2
        have hge : ¬ ((s.size : Int) < (s.size : Int)) := by omega
        have h10 : decV s s.size < 10 ^ 40 := Nat.lt_of_lt_of_le (decV_lt s.size hall.out) (Nat.pow_le_pow_right (by decide) (by omega))
        have big : 10 ^ 40 < 4294967296 ^ 100 := Nat.lt_of_lt_of_le (by decide : 10 ^ 40 < 4294967296 ^ 5) (Nat.pow_le_pow_right (by decide) (by decide))
        obtain ⟨hB, oR, hbw⟩ := hR.out
        have L := Lib.hid (BitLen_any (w.heap.size + 1) (decV s s.size) wr hB (Nat.lt_trans h10 big))
        by_cases hov : 79228162514264337593543950336 ≤ decV s s.size
        · rw [if_pos hov] at hE2
          have hfin : Hid (Ending.returned (T2 (wideV 0 0 0) (I 2)) = Ending.returned (T2 (wideV (readV s % 4294967296) (readV s / 4294967296 % 4294967296) (readV s / 18446744073709551616 % 4294967296)) (I (readE s)))) := by
            rw [readV_zero (by rw [hE2]; decide), hE2]
            rfl
          have hbl := blen_ge 96 (decV s s.size) hov
          have hbl' : (96 : Int) < ((blen (decV s s.size) : Nat) : Int) := by omega
          have qO := oR
          have q0 := qO.cell 0 (by simp)
          have qf0 := qO.frozen 0
          have q1 := qO.cell 1 (by simp)
          have qf1 := qO.frozen 1
          have q2 := qO.cell 2 (by simp)
          have qf2 := qO.frozen 2
          simp only [Nat.zero_add, List.getD_cons_zero, List.getD_cons_succ] at q0 q1 q2
          clear qO
          clear oR hR hE2 hB hbl h10 big hov
          generalize blen (decV s s.size) = bb at *
          have r1 := set_same
          have r2 := set_off
          have r3 := set_blk
          go_wp2_with fail
          refine L.out.mono ?_
          rintro e w' ⟨rfl, rfl⟩
          go_wp2
          refine bodyPost_ret (v := T2 (wideV 0 0 0) (I 2)) (by simp [results, Try.results25, go_sem, *]) rfl ⟨hfin.out, (by repeat first | with_reducible assumption | with_reducible exact Below.refl _ _ | with_reducible refine Below.setCell ?_ (by first | exact Nat.le_refl _ | exact Below.size (by assumption) | (simp; done) | (simp; omega) | omega) _ | with_reducible refine Below.alloc ?_ (by first | exact Nat.le_refl _ | exact Below.size (by assumption) | (simp; done) | (simp; omega) | omega) _ | with_reducible refine drewN_below ?_ _ | with_reducible refine Below.drew ?_)⟩
        · rw [if_neg hov] at hE2
          have h6 : readV s = decV s s.size := by unfold readV; rw [if_pos hE2]
          have hbl := blen_lt 96 (decV s s.size) (Nat.lt_of_not_le hov)
          have hbl' : ¬ (96 : Int) < ((blen (decV s s.size) : Nat) : Int) := by omega
          have V := Lib.hid (wide96_any (w.heap.size + 1) (decV s s.size) wr hB (by omega))
          have HE2 := Lib.hid hE2
          have H6 := Lib.hid h6
          have hor := oR.lt
          clear hR hE2 hB hbl h10 big hov h6
          generalize blen (decV s s.size) = bb at *
          rw [← H6.out] at V
          generalize hn0 : readV s % 4294967296 = n0 at V
          generalize hn1 : readV s / 4294967296 % 4294967296 = n1 at V
          generalize hn2 : readV s / 18446744073709551616 % 4294967296 = n2 at V
          have HFN := Lib.hid (And.intro hn0 (And.intro hn1 hn2))
          clear hn0 hn1 hn2
          generalize readV s / 79228162514264337593543950336 = n3 at V
          go_wp2_with fail
          refine L.out.mono ?_
          rintro e w' ⟨rfl, rfl⟩
          go_wp2_with fail
          refine V.out.mono ?_
          rintro e w3 ⟨rfl, k3⟩
          have hq := (oR.below k3).lt
          have qO := oR.below k3
          have q0 := qO.cell 0 (by simp)
          have qf0 := qO.frozen 0
          have q1 := qO.cell 1 (by simp)
          have qf1 := qO.frozen 1
          have q2 := qO.cell 2 (by simp)
          have qf2 := qO.frozen 2
          simp only [Nat.zero_add, List.getD_cons_zero, List.getD_cons_succ] at q0 q1 q2
          clear qO
          have kk3 := hbw.trans (k3.mono hbw.size)
          clear oR k3
          have r1 := set_same
          have r2 := set_off
          have r3 := set_blk
          go_wp2
          exact bodyPost_ret (v := T2 (wideV n0 n1 n2) (I 0)) (by simp [results, Try.results25, go_sem, *]; try omega) rfl ⟨by rw [HE2.out, HFN.out.1, HFN.out.2.1, HFN.out.2.2], (by repeat first | with_reducible assumption | with_reducible exact Below.refl _ _ | with_reducible refine Below.setCell ?_ (by first | exact Nat.le_refl _ | exact Below.size (by assumption) | (simp; done) | (simp; omega) | omega) _ | with_reducible refine Below.alloc ?_ (by first | exact Nat.le_refl _ | exact Below.size (by assumption) | (simp; done) | (simp; omega) | omega) _ | with_reducible refine drewN_below ?_ _ | with_reducible refine Below.drew ?_)⟩
end Go.Proofs.Ytgldppmkiieoaaa
