/- ref.ActShown at the kinds with the flags fft -/
import Derived.Test.YtfhmcahfjoliiaaDoorActLaw
namespace Go.Proofs.YtfhmcahfjoliiaaDoor
set_option linter.unusedSimpArgs false
set_option linter.unusedVariables false
open Go Go.RowKit
set_option maxRecDepth 20000
/- behind the number of a cut: the text, and the length -/
set_option maxHeartbeats 4000000 in
theorem ActShown_fft (ki me a b c cu : Int) (te : ByteArray) (w : World) (_hs : te.size ≤ 9223372036854770000) (hA : actA ki = false) (hB : actB ki = false) (hC : actC ki = true) :
    Calls Tryd.prog 14 #[.agg #[I ki, I me, I a, I b, I c, .string te, I cu]] w (AcP ki me a b c te cu w) := by
  have KB := Lib.hid (boxed_below w (.cells #[I ki, I me, I a, I b, I c, .string te, I cu] 23))
  have oX := Own.new (w := w) rfl [I ki, I me, I a, I b, I c, .string te, I cu] 23
  have AW := Lib.hid (fun W => ActWord_any ki W)
  have OX := Lib.hid oX
  have HE2 := Lib.hid (fun h => acE_2 (ki := ki) (me := me) (a := a) (b := b) (c := c) (cu := cu) (te := te) h)
  obtain ⟨W0, hW0⟩ : ∃ W, W = w.alloc (.cells #[I ki, I me, I a, I b, I c, .string te, I cu] 23) := ⟨_, rfl⟩
  go_enter Tryd.func14, Tryd.ntmps14
  have xO := oX
  have xfA := xO.f; have x0 := xO.c0; have x1 := xO.c1; have x2 := xO.c2; have x3 := xO.c3; have x4 := xO.c4; have x5 := xO.c5; have x6 := xO.c6
  clear xO
  go_wp2_with fail
  refine (AW.out _).mono ?_
  rintro e w1 ⟨rfl, rfl⟩
  rw [hA, hB, hC]
  have HA := Lib.hid hA
  have HB := Lib.hid hB
  have HC := Lib.hid hC
  clear hA hB hC AW
  by_cases h1 : actW ki = ⟨#[]⟩
  · have h2 := HE2.out (by unfold acV2; simp [h1])
    rw [h1]
    go_wp2_with (go_at_call 25; refine (In_any _ _ _ _).mono ?_; rintro e w' ⟨rfl, rfl⟩)
    exact bodyPost_ret (v := T2 (.string ⟨#[]⟩) (I 2)) (by simp [results, Tryd.results14, go_sem, *]; try omega) rfl (AcP.bad h2 (by decide) KB.out)
  · obtain ⟨kw, hkw⟩ : ∃ k, actW ki = k := ⟨_, rfl⟩
    rw [hkw] at h1 ⊢
    have h1n : ¬ kw.toList = [] := fun h => h1 (ByteArray.ext (Array.toList_inj.1 (by rw [← ByteArray.toList_eq]; exact h)))
    have h1e : kw.toList.isEmpty = false := by cases h : kw.toList with
      | nil => exact absurd h h1n
      | cons => rfl
    cases hc : inB cu (-1) 4096 with
    | false =>
      have h2 := HE2.out (by unfold acV2; simp [hc])
      go_wp2_with (go_at_call 25; refine (In_any _ _ _ _).mono ?_; rintro e w' ⟨rfl, rfl⟩)
      exact bodyPost_ret (v := T2 (.string ⟨#[]⟩) (I 2)) (by simp [results, Tryd.results14, go_sem, *]; try omega) rfl (AcP.bad h2 (by decide) KB.out)
    | true =>
      cases hm : inB me 0 1000000000000 with
      | false =>
        have h2 := HE2.out (by unfold acV2; simp [hm])
        go_wp2_with (go_at_call 25; refine (In_any _ _ _ _).mono ?_; rintro e w' ⟨rfl, rfl⟩)
        exact bodyPost_ret (v := T2 (.string ⟨#[]⟩) (I 2)) (by simp [results, Tryd.results14, go_sem, *]; try omega) rfl (AcP.bad h2 (by decide) KB.out)
      | true =>
        have hV2 := Lib.hid (show acV2 ki me cu = false by unfold acV2; simp [hkw, h1, hc, hm])
        cases hd : inB c 0 1000000000000 with
        | false =>
          have h2 := @acE_4 ki me a b c cu te hV2.out (by rw [HA.out, HB.out, HC.out]; simp [acV4, hd])
          go_wp2_with (go_at_call 25; refine (In_any _ _ _ _).mono ?_; rintro e w' ⟨rfl, rfl⟩)
          exact bodyPost_ret (v := T2 (.string ⟨#[]⟩) (I 2)) (by simp [results, Tryd.results14, go_sem, *]; try omega) rfl (AcP.bad h2 (by decide) KB.out)
        | true =>
          have h4 : acV4 false false true a b c = false := by simp [acV4, hd]
          by_cases ha : a = 0
          case neg =>
            have haz : (a != 0) = true := by simp [ha]
            have h2 := @acE_6 ki me a b c cu te hV2.out (by rw [HA.out, HB.out, HC.out]; exact h4) (by rw [HA.out, HB.out, HC.out]; simp [acV6, ha])
            clear h4
            go_wp2_with (go_at_call 25; refine (In_any _ _ _ _).mono ?_; rintro e w' ⟨rfl, rfl⟩)
            exact bodyPost_ret (v := T2 (.string ⟨#[]⟩) (I 3)) (by simp [results, Tryd.results14, go_sem, *]; try omega) rfl (AcP.bad h2 (by decide) KB.out)
          subst ha
          by_cases hb : b = 0
          case neg =>
            have hbz : (b != 0) = true := by simp [hb]
            have h2 := @acE_6 ki me 0 b c cu te hV2.out (by rw [HA.out, HB.out, HC.out]; exact h4) (by rw [HA.out, HB.out, HC.out]; simp [acV6, hb])
            clear h4
            go_wp2_with (go_at_call 25; refine (In_any _ _ _ _).mono ?_; rintro e w' ⟨rfl, rfl⟩)
            exact bodyPost_ret (v := T2 (.string ⟨#[]⟩) (I 3)) (by simp [results, Tryd.results14, go_sem, *]; try omega) rfl (AcP.bad h2 (by decide) KB.out)
          subst hb
          have hkt : (ki != 6) = false ∨ (ki != 6) = true ∧ te.toList.isEmpty = true ∨ (ki != 6) = true ∧ te.toList.isEmpty = false := by
            cases (ki != 6)
            · exact Or.inl rfl
            · cases te.toList.isEmpty
              · exact Or.inr (Or.inr ⟨rfl, rfl⟩)
              · exact Or.inr (Or.inl ⟨rfl, rfl⟩)
          have h6e : acV6 false false true ki 0 0 c te = ((ki != 6) && !te.toList.isEmpty) := by rw [te_empty]; by_cases hk6 : ki = 6 <;> simp [acV6, hk6]
          rcases hkt with hk1 | ⟨hk1, hk2⟩ | ⟨hk1, hk2⟩
          case inr.inr =>
            have h2 := @acE_6 ki me 0 0 c cu te hV2.out (by rw [HA.out, HB.out, HC.out]; exact h4) (by rw [HA.out, HB.out, HC.out, h6e, hk1, hk2]; rfl)
            clear h4 h6e
            go_wp2_with (go_at_call 25; refine (In_any _ _ _ _).mono ?_; rintro e w' ⟨rfl, rfl⟩)
            exact bodyPost_ret (v := T2 (.string ⟨#[]⟩) (I 3)) (by simp [results, Tryd.results14, go_sem, *]; try omega) rfl (AcP.bad h2 (by decide) KB.out)
          all_goals
            have h6 : acV6 false false true ki 0 0 c te = false := by rw [h6e, hk1]; first | rfl | (rw [hk2]; rfl)
            clear h6e
            have HV := Lib.hid (And.intro (show acV4 (actA ki) (actB ki) (actC ki) 0 0 c = false by rw [HA.out, HB.out, HC.out]; exact h4) (show acV6 (actA ki) (actB ki) (actC ki) ki 0 0 c te = false by rw [HA.out, HB.out, HC.out]; exact h6))
            have HKW := Lib.hid hkw
            clear h4 h6 h1n hkw HE2
            go_wp2_with (go_at_call 25; refine (In_any _ _ _ _).mono ?_; rintro e w' ⟨rfl, rfl⟩)
            clear h1 h1e hk1
            (try clear hk2)
            go_loop [8] (fun i => ∃ k : Nat, k ≤ te.size ∧ i = I k ∧ Hid (∀ q, q < k → bat te q ≠ 10)) (fun i => te.size - (intOf i).toNat)
            case atStart => exact ⟨0, Nat.zero_le _, rfl, fun q hq => by omega⟩
            case round =>
              obtain ⟨k, hk, rfl, hno⟩ := hrel
              by_cases hlt : k < te.size
              · have hb := bat_eq hlt
                have j0 : (0 : Int) ≤ (k : Int) := by omega
                have j1 : (k : Int) < (te.size : Int) := by omega
                by_cases h10 : bat te k = 10
                · have h2 := acE_n hV2.out HV.out.1 HV.out.2 (nlIn_true hlt h10)
                  rw [h10] at hb
                  clear hno
                  go_wp2
                  exact bodyPost_ret (v := T2 (.string ⟨#[]⟩) (I 3)) (by simp [results, Tryd.results14, go_sem, *]; try omega) rfl (AcP.bad h2 (by decide) KB.out)
                · have hn2 : ∀ q, q < k + 1 → bat te q ≠ 10 := fun q hq => by
                    by_cases e : q = k
                    · subst e; exact h10
                    · exact hno.out q (by omega)
                  have HN := Lib.hid hn2
                  have h10' : ¬ ((bat te k : Nat) : Int) = 10 := by omega
                  clear hno hn2
                  generalize bat te k = bk at *
                  go_wp2
                  go_round
                  case rel => exact ⟨k + 1, by omega, by go_num, HN.out⟩
                  case measure => simp [intOf]; omega
              · obtain rfl : k = te.size := by omega
                have HN := Lib.hid (nlIn_false hno.out)
                clear hno
                have hmm := hm
                rw [inB_true] at hmm
                obtain ⟨m0, m1⟩ := hmm
                obtain ⟨mn, rfl⟩ := Int.eq_ofNat_of_zero_le m0
                have hcc := hc
                rw [inB_true] at hcc
                have hws := actW_size ki
                rw [HKW.out] at hws
                have hs1 := decS_20 (n := mn) (by omega)
                have hs2 := numP_size' (b := false) (n := 0) (fun h => by cases h)
                have hs3 := numP_size' (b := false) (n := 0) (fun h => by cases h)
                have hs4 := numP_size' (b := true) (n := c) (fun _ => by have := inB_true.1 hd; omega)
                have D := Lib.hid (fun W => Dec_nat mn W (by omega))
                have NA := Lib.hid (fun W => numberPart_any false 0 W (fun h => by cases h))
                have NB := Lib.hid (fun W => numberPart_any false 0 W (fun h => by cases h))
                have NC := Lib.hid (fun W => numberPart_any true c W (fun _ => by have := inB_true.1 hd; omega))
                have HS0 := Lib.hid (show acS0 ki mn 0 0 c = kw ++ ⟨#[32]⟩ ++ decS mn ++ numP false 0 ++ numP false 0 ++ numP true c by unfold acS0; rw [HKW.out, HA.out, HB.out, HC.out]; rfl)
                have OX1 := OX.out
                have KB1 := KB.out
                have c1 := fun d os => cell_regrown x1 d os
                have c2 := fun d os => cell_regrown x2 d os
                have c3 := fun d os => cell_regrown x3 d os
                have c4 := fun d os => cell_regrown x4 d os
                clear x0 x1 x2 x3 x4 x6 xfA KB OX oX hW0 HKW hlt hk m0 m1 hm
                generalize w.alloc (.cells #[I ki, I (mn : Int), I 0, I 0, I c, .string te, I cu] 23) = W1 at *
                have HC0 := Lib.hid hcc
                clear hcc hc
                generalize decS mn = p1 at *
                generalize numP false 0 = pz at *
                generalize numP true c = p4 at *
                have s32 : (⟨#[32]⟩ : ByteArray).size = 1 := rfl
                have n1 : ¬ 9223372036854775807 < kw.size + 1 := by omega
                have n2 : ¬ 9223372036854775807 < kw.size + 1 + p1.size := by omega
                have n3 : ¬ 9223372036854775807 < kw.size + 1 + p1.size + pz.size := by omega
                have n4 : ¬ 9223372036854775807 < kw.size + 1 + p1.size + pz.size + pz.size := by omega
                have n5 : ¬ 9223372036854775807 < kw.size + 1 + p1.size + pz.size + pz.size + p4.size := by omega
                go_wp2_with fail
                refine wp_region_quiet_below (by kernel_rfl) (by kernel_rfl) ?_
                repeat (quiet_step (first
                  | (go_at_call 26; refine Calls.regrown_of (D.out _))
                  | (go_at_call_of 27 (I c); refine Calls.regrown_of (NC.out _))
                  | (go_at_call 27; refine Calls.regrown_of (NA.out _))))
                refine wpQuiet_nil ?_
                intro _ hw'
                obtain ⟨⟨dq, osq⟩, hw''⟩ := hw'
                subst hw''
                have kW := below_regrown W1 dq osq
                have KB2 := KB1.trans (kW.mono KB1.size)
                have OX2 := OX1.below kW
                show Exit.then _ _ _ _ (Go.Sort.grow (redrawn W1 dq) osq)
                generalize Go.Sort.grow (redrawn W1 dq) osq = W2 at *
                obtain ⟨T, hT⟩ : ∃ T, T = kw ++ ⟨#[32]⟩ ++ p1 ++ pz ++ pz ++ p4 := ⟨_, rfl⟩
                have hTs : T.size ≤ 100 := by
                  rw [hT]
                  simp only [ByteArray.size_append]
                  omega
                have hS0 := HS0.out
                rw [← hT] at hS0 ⊢
                have HS := Lib.hid hS0
                clear c1 c2 c3 c4 hws hs1 hs2 hs3 hs4 D NA NB NC HS0 n1 n2 n3 n4 n5 KB1 OX1 kW hS0 hT
                have xO := OX2
                have xfA := xO.f; have x0 := xO.c0; have x1 := xO.c1; have x2 := xO.c2; have x3 := xO.c3; have x4 := xO.c4; have x5 := xO.c5; have x6 := xO.c6
                clear xO
                have OX2 := Lib.hid OX2
                by_cases hcu : 0 ≤ cu
                · obtain ⟨cn, rfl⟩ := Int.eq_ofNat_of_zero_le hcu
                  have hcb := HC0.out.2
                  have hs5 := decS_20 (n := cn) (by omega)
                  have D := Lib.hid (fun W => Dec_nat cn W (by omega))
                  have HX := Lib.hid (show acS ki mn 0 0 c te cn = (if ki = 6 then (⟨#[99, 117, 116, 32]⟩ ++ decS cn ++ ⟨#[32]⟩ ++ T) ++ ⟨#[32]⟩ ++ te else (⟨#[99, 117, 116, 32]⟩ ++ decS cn ++ ⟨#[32]⟩ ++ T)) by unfold acS; rw [HS.out, if_pos hcu]; rfl)
                  generalize decS cn = pc at *
                  have s4 : (⟨#[99, 117, 116, 32]⟩ : ByteArray).size = 4 := rfl
                  have n1 : ¬ 9223372036854775807 < 4 + pc.size := by omega
                  have n2 : ¬ 9223372036854775807 < 4 + pc.size + 1 := by omega
                  have n3 : ¬ 9223372036854775807 < 4 + pc.size + 1 + T.size := by omega
                  have hSs : (⟨#[99, 117, 116, 32]⟩ ++ pc ++ ⟨#[32]⟩ ++ T : ByteArray).size ≤ 200 := by
                    simp only [ByteArray.size_append]
                    omega
                  go_upto_region 16 with (go_at_call 26; refine (D.out _).mono ?_; rintro e W3 ⟨rfl, k3⟩)
                  have KB3 := KB2.trans (k3.mono KB2.size)
                  have OX3 := OX2.out.below k3
                  generalize (⟨#[99, 117, 116, 32]⟩ ++ pc ++ ⟨#[32]⟩ ++ T : ByteArray) = S at *
                  clear n1 n2 n3 s4 D k3 KB2 OX2 x0 x1 x2 x3 x4 x5 x6 xfA hcu hcb hs5 hTs
                  have xO := OX3
                  have xfA := xO.f; have x0 := xO.c0; have x1 := xO.c1; have x2 := xO.c2; have x3 := xO.c3; have x4 := xO.c4; have x5 := xO.c5; have x6 := xO.c6
                  clear xO
                  clear OX3
                  by_cases hk6 : ki = 6
                  · subst hk6
                    have n4 : ¬ 9223372036854775807 < S.size + 1 := by omega
                    have n5 : ¬ 9223372036854775807 < S.size + 1 + te.size := by omega
                    have hX := HX.out
                    rw [if_pos rfl] at hX
                    have hXs : (acS 6 mn 0 0 c te ((cn : Int))).size = S.size + 1 + te.size := by
                      rw [hX]; simp only [ByteArray.size_append]; omega
                    by_cases h120 : 120 < S.size + 1 + te.size
                    · have h2 := acE_s hV2.out HV.out.1 HV.out.2 HN.out (by rw [hXs]; exact h120)
                      have hz : (120 : Int) < (S.size : Int) + 1 + (te.size : Int) := by omega
                      clear hX hXs HX HS hV2 HV HN HA HB HC HC0
                      go_wp2
                      exact bodyPost_ret (v := T2 (.string ⟨#[]⟩) (I 1)) (by simp [results, Tryd.results14, go_sem, *]; try omega) rfl (AcP.bad h2 (by decide) KB3)
                    · have h2 := acE_0 hV2.out HV.out.1 HV.out.2 HN.out (by rw [hXs]; exact h120)
                      have hz : ¬ (120 : Int) < (S.size : Int) + 1 + (te.size : Int) := by omega
                      have HXX := Lib.hid hX
                      clear hX hXs HX HS hV2 HV HN HA HB HC HC0
                      go_wp2
                      exact bodyPost_ret (v := T2 (.string (S ++ ⟨#[32]⟩ ++ te)) (I 0)) (by simp [results, Tryd.results14, go_sem, *]; try omega) rfl (AcP.ok h2 HXX.out KB3)
                  · have hX := HX.out
                    rw [if_neg hk6] at hX
                    have hk6' : ((ki : Int) == 6) = false := by simp [hk6]
                    by_cases h120 : 120 < S.size
                    · have h2 := acE_s hV2.out HV.out.1 HV.out.2 HN.out (by rw [hX]; exact h120)
                      have hz : (120 : Int) < (S.size : Int) := by omega
                      clear hX HX HS hV2 HV HN HA HB HC HC0
                      go_wp2
                      exact bodyPost_ret (v := T2 (.string ⟨#[]⟩) (I 1)) (by simp [results, Tryd.results14, go_sem, *]; try omega) rfl (AcP.bad h2 (by decide) KB3)
                    · have h2 := acE_0 hV2.out HV.out.1 HV.out.2 HN.out (by rw [hX]; exact h120)
                      have hz : ¬ (120 : Int) < (S.size : Int) := by omega
                      have HXX := Lib.hid hX
                      clear hX HX HS hV2 HV HN HA HB HC HC0
                      go_wp2
                      exact bodyPost_ret (v := T2 (.string S) (I 0)) (by simp [results, Tryd.results14, go_sem, *]; try omega) rfl (AcP.ok h2 HXX.out KB3)
                · have HX := Lib.hid (show acS ki mn 0 0 c te cu = (if ki = 6 then T ++ ⟨#[32]⟩ ++ te else T) by unfold acS; rw [HS.out, if_neg hcu])
                  have hSs : T.size ≤ 200 := by omega
                  have hcuz : ¬ cu ≥ 0 := hcu
                  go_upto_region 16 with fail
                  have KB3 := KB2
                  have OX3 := OX2.out
                  generalize T = S at *
                  clear KB2 OX2 x0 x1 x2 x3 x4 x5 x6 xfA hcu hcuz hTs
                  have xO := OX3
                  have xfA := xO.f; have x0 := xO.c0; have x1 := xO.c1; have x2 := xO.c2; have x3 := xO.c3; have x4 := xO.c4; have x5 := xO.c5; have x6 := xO.c6
                  clear xO
                  clear OX3
                  by_cases hk6 : ki = 6
                  · subst hk6
                    have n4 : ¬ 9223372036854775807 < S.size + 1 := by omega
                    have n5 : ¬ 9223372036854775807 < S.size + 1 + te.size := by omega
                    have hX := HX.out
                    rw [if_pos rfl] at hX
                    have hXs : (acS 6 mn 0 0 c te (cu)).size = S.size + 1 + te.size := by
                      rw [hX]; simp only [ByteArray.size_append]; omega
                    by_cases h120 : 120 < S.size + 1 + te.size
                    · have h2 := acE_s hV2.out HV.out.1 HV.out.2 HN.out (by rw [hXs]; exact h120)
                      have hz : (120 : Int) < (S.size : Int) + 1 + (te.size : Int) := by omega
                      clear hX hXs HX HS hV2 HV HN HA HB HC HC0
                      go_wp2
                      exact bodyPost_ret (v := T2 (.string ⟨#[]⟩) (I 1)) (by simp [results, Tryd.results14, go_sem, *]; try omega) rfl (AcP.bad h2 (by decide) KB3)
                    · have h2 := acE_0 hV2.out HV.out.1 HV.out.2 HN.out (by rw [hXs]; exact h120)
                      have hz : ¬ (120 : Int) < (S.size : Int) + 1 + (te.size : Int) := by omega
                      have HXX := Lib.hid hX
                      clear hX hXs HX HS hV2 HV HN HA HB HC HC0
                      go_wp2
                      exact bodyPost_ret (v := T2 (.string (S ++ ⟨#[32]⟩ ++ te)) (I 0)) (by simp [results, Tryd.results14, go_sem, *]; try omega) rfl (AcP.ok h2 HXX.out KB3)
                  · have hX := HX.out
                    rw [if_neg hk6] at hX
                    have hk6' : ((ki : Int) == 6) = false := by simp [hk6]
                    by_cases h120 : 120 < S.size
                    · have h2 := acE_s hV2.out HV.out.1 HV.out.2 HN.out (by rw [hX]; exact h120)
                      have hz : (120 : Int) < (S.size : Int) := by omega
                      clear hX HX HS hV2 HV HN HA HB HC HC0
                      go_wp2
                      exact bodyPost_ret (v := T2 (.string ⟨#[]⟩) (I 1)) (by simp [results, Tryd.results14, go_sem, *]; try omega) rfl (AcP.bad h2 (by decide) KB3)
                    · have h2 := acE_0 hV2.out HV.out.1 HV.out.2 HN.out (by rw [hX]; exact h120)
                      have hz : ¬ (120 : Int) < (S.size : Int) := by omega
                      have HXX := Lib.hid hX
                      clear hX HX HS hV2 HV HN HA HB HC HC0
                      go_wp2
                      exact bodyPost_ret (v := T2 (.string S) (I 0)) (by simp [results, Tryd.results14, go_sem, *]; try omega) rfl (AcP.ok h2 HXX.out KB3)
end Go.Proofs.YtfhmcahfjoliiaaDoor
