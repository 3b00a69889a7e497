/- disk: the walk over a tape, program and reference -/
import Derived.Test.YtenoigmkhlnfoaaAgeF
import Derived.Test.YtenoigmkhlnfoaaPk28
namespace Go.Proofs.Ytenoigmkhlnfoaa
set_option linter.unusedSimpArgs false
set_option linter.unusedVariables false
open Go.RowKit
set_option maxRecDepth 20000

set_option maxHeartbeats 2000000 in
theorem walk0_any (v : Value) (xs : List Int) (w : World) (h : Sl w v 1 xs.length (xs.map U32)) (hw : ∀ x ∈ xs, W32 x) :
    Calls Try.prog 94 #[v, .func (.func 103) #[] #[]] w (Pure (T2 (I (tapeA xs)) (I (tapeE xs))) w) := by
  obtain ⟨a, cap, rfl, hn, hl, h0, hr⟩ := h
  clear hl h0
  cases hi : inB xs.length 1 2048
  · have e1 : tapeE xs = 1 := by simp [tapeE, hi]
    have e2 : tapeA xs = 0 := by simp [tapeA, e1]
    rw [e1, e2]
    have hcase : (xs.length : Int) < 1 ∨ (1 ≤ (xs.length : Int) ∧ 2048 < (xs.length : Int)) := by rw [← Bool.not_eq_true, inB_true] at hi; omega
    clear e1 e2 hi hr hw
    rcases hcase with c1 | ⟨c1, c2⟩
    all_goals
      go_enter Try.func94, Try.ntmps94
      go_wp2
      go_ret2
      exact Pure.intro rfl
  · obtain ⟨l0, l1⟩ := inB_true.1 hi
    have HE := Lib.hid (show tapeE xs = if (tapeR xs).2 then 0 else 3 by simp [tapeE, hi])
    have HA := Lib.hid (show tapeA xs = if tapeE xs = 0 then (((tapeR xs).1 : Nat) : Int) else 0 from rfl)
    obtain ⟨b, off, rfl, hb, hcell⟩ := hr.resolve_left (by omega)
    have c0 : ¬ (xs.length : Int) < 1 := by omega
    have c1 : ¬ 2048 < (xs.length : Int) := by omega
    have HS := Lib.hid (fun at_ => show stepI xs at_ = if at_ = xs.length then 0 else if xs.getD at_ 0 = 0 then 0 else if 64 < xs.getD at_ 0 then -1 else if (xs.length : Int) ≤ at_ + xs.getD at_ 0 then -1 else xs.getD at_ 0 from rfl)
    have HW := Lib.hid hw
    generalize tapeA xs = RA at *
    generalize tapeE xs = RE at *
    clear hr hi hw
    go_enter Try.func94, Try.ntmps94
    go_wp2
    go_loop [6] (fun i => ∃ (p f : Nat), p ≤ xs.length ∧ i = I p ∧ xs.length + 1 ≤ f + p ∧ Hid (runT xs f p = tapeR xs)) (fun i => xs.length - (intOf i).toNat)
    case atStart => exact ⟨0, xs.length + 1, by omega, rfl, by omega, rfl⟩
    case round =>
      obtain ⟨p, f, hp, rfl, hf, hT⟩ := hrel
      obtain ⟨f, rfl⟩ : ∃ f', f = f' + 1 := ⟨f - 1, by omega⟩
      have S := HS.out p
      by_cases hlt : p < xs.length
      · have e0 := hcell p (by simpa using hlt)
        rw [getD_map' _ _ hlt] at e0
        obtain ⟨x0, x1⟩ : W32 (xs.getD p 0) := by
          rw [List.getD_eq_getElem?_getD, List.getElem?_eq_getElem hlt]; exact HW.out _ (List.getElem_mem hlt)
        have hi0 : (0 : Int) ≤ (p : Int) := by omega
        have hi1 : (p : Int) < (xs.length : Int) := by omega
        rw [if_neg (by omega)] at S
        clear HS hcell
        generalize xs.getD p 0 = x at *
        by_cases hz : x = 0
        · rw [if_pos hz] at S
          have hR := hT.out
          rw [runT_stop S] at hR
          have E1 : RE = 0 := by rw [HE.out, ← hR]; rfl
          have E2 : RA = p := by rw [HA.out, E1, ← hR]; rfl
          have F1 := Lib.hid E1
          have F2 := Lib.hid E2
          clear E1 E2
          have hb2 : (x != 0) = false := by simp [hz]
          clear S hz hR hT HE HA
          go_wp2
          go_ret2
          exact Pure.intro (eI2 F2.out.symm F1.out.symm)
        · rw [if_neg hz] at S
          have hb2 : (x != 0) = true := by simp [hz]
          by_cases h64 : 64 < x
          · rw [if_pos h64] at S
            have hR := hT.out
            rw [runT_bad (by omega)] at hR
            have E1 : RE = 3 := by rw [HE.out, ← hR]; rfl
            have E2 : RA = 0 := by rw [HA.out, E1]; rfl
            have F1 := Lib.hid E1
            have F2 := Lib.hid E2
            clear E1 E2
            clear S hz hR hT HE HA
            go_wp2
            go_ret2
            exact Pure.intro (eI2 F2.out.symm F1.out.symm)
          · rw [if_neg h64] at S
            by_cases hlen : (xs.length : Int) ≤ p + x
            · rw [if_pos hlen] at S
              have hR := hT.out
              rw [runT_bad (by omega)] at hR
              have E1 : RE = 3 := by rw [HE.out, ← hR]; rfl
              have E2 : RA = 0 := by rw [HA.out, E1]; rfl
              have F1 := Lib.hid E1
              have F2 := Lib.hid E2
              clear E1 E2
              have hlen2 : (xs.length : Int) - p ≤ x := by omega
              clear S hz hR hT HE HA
              go_wp2
              go_ret2
              exact Pure.intro (eI2 F2.out.symm F1.out.symm)
            · rw [if_neg hlen] at S
              have hR := hT.out
              rw [runT_go (by omega), S] at hR
              obtain ⟨n, rfl⟩ := Int.eq_ofNat_of_zero_le x0
              rw [Int.toNat_natCast] at hR
              have HR := Lib.hid hR
              clear hR
              have hlen2 : ¬ (xs.length : Int) - p ≤ n := by omega
              have hn0 : 0 < n := by omega
              have hpn : p + 1 + n ≤ xs.length := by omega
              have hcapn := hn.2
              have hne1 : ¬ p + 1 + n = p + 1 := by omega
              have hne2 : ¬ ((p : Int) + 1 + n = (p : Int) + 1) := by omega
              have hle1 : (p : Int) + 1 + n ≤ (cap : Int) := by omega
              clear S hz hT HE HA
              go_wp2
              go_end0
              go_wp2
              go_round
              case rel => first | exact ⟨p + n + 1, f, by omega, eI (by omega), by omega, HR⟩ | (refine ⟨rfl, ?_⟩; (repeat apply Exists.intro); refine ⟨?_, rfl⟩; exact ⟨p + n + 1, f, by omega, eI (by omega), by omega, HR⟩) | (refine ⟨trivial, ?_⟩; (repeat apply Exists.intro); refine ⟨?_, rfl⟩; exact ⟨p + n + 1, f, by omega, eI (by omega), by omega, HR⟩) | ((repeat apply Exists.intro); refine ⟨?_, rfl⟩; exact ⟨p + n + 1, f, by omega, eI (by omega), by omega, HR⟩)
              case measure => (simp [intOf]; try omega)
      · have S0 : stepI xs p = 0 := by rw [S, if_pos (by omega)]
        have hR := hT.out
        rw [runT_stop S0] at hR
        have E1 : RE = 0 := by rw [HE.out, ← hR]; rfl
        have E2 : RA = p := by rw [HA.out, E1, ← hR]; rfl
        have F1 := Lib.hid E1
        have F2 := Lib.hid E2
        clear E1 E2
        have hge : (xs.length : Int) ≤ (p : Int) := by omega
        have hge2 : decide ((p : Int) < (xs.length : Int)) = false := by simp; omega
        clear S S0 hR hT HE HA hcell HS
        go_wp2
        go_ret2
        exact Pure.intro (eI2 F2.out.symm F1.out.symm)

theorem infoRec : (Try.prog.info? 37).map (fun i => (i.zero, i.size, i.bytes)) = some (some (.slice none 0 0), 1, 24) := by kernel_rfl
theorem infoU32d : (Try.prog.info? 103).map (fun i => (i.zero, i.size, i.bytes)) = some (some (.int .u32 0), 1, 4) := by kernel_rfl
def GrewV3 (p k : Int) (w : World) (e : Ending) (w' : World) : Prop := ∃ v, e = .returned (T3 v (I p) (I k)) ∧ Below w.heap.size w w'
def DRel (w : World) (k : Nat) (v : Value) (wr : World) : Prop := (∃ cs, wr.ownsRow w.heap.size 37 1 v k cs) ∧ Below w.heap.size w wr

set_option maxHeartbeats 2000000 in
theorem Replayed_at (v : Value) (xs : List Int) (w : World) (h : Sl w v 1 xs.length (xs.map U32)) (hw : ∀ x ∈ xs, W32 x) :
    Calls Try.prog 73 #[v] w (GrewV3 (tapeA xs) (tapeE xs) w) := by
  obtain ⟨i0, hi, hz0, hz1, hz2⟩ := info_parts infoRec
  obtain ⟨j0, hj, hy0, hy1, hy2⟩ := info_parts infoU32d
  have hS := h
  obtain ⟨a, cap, rfl, hn, hl, h0, hr⟩ := h
  clear hl h0
  cases hi1 : inB xs.length 1 2048
  · have e1 : tapeE xs = 1 := by simp [tapeE, hi1]
    have e2 : tapeA xs = 0 := by simp [tapeA, e1]
    rw [e1, e2]
    clear e1 e2 hr hw
    go_enter Try.func73, Try.ntmps73
    go_wp2_with (go_at_call 43; refine (In_any _ _ _ _).mono ?_; rintro e w' ⟨rfl, rfl⟩)
    go_ret3
    exact ⟨_, rfl, Below.refl _ _⟩
  · obtain ⟨l0, l1⟩ := inB_true.1 hi1
    have HE := Lib.hid (show tapeE xs = if (tapeR xs).2 then 0 else 3 by simp [tapeE, hi1])
    have HA := Lib.hid (show tapeA xs = if tapeE xs = 0 then (((tapeR xs).1 : Nat) : Int) else 0 from rfl)
    have L := Lib.hid (fun at_ W hW (ha : at_ ≤ xs.length) => lengthAt_any (.slice a xs.length cap) xs at_ W hW hw ha (by omega) (by omega))
    have HB := Lib.hid (fun at_ (ha : at_ ≤ xs.length) => stepI_bd hw ha)
    have L0 := Lib.hid (L.out 0 w hS (Nat.zero_le _))
    generalize tapeA xs = RA at *
    generalize tapeE xs = RE at *
    clear hw
    go_enter Try.func73, Try.ntmps73
    go_wp2_with (first | (go_at_call 43; refine (In_any _ _ _ _).mono ?_; rintro e w' ⟨rfl, rfl⟩) | (go_at_call 98; refine (L0.out).mono ?_; rintro e w' ⟨rfl, rfl⟩))
    go_loopw [5, 6, 7] (fun v i n wr => ∃ (k p f : Nat), p ≤ xs.length ∧ k ≤ p ∧ i = I p ∧ n = I (stepI xs p) ∧ xs.length + 1 ≤ f + p ∧ Hid (runT xs f p = tapeR xs) ∧ Hid (DRel w k v wr)) (fun _ i _ _ => xs.length + 1 - (intOf i).toNat)
    case atStart => exact ⟨0, 0, xs.length + 1, by omega, by omega, rfl, rfl, by omega, rfl, ⟨[], World.ownsRow_nil _ _ _ _⟩, Below.refl _ _⟩
    case round =>
      obtain ⟨k, p, f, hp, hkp, rfl, rfl, hf, hT, hD⟩ := hrel
      obtain ⟨f, rfl⟩ : ∃ f', f = f' + 1 := ⟨f - 1, by omega⟩
      obtain ⟨⟨cs, hown⟩, hbw⟩ := hD.out
      have hsz := hbw.size
      obtain ⟨s1, s2, s3⟩ := HB.out p hp
      rcases Int.lt_trichotomy (stepI xs p) 0 with hs | hs | hs
      · have hR := hT.out
        rw [runT_bad hs] at hR
        have E1 : RE = 3 := by rw [HE.out, ← hR]; rfl
        have E2 : RA = 0 := by rw [HA.out, E1]; rfl
        have F1 := Lib.hid E1
        have F2 := Lib.hid E2
        clear E1 E2 hR hT HE HA L L0 HB s1 s2 s3 hown
        generalize stepI xs p = n at *
        go_wp2
        go_ret3
        rw [F1.out, F2.out]
        exact ⟨_, rfl, hbw⟩
      · have hR := hT.out
        rw [runT_stop hs] at hR
        have E1 : RE = 0 := by rw [HE.out, ← hR]; rfl
        have E2 : RA = p := by rw [HA.out, E1, ← hR]; rfl
        have F1 := Lib.hid E1
        have F2 := Lib.hid E2
        clear E1 E2 hR hT HE HA L L0 HB s1 s2 s3 hown
        generalize stepI xs p = n at *
        go_wp2
        go_ret3
        rw [F1.out, F2.out]
        exact ⟨_, rfl, hbw⟩
      · have hR := hT.out
        rw [runT_go hs] at hR
        obtain ⟨n, hn0⟩ := Int.eq_ofNat_of_zero_le (Int.le_of_lt hs)
        have hpn := s3 hs
        rw [hn0, Int.toNat_natCast] at hR
        rw [hn0] at hs s2 hpn
        have HR := Lib.hid hR
        rw [hn0]
        clear hR hT hn0 s1 s3
        have hn1 : 0 < n := by omega
        have hpn2 : p + n + 1 ≤ xs.length := by omega
        go_wp2_with (refine wpList_make_full _ rfl (.tmp 19) (.tmp 19) 37 rfl wr.heap.size 103 j0 (.int .u32 0) 1 Try.underlying37 hj hy0 hy1 .i64 .i64 _ _ n rfl rfl rfl rfl (by rw [hy2]; omega) (by unfold maxLen; omega) (Nat.le_refl _) ?_; intro w2 hown2 hgrow; have hbel := Below.grown (B := wr.heap.size) (Below.refl _ wr) hgrow (Nat.le_refl _) (fun k hk => by cases hk); have hO := Own.of_owns (made_int hown2); clear hown2 hgrow)
        generalize wr = wO at *
        obtain ⟨b, off, rfl, hb, hcell⟩ := hr.resolve_left (by omega)
        have hW0 : Hid (∃ L : List Value, L.length = n ∧ Own w2 wO.heap.size L) := ⟨_, by simp, hO⟩
        clear hO hr
        go_loopw [9] (fun i wr => ∃ q : Nat, q ≤ n ∧ i = I q ∧ Hid (∃ L : List Value, L.length = n ∧ Own wr wO.heap.size L) ∧ Below wO.heap.size wO wr) (fun i _ => n - (intOf i).toNat)
        case atStart => exact ⟨0, Nat.zero_le _, rfl, hW0, hbel⟩
        case round =>
          obtain ⟨q, hq, rfl, hL, hbq⟩ := hrel
          obtain ⟨Lc, hLl, hOq⟩ := hL.out
          have hbwq := hbw.trans (hbq.mono hsz)
          by_cases hlt : q < n
          · have e0 := (hbwq.cell (p := ⟨b, off + (p + 1 + q), none⟩) hb).trans (hcell (p + 1 + q) (by simp; omega))
            rw [getD_map' _ _ (by omega)] at e0
            have e1 := hOq.cell q (by omega)
            rw [Nat.zero_add] at e1
            have f1 := hOq.frozen q
            have hnext := Lib.hid (fun x => (⟨Lc.set q x, by rw [List.length_set]; exact hLl, hOq.set q x⟩ : ∃ L : List Value, L.length = n ∧ Own (wr.setCell ⟨wO.heap.size, q, none⟩ x) wO.heap.size L))
            have hbn := fun x => hbq.setCell (p := ⟨wO.heap.size, q, none⟩) (Nat.le_refl _) x
            have hi0 : (0 : Int) ≤ (q : Int) := by omega
            have hi1' : (q : Int) < (n : Int) := by omega
            have hj0 : (0 : Int) ≤ (p : Int) + 1 + q := by omega
            have hj1 : (p : Int) + 1 + q < (xs.length : Int) := by omega
            have hto : ((p : Int) + 1 + (q : Int)).toNat = p + 1 + q := by omega
            generalize xs.getD (p + 1 + q) 0 = y at *
            generalize Lc.getD q undef = z at *
            clear hOq hLl hL hcell hbwq
            go_wp2
            exact ⟨⟨q + 1, by omega, by go_num, hnext.out _, hbn _⟩, by simp [intOf]; omega⟩
          · have hge : (n : Int) ≤ (q : Int) := by omega
            have hownq := owns_below hown hbq
            have hszq := hbwq.size
            clear hOq hLl hL hcell hown
            go_wp2_with (first
              | (at_builtin; refine wpList_append_own _ rfl _ _ 41 rfl w.heap.size 37 i0 (.slice none 0 0) 1 24 Try.underlying41 hi hz0 hz1 hz2 rfl (by decide) _ _ _ rfl (hownq.alloc _) ⟨wr.heap.size, 0, none⟩ 1 1 [.slice (some ⟨wO.heap.size, 0, none⟩) n n] rfl rfl (news_lit _ [.slice (some ⟨wO.heap.size, 0, none⟩) n n] _) (oneCells_lit rfl) (by unfold maxLen; omega) (by omega) (by simp; omega) ?_; intro v' w1 hown' hgrow _)
              | (go_at_call 98; rw [show ((p : Int) + n + 1) = ((p + n + 1 : Nat) : Int) by omega]; refine (L.out (p + n + 1) _ (hS.below (grown_below (hbwq.alloc hszq _) (hownq.alloc _) (Nat.le_refl _) hgrow)) hpn2).mono ?_; rintro e w' ⟨rfl, rfl⟩))
            have hbel2 := grown_below (hbwq.alloc hszq _) (hownq.alloc _) (Nat.le_refl _) hgrow
            exact ⟨⟨k + 1, p + n + 1, f, by omega, by omega, eI (by omega), rfl, by omega, HR, ⟨_, hown'⟩, hbel2⟩, by simp [intOf]; omega⟩
end Go.Proofs.Ytenoigmkhlnfoaa
