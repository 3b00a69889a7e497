/- ref.Recovered -/
import Derived.Test.YtcpljkjibhindaaDebtRecover
namespace Go.Proofs.Ytcpljkjibhindaa
open Go.RowKit
set_option maxRecDepth 20000
theorem RRel.stay {w : World} {s : Int} {xs : List ADebt} {k : Nat} {v : Value} {wr : World} (hD : RRel w s xs k v wr) (h : outTo s xs (k + 1) = outTo s xs k) : Hid (RRel w s xs (k + 1) v wr) :=
  ⟨by rw [h]; exact hD.1, hD.2⟩
set_option maxHeartbeats 2000000 in
theorem Recovered_any (v : Value) (xs : List ADebt) (t bp : Int) (w : World) (h : Sl w v 2 xs.length (xs.flatMap ADebt.cells)) :
    Calls Try.prog 65 #[v, I t, I bp] w (GrewSl3 2 (recL xs t bp).length ((recL xs t bp).flatMap ADebt.cells) (recP xs t bp) (recE xs t bp) w) := by
  obtain ⟨i0, hi, hz0, hz1, hz2⟩ := info_parts infoDebt
  have F := Lib.hid (fun W (hW : Sl W v 2 xs.length (xs.flatMap ADebt.cells)) => DebtFault_any v xs W hW)
  have P := Lib.hid (fun W => shareOf_any t bp W)
  by_cases hE : debtE xs = 0
  · by_cases hs : shareOk t bp = true
    · have hok : recOk xs t bp = true := by simp [recOk, hE, hs]
      have e1 : recL xs t bp = outTo (shareA t bp) xs xs.length := by simp [recL, hok]
      have e2 : recP xs t bp = min (debtSum xs) (shareA t bp) := by simp [recP, hok]
      have e3 : recE xs t bp = 0 := by simp [recE, hE, hs]
      have e4 : shareE t bp = 0 := by simp [shareE, hs]
      rw [e1, e2, e3]
      rw [hE] at F
      rw [e4] at P
      obtain ⟨h8, hall⟩ := debtE_zero hE
      have Hall := Lib.hid hall
      have hbd : 0 ≤ shareA t bp ∧ shareA t bp ≤ 1000000000000 := by
        have e5 : shareA t bp = partA t bp := by simp [shareA, hs]
        rw [e5]; exact partA_bd t bp
      clear e1 e2 e3 e4 hok hs hE hall
      generalize shareA t bp = s at *
      go_enter Try.func65, Try.ntmps65
      go_wp2_with fail
      refine (F.out _ h).mono ?_
      rintro e w1 ⟨rfl, rfl⟩
      obtain ⟨a, cap, rfl, hn, hl, h0, h1⟩ := h
      clear hl h0
      go_wp2_with (first | (go_at_call 85; refine (P.out _).mono ?_; rintro e w' ⟨rfl, rfl⟩))
      go_loopw [11, 12, 13] (fun v p i wr => ∃ k : Nat, k ≤ xs.length ∧ i = I k ∧ p = I (sumTo xs k) ∧ Hid (RRel w s xs k v wr)) (fun _ _ i _ => xs.length - (intOf i).toNat)
      case atStart => exact ⟨0, Nat.zero_le _, rfl, eI (by simp [sumTo]), World.ownsRow_nil _ _ _ _, Below.refl _ _⟩
      case round =>
        obtain ⟨k, hk, rfl, rfl, hD⟩ := hrel
        obtain ⟨s0, s1⟩ := sumTo_bd Hall.out k hk
        by_cases hlt : k < xs.length
        · obtain ⟨hown, hbw⟩ := hD.out
          have hsz := hbw.size
          have hdl := outTo_len s xs k
          obtain ⟨b, off, rfl, hb, hc⟩ := h1.resolve_left (by omega)
          obtain ⟨e0, e1⟩ := elDebt hb hc hbw k hlt
          obtain ⟨q0, q1, q2, q3⟩ := okDebt_true.1 (okAt Hall.out hlt)
          have hs := Lib.hid (sumTo_succ hlt).symm
          have hy := Lib.hid (fun hh => outTo_yes (s := s) (xs := xs) (k := k) hh)
          have hno := Lib.hid (fun hh => outTo_no (s := s) (xs := xs) (k := k) hh)
          have hi0 : (0 : Int) ≤ (k : Int) := by omega
          have hi1 : (k : Int) < (xs.length : Int) := by omega
          clear hc h1 F P
          generalize xs.getD k default = x at *
          generalize hpd : sumTo xs k = p at *
          clear hpd
          by_cases hv : x.owed < p + x.owed - s
          · have hL : leftOf s p x = x.owed := by unfold leftOf; omega
            by_cases hv2 : 0 < x.owed
            · have H1 := Lib.hid (hy.out (by rw [hL]; omega))
              rw [hL] at H1
              clear hL hy hno
              go_wp2_with (at_builtin; refine wpList_append_own _ rfl _ _ 37 rfl w.heap.size 45 i0 (.agg #[.int .i64 0, .int .i64 0]) 2 16 Try.underlying37 hi hz0 hz1 hz2 rfl (by decide) _ _ _ rfl (hown.alloc _) ⟨wr.heap.size, 0, none⟩ 1 1 [I (x.owed), I x.bp] rfl rfl (news_lit _ [I (x.owed), I x.bp] _) (oneCells_lit rfl) (by unfold maxLen; omega) (by omega) (by simp; omega) ?_; intro v' w1 hown' hgrow _)
              have hbel := grown_below (hbw.alloc hsz _) (hown.alloc _) (Nat.le_refl _) hgrow
              have hD' : Hid (RRel w s xs (k + 1) v' w1) := by
                refine ⟨?_, hbel⟩
                rw [H1.out, List.length_append, ← cells_appD]
                exact hown'
              clear hown hown' hgrow hbel hbw hD
              go_wp2
              exact ⟨⟨k + 1, by omega, by go_num, eI hs.out, hD'⟩, by simp [intOf]; omega⟩
            · have H1 := Lib.hid (hno.out (by rw [hL]; omega))
              have hD' := RRel.stay hD.out H1.out
              clear hL hy hno hown hbw hD
              go_wp2
              exact ⟨⟨k + 1, by omega, by go_num, eI hs.out, hD'⟩, by simp [intOf]; omega⟩
          · have hL : leftOf s p x = p + x.owed - s := by unfold leftOf; omega
            by_cases hv2 : 0 < p + x.owed - s
            · have H1 := Lib.hid (hy.out (by rw [hL]; omega))
              rw [hL] at H1
              clear hL hy hno
              go_wp2_with (at_builtin; refine wpList_append_own _ rfl _ _ 37 rfl w.heap.size 45 i0 (.agg #[.int .i64 0, .int .i64 0]) 2 16 Try.underlying37 hi hz0 hz1 hz2 rfl (by decide) _ _ _ rfl (hown.alloc _) ⟨wr.heap.size, 0, none⟩ 1 1 [I (p + x.owed - s), I x.bp] rfl rfl (news_lit _ [I (p + x.owed - s), I x.bp] _) (oneCells_lit rfl) (by unfold maxLen; omega) (by omega) (by simp; omega) ?_; intro v' w1 hown' hgrow _)
              have hbel := grown_below (hbw.alloc hsz _) (hown.alloc _) (Nat.le_refl _) hgrow
              have hD' : Hid (RRel w s xs (k + 1) v' w1) := by
                refine ⟨?_, hbel⟩
                rw [H1.out, List.length_append, ← cells_appD]
                exact hown'
              clear hown hown' hgrow hbel hbw hD
              go_wp2
              exact ⟨⟨k + 1, by omega, by go_num, eI hs.out, hD'⟩, by simp [intOf]; omega⟩
            · have H1 := Lib.hid (hno.out (by rw [hL]; omega))
              have hD' := RRel.stay hD.out H1.out
              clear hL hy hno hown hbw hD
              go_wp2
              exact ⟨⟨k + 1, by omega, by go_num, eI hs.out, hD'⟩, by simp [intOf]; omega⟩
        · have hkm : k = xs.length := by omega
          have hS := Sl.of_owns hD.out.1 (by have := outTo_len s xs k; omega)
          have hb' := hD.out.2
          have hF := FarB.of_owns hD.out.1
          have hq : sumTo xs k = debtSum xs := by rw [hkm, sumTo_all]
          rw [hkm] at hS
          clear hkm hD F P h1
          rw [hq] at *
          generalize debtSum xs = p at *
          by_cases hv : s < p
          · have hP := Lib.hid (show s = min p s by omega)
            go_wp2
            go_ret3
            exact ⟨_, retT3 hP.out, hS, hb', hF⟩
          · have hP := Lib.hid (show p = min p s by omega)
            go_wp2
            go_ret3
            exact ⟨_, retT3 hP.out, hS, hb', hF⟩
    · have hok : ¬ recOk xs t bp = true := by simp [recOk, hE, hs]
      have e1 : recL xs t bp = [] := by simp [recL, hok]
      have e2 : recP xs t bp = 0 := by simp [recP, hok]
      have e3 : recE xs t bp = 2 := by simp [recE, hE, hs]
      have e4 : shareE t bp = 2 := by simp [shareE, hs]
      rw [e1, e2, e3]
      rw [hE] at F
      rw [e4] at P
      clear e1 e2 e3 e4 hok hs hE
      go_enter Try.func65, Try.ntmps65
      go_wp2_with fail
      refine (F.out _ h).mono ?_
      rintro e w1 ⟨rfl, rfl⟩
      go_wp2_with (first | (go_at_call 85; refine (P.out _).mono ?_; rintro e w' ⟨rfl, rfl⟩))
      go_ret3
      exact ⟨_, rfl, Sl.nil _ _, Below.refl _ _, FarB.nil _ _ _⟩
  · have hok : ¬ recOk xs t bp = true := by simp [recOk, hE]
    have e1 : recL xs t bp = [] := by simp [recL, hok]
    have e2 : recP xs t bp = 0 := by simp [recP, hok]
    have e3 : recE xs t bp = debtE xs := by simp [recE, hE]
    have hb : (debtE xs != 0) = true := by simp [hE]
    rw [e1, e2, e3]
    clear e1 e2 e3 hok hE
    go_enter Try.func65, Try.ntmps65
    go_wp2_with fail
    refine (F.out _ h).mono ?_
    rintro e w1 ⟨rfl, rfl⟩
    go_wp2
    go_ret3
    exact ⟨_, rfl, Sl.nil _ _, Below.refl _ _, FarB.nil _ _ _⟩
end Go.Proofs.Ytcpljkjibhindaa
