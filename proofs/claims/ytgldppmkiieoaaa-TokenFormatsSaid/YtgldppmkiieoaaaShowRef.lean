/- (*Int).Text in base 10, (*Int).String, ref.WideShown -/
import Derived.Test.YtgldppmkiieoaaaShowLaw
import Derived.Test.YtgldppmkiieoaaaSmallNew
import Derived.Deep.LoopGhost
namespace Go.Proofs.Ytgldppmkiieoaaa
open Go.RowKit
set_option maxRecDepth 20000

theorem infoU8 : (Try.prog.info? 5).map (fun i => (i.zero, i.size, i.bytes)) = some (some (.int .u8 0), 1, 1) := by kernel_rfl
theorem Abs.grown {w w' : World} {b n c N : Nat} {row : Option Nat} (h : Abs w (.slice (some ⟨b, 0, none⟩) n c) N) (hg : w.grownBy w' row) (hne : some b ≠ row) : Abs w' (.slice (some ⟨b, 0, none⟩) n c) N := by
  obtain ⟨l, ⟨a, cap, he, h1, h2, h3, h4⟩, hC⟩ := h
  refine ⟨l, ⟨a, cap, he, h1, h2, h3, ?_⟩, hC⟩
  rcases h4 with h4 | ⟨b', off, ha, hb, hc⟩
  · exact .inl h4
  · simp only [Value.slice.injEq] at he
    obtain ⟨he, _, _⟩ := he
    rw [ha] at he
    simp only [Option.some.injEq, Addr.mk.injEq] at he
    obtain ⟨rfl, rfl, _⟩ := he
    exact .inr ⟨b, 0, ha, Nat.lt_of_lt_of_le hb hg.size, fun j hj => hg.cell (hc j hj) hne⟩
def TextRel (W : World) (N k : Nat) (sv av : Value) (wr : World) : Prop :=
  wr.ownsRow W.heap.size 5 1 sv k (bytesD N k) ∧ Abs wr av (N / 10 ^ k) ∧ Below W.heap.size W wr
set_option maxHeartbeats 4000000 in
theorem Text_any (x N : Nat) (w : World) (hx : BN w x N) (hN : N < 10 ^ 40) : Calls Try.prog 81 #[.pointer (some ⟨x, 0, none⟩), I 10] w (GrewShow N w) := by
  obtain ⟨vx, x1, x2⟩ := hx
  obtain ⟨cx0, cx1, -, -⟩ := x1.cells
  have hxl := x1.lt
  have big : N < 4294967296 ^ 250 := Nat.lt_trans hN (Nat.lt_of_lt_of_le (by decide : 10 ^ 40 < 4294967296 ^ 5) (Nat.pow_le_pow_right (by decide) (by decide)))
  by_cases h0 : N = 0
  · subst h0
    obtain ⟨la, hA, ca⟩ := x2
    have hl : la = [] :=
      can_zero ca
    subst hl
    obtain ⟨a, cap, rfl, hn1, hl1, h01, hr1⟩ := hA
    clear hr1 hl1 h01 ca
    go_enter Try.func81, Try.ntmps81
    go_wp2
    go_ret
    exact ⟨1, ⟨by decide, rfl, .inl rfl⟩, rfl, Below.refl _ _⟩
  · obtain ⟨i0, hi, hz0, hz1, hz2⟩ := info_parts infoU8
    have Tw := Lib.hid (twin_any vx N w x2 big)
    have X2 := x2
    obtain ⟨la, hA, ca⟩ := x2
    have hla : 0 < la.length := by
      cases hla : la.length with
      | zero =>
        rw [List.length_eq_zero_iff.1 hla] at ca
        exact absurd ca.1.symm h0
      | succ k => omega
    obtain ⟨a, cap, rfl, hn1, hl1, h01, hr1⟩ := hA
    have hla' : ¬ (la.length : Int) = 0 := by omega
    clear hr1 hl1 h01 ca X2 x1
    go_enter Try.func81, Try.ntmps81
    go_wp2_with fail
    refine Tw.out.mono ?_
    rintro e w1 ⟨av, rfl, hAv, k1⟩
    have hD : Hid (TextRel w N 0 (.slice none 0 0) av w1) := ⟨World.ownsRow_nil _ _ _ _, by rw [Nat.pow_zero, Nat.div_one]; exact hAv, k1⟩
    go_wp2
    go_loopg [5, 6, 7] N (fun gk sv av _ wr => ∃ k, k ≤ 40 ∧ gk = N / 10 ^ k ∧ Hid (k = 0 ∨ N / 10 ^ (k - 1) ≠ 0) ∧ Hid (TextRel w N k sv av wr))
    case atStart => exact ⟨0, by decide, by rw [Nat.pow_zero, Nat.div_one], .inl rfl, hD⟩
    case round =>
      clear hD
      obtain ⟨k, hk, rfl, hk0, hD⟩ := hrel
      obtain ⟨hown, hA, hbw⟩ := hD.out
      by_cases hz : N / 10 ^ k = 0
      · have hk1 : 1 ≤ k := by
          cases k with
          | zero => rw [Nat.pow_zero, Nat.div_one] at hz; exact absurd hz h0
          | succ k => omega
        have hL : IsLen N k := ⟨hk1, hz, .inr (hk0.out.resolve_left (by omega))⟩
        rw [hz] at hA
        obtain ⟨la2, hA2, ca2⟩ := hA
        have hl2 := can_zero ca2
        subst hl2
        obtain ⟨a2, cap2, rfl, hn2, hl2, h02, hr2⟩ := hA2
        clear hr2 hl2 h02 ca2 hn2
        obtain ⟨g, cap3, rfl, hgb, hcap, hO⟩ := (owns_cases hown).resolve_left (by omega)
        rw [← revMix_zero] at hO
        have hx0 := (hbw.cell (p := ⟨x, 0, none⟩) hxl).trans cx0
        have hRV : Hid (Own wr g (revMix N k 0) ∧ Below w.heap.size w wr) := ⟨hO, hbw⟩
        clear hown hD hO hbw
        go_wp2
        go_loopw [8, 9, 10] (fun i j _ wr2 => ∃ q p : Nat, q + p + 1 = k ∧ q ≤ p + 1 ∧ i = I q ∧ j = I p ∧ Hid (Own wr2 g (revMix N k q) ∧ Below w.heap.size w wr2)) (fun i _ _ _ => (k - intOf i).toNat)
        case atStart => exact ⟨0, k - 1, by omega, by omega, rfl, eI (by omega), hRV⟩
        case round =>
          clear hRV
          obtain ⟨q, p, hqp, hqp1, rfl, rfl, hRV⟩ := hrel
          obtain ⟨hO, hb2⟩ := hRV.out
          by_cases hlt : q < p
          · have hq0 : (0 : Int) ≤ (q : Int) := by omega
            have hq1 : (q : Int) < (k : Int) := by omega
            have hp0 : (0 : Int) ≤ (p : Int) := by omega
            have hp1 : (p : Int) < (k : Int) := by omega
            have hltI : (q : Int) < (p : Int) := by omega
            have hqne : ¬ q = p := by omega
            have hpne : ¬ p = q := by omega
            have eq1 := hO.cell q (by rw [revMix_len]; omega)
            rw [Nat.zero_add, revMix_at (by omega), if_neg (by omega)] at eq1
            have ep1 := hO.cell p (by rw [revMix_len]; omega)
            rw [Nat.zero_add, revMix_at (by omega), if_neg (by omega)] at ep1
            have fq := hO.frozen q
            have fp := hO.frozen p
            have hsucc := revMix_succ (N := N) (L := k) (i := q) (by omega)
            rw [show k - 1 - q = p by omega] at hsucc
            have hO2 := (hO.set q (.int .u8 ((dig N p : Nat) : Int))).set p (.int .u8 ((dig N q : Nat) : Int))
            rw [hsucc] at hO2
            have hnew : Hid (Own ((wr.setCell ⟨g, q, none⟩ (.int .u8 ((dig N p : Nat) : Int))).setCell ⟨g, p, none⟩ (.int .u8 ((dig N q : Nat) : Int))) g (revMix N k (q + 1)) ∧ Below w.heap.size w ((wr.setCell ⟨g, q, none⟩ (.int .u8 ((dig N p : Nat) : Int))).setCell ⟨g, p, none⟩ (.int .u8 ((dig N q : Nat) : Int)))) :=
              ⟨hO2, (hb2.setCell (p := ⟨g, q, none⟩) hgb _).setCell (p := ⟨g, p, none⟩) hgb _⟩
            clear hO2 hsucc hO hb2 hRV
            generalize dig N p = dp at *
            generalize dig N q = dq at *
            have r1 := set_same
            have r2 := set_off
            go_wp2
            exact ⟨⟨q + 1, p - 1, by omega, by omega, by go_num, eI (by omega), hnew⟩, by simp [intOf]; try omega⟩
          · have hltI : ¬ (q : Int) < (p : Int) := by omega
            have hcv := fun T => Go.Lib.run_convert_whole (P := Try.prog) T 98 5 9 (by kernel_rfl) (by kernel_rfl) (by kernel_rfl) g 0 (showB N k)
            have hcv2 := hcv wr (show_bytes (i := q) (by omega) hO) cap3
            rw [showB_size] at hcv2
            clear hcv hO hRV
            go_wp2
            go_ret
            exact ⟨k, hL, rfl, hb2⟩
      · have hk40 : k < 40 := Decidable.byContradiction fun hc => hz (div_more (Nat.div_eq_of_lt hN) (by omega))
        have Sm := Lib.hid (small_new _ _ 10 wr hA (Nat.lt_of_le_of_lt (Nat.div_le_self _ _) big) (by decide) (by decide))
        rw [Nat.div_div_eq_div_mul, ← Nat.pow_succ] at Sm
        have hr10 : N / 10 ^ k % 10 < 10 := Nat.mod_lt _ (by decide)
        have hdg := Lib.hid (show dig N k = 48 + N / 10 ^ k % 10 from rfl)
        have hless : N / 10 ^ (k + 1) < N / 10 ^ k := by
          rw [Nat.pow_succ, ← Nat.div_div_eq_div_mul]
          exact Nat.div_lt_self (Nat.pos_of_ne_zero hz) (by decide)
        obtain ⟨la2, hA2, ca2⟩ := hA
        have hl2 : 0 < la2.length := by
          cases hla2 : la2.length with
          | zero =>
            rw [List.length_eq_zero_iff.1 hla2] at ca2
            exact absurd ca2.1.symm hz
          | succ j => omega
        obtain ⟨a2, cap2, rfl, hn2, hl22, h02, hr2⟩ := hA2
        have hl2' : (0 : Int) < (la2.length : Int) := by omega
        have hzz := Lib.hid hz
        have hsz := hbw.size
        clear hr2 hl22 h02 ca2 hn2 hz hD
        generalize N / 10 ^ k % 10 = r at *
        have hr10' : (r : Int) < 10 := by omega
        have hrw : (48 + (r : Int)) % 256 = 48 + (r : Int) := by omega
        have hown2 := Lib.hid hown
        clear hown
        go_wp2_with fail
        refine Sm.out.mono ?_
        rintro e w2 ⟨q', c', rfl, hA', k2⟩
        have hown3 := owns_kept hown2.out k2
        have hbw2 := hbw.trans (k2.mono hbw.size)
        have hsz2 := hbw2.size
        go_wp2_with ((at_builtin; refine wpList_append_own _ rfl _ _ 98 rfl w.heap.size 5 i0 (.int .u8 0) 1 1 Try.underlying98 hi hz0 hz1 hz2 rfl (by decide) _ _ _ rfl (hown3.alloc _) ⟨w2.heap.size, 0, none⟩ 1 1 [.int .u8 (48 + (r : Int))] rfl rfl (news_lit _ [.int .u8 (48 + (r : Int))] _) (oneCells_lit rfl) (by unfold maxLen; omega) (by omega) (by simp; omega) ?_; intro v' w1 hown' hgrow _))
        have hbel := grown_below (hbw2.alloc hsz2 _) (hown3.alloc _) (Nat.le_refl _) hgrow
        have hA'' := (hA'.below (boxed_below w2 (.cells #[.int .u8 (48 + (r : Int))] 5))).grown hgrow (fun he => by have := (hown2.out.lt _ he.symm).2; omega)
        rw [show bytesD N k ++ [.int .u8 (48 + (r : Int))] = bytesD N (k + 1) by rw [bytesD_succ, hdg.out]; rfl] at hown'
        have hnew : Hid (TextRel w N (k + 1) v' (.slice (some ⟨wr.heap.size, 0, none⟩) q' c') w1) := ⟨hown', hA'', hbel⟩
        have HNE := Lib.hid (show k + 1 = 0 ∨ N / 10 ^ (k + 1 - 1) ≠ 0 from .inr hzz.out)
        clear hown' hA'' hbel hown3 hgrow hA'
        go_wp2
        go_roundg (N / 10 ^ (k + 1))
        case measure => exact hless
        case rel => exact ⟨k + 1, by omega, rfl, HNE, hnew⟩
theorem String_any (x N : Nat) (w : World) (hx : BN w x N) (hN : N < 10 ^ 40) : Calls Try.prog 54 #[.pointer (some ⟨x, 0, none⟩)] w (GrewShow N w) := by
  have T := Lib.hid (Text_any x N w hx hN)
  clear hx
  go_enter Try.func54, Try.ntmps54
  go_wp2_with fail
  refine T.out.mono ?_
  rintro e w1 ⟨L, hL, rfl, k1⟩
  go_wp2
  go_ret
  exact ⟨L, hL, rfl, k1⟩
theorem WideShown_any (a b c : Nat) (w : World) (ha : a < 4294967296) (hb : b < 4294967296) (hc : c < 4294967296) : Calls Try.prog 23 #[wideV a b c] w (GrewShow (val [a, b, c]) w) := by
  have B := Lib.hid (fun W => big96_any a b c W ha hb hc)
  have hN : val [a, b, c] < 10 ^ 40 := Nat.lt_trans (val3_lt ha hb hc) (by decide)
  have S := Lib.hid (fun W z hz => String_any z (val [a, b, c]) W hz hN)
  generalize val [a, b, c] = N at *
  go_enter Try.func23, Try.ntmps23
  go_wp2_with fail
  refine (B.out _).mono ?_
  rintro e w1 ⟨z, rfl, hz, hzl, k1⟩
  have kk := (boxed_below w (.cells #[U32 a, U32 b, U32 c] 24)).trans (k1.mono (boxed_below w (.cells #[U32 a, U32 b, U32 c] 24)).size)
  clear k1
  go_wp2_with fail
  refine (S.out _ _ hz).mono ?_
  rintro e w2 ⟨L, hL, rfl, k2⟩
  go_wp2
  go_ret
  exact ⟨L, hL, rfl, kk.trans (k2.mono kk.size)⟩
end Go.Proofs.Ytgldppmkiieoaaa
