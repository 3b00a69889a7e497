/- the reference of cents.Deal -/
import Derived.Test.YtdjgcenjonegjaaDealQ
import Derived.Test.YtdjgcenjonegjaaIn
namespace Go.Proofs.Ytdjgcenjonegjaa
open Go.RowKit Go.Lib Go.Sort
set_option maxRecDepth 20000

theorem infoBoolD : (Try.prog.info? 4).map (fun i => (i.zero, i.size, i.bytes)) = some (some (.bool false), 1, 1) := by kernel_rfl
def hadV (o : List Nat) (k n : Nat) : List Value := (List.range n).map (fun i => Value.bool (hadB o k i))
theorem hadV_len (o : List Nat) (k n : Nat) : (hadV o k n).length = n := by simp [hadV]
theorem hadV_get (o : List Nat) (k n i : Nat) (hi : i < n) : (hadV o k n).getD i undef = .bool (hadB o k i) := by
  unfold hadV
  rw [List.getD_eq_getElem?_getD, List.getElem?_map, List.getElem?_range hi]; rfl
theorem hadV_zero (o : List Nat) (n : Nat) : hadV o 0 n = List.replicate n (.bool false) := by
  apply List.ext_getElem?
  intro i
  unfold hadV
  rw [List.getElem?_map, List.getElem?_replicate]
  by_cases c : i < n
  · rw [List.getElem?_range c, if_pos c]; simp [hadB_zero]
  · rw [List.getElem?_eq_none (by simpa using c), if_neg c]; rfl
theorem hadV_set (o : List Nat) (k n : Nat) (hk : k < o.length) (hi : o.getD k 0 < n) : (hadV o k n).set (o.getD k 0) (.bool true) = hadV o (k + 1) n := by
  apply List.ext_getElem?
  intro i
  rw [List.getElem?_set, hadV_len]
  unfold hadV
  rw [List.getElem?_map, List.getElem?_map]
  by_cases c : o.getD k 0 = i
  · rw [if_pos c, if_pos hi, List.getElem?_range (by omega), Option.map_some, hadB_succ hk, decide_eq_true c.symm, Bool.or_true]
  · rw [if_neg c]
    by_cases c2 : i < n
    · rw [List.getElem?_range c2]
      rw [Option.map_some, Option.map_some, hadB_succ hk, decide_eq_false (fun e => c e.symm), Bool.or_false]
    · rw [List.getElem?_eq_none (by simpa using c2)]; rfl

/- what the comparison of two remainders wants -/
/- the start of each walk -/

set_option maxHeartbeats 8000000 in
theorem Dealt_good (v : Value) (T : Int) (ws : List Int) (w : World) (o : List Nat) (hO : Ord (cutI T ws.sum ws) ws.length o) (h : Sl w v 1 ws.length (ws.map I)) (hn1 : 1 ≤ ws.length) (hn2 : ws.length ≤ 50) (hTin : inB T 0 1000000000000 = true) (hws : ws.all inW = true) (hz : 0 < ws.sum) :
    Calls Try.prog 6 #[I T, v] w (GrewSl2 1 ws.length ((dealL T ws).map I) 0 w) := by
  obtain ⟨a, cap, rfl, hn', hl, h0, h⟩ := h
  obtain ⟨b, off, rfl, hb, hc⟩ := h.resolve_left (by omega)
  have n1 : ¬ (ws.length : Int) < 1 := by omega
  have n2 : ¬ (50 : Int) < (ws.length : Int) := by omega
  have KB := Below.refl w.heap.size w
  clear h h0 hl hn'
  have HW := Lib.hid hws
  have HO := Lib.hid hO
  have hx := Lib.hid (fun k => all_get hws k)
  obtain ⟨T0, T1⟩ := inB_true.1 hTin
  obtain ⟨i0, hi, hz0, hz1, hz2⟩ := info_parts infoIntD
  obtain ⟨j0, hj, hy0, hy1, hy2⟩ := info_parts infoBoolD
  clear hws hO
  go_enter Try.func6, Try.ntmps6
  go_wp2_with (go_at_call 12; refine (In_any _ _ _ _).mono ?_; rintro e w' ⟨rfl, rfl⟩)
  go_loop [7, 8] (fun s7 s8 => ∃ k : Nat, k ≤ ws.length ∧ s7 = I (ws.take k).sum ∧ s8 = I k) (fun _ i => ws.length - (intOf i).toNat)
  case atStart => exact ⟨0, Nat.zero_le _, rfl, rfl⟩
  case round =>
    obtain ⟨k, hk, rfl, rfl⟩ := hrel
    have sb := sum_bd (take_inW HW.out k)
    rw [List.length_take, Nat.min_eq_left hk] at sb
    obtain ⟨s0, s1⟩ := sb
    by_cases hlt : k < ws.length
    · have e0 := hc k (by simpa using hlt)
      rw [getD_map' _ _ hlt] at e0
      obtain ⟨x0, x1⟩ := hx.out k
      have hs := Lib.hid (sum_take_succ ws k hlt)
      have j0 : (0 : Int) ≤ (k : Int) := by omega
      have j1 : (k : Int) < (ws.length : Int) := by omega
      clear hc
      generalize ws.getD k 0 = x at *
      have hxin : inB x 0 1000000 = true := inB_true.2 ⟨x0, x1⟩
      generalize (ws.take k).sum = S at *
      go_wp2_with (go_at_call 12; refine (In_any _ _ _ _).mono ?_; rintro e w' ⟨rfl, rfl⟩)
      go_round
      case rel => exact ⟨k + 1, by omega, eI hs.out.symm, by go_num⟩
      case measure => simp [intOf]; omega
    · obtain rfl : k = ws.length := by omega
      have hzz : ¬ ws.sum = 0 := by omega
      have hmix : mixI (baseL T ws.sum ws) 0 ws.length = List.replicate ws.length 0 := by unfold mixI; simp
      have HM := Lib.hid hmix
      rw [List.take_length]
      clear hmix s0 s1 hlt hk
      go_wp2_with (first
        | (refine wpList_make_full _ rfl (.tmp 45) (.tmp 45) 22 rfl w.heap.size 3 i0 (.int .i64 0) 1 Try.underlying22 hi hz0 hz1 .i64 .i64 _ _ ws.length rfl rfl rfl rfl (by rw [hz2]; omega) (by unfold maxLen; omega) (Nat.le_refl _) ?_; intro w4 hown hgrow; have hb4 := Below.grown (B := w.heap.size) (Below.refl _ w) hgrow (Nat.le_refl _) (fun k hk => by cases hk); have OO := Lib.hid (Own.of_owns hown); clear hown hgrow)
        | (refine wpList_make_full _ rfl (.tmp 47) (.tmp 47) 33 rfl w4.heap.size 4 j0 (.bool false) 1 Try.underlying33 hj hy0 hy1 .i64 .i64 _ _ ws.length rfl rfl rfl rfl (by rw [hy2]; omega) (by unfold maxLen; omega) (Nat.le_refl _) ?_; intro w5 hown hgrow; have hb5 := Below.grown (B := w4.heap.size) (Below.refl _ w4) hgrow (Nat.le_refl _) (fun k hk => by cases hk); have KB5 := hb4.trans (hb5.mono hb4.size); have OR := Lib.hid (Own.of_owns hown); have OO5 := Lib.hid (OO.out.below hb5); clear hown hgrow))
      have hlO : w.heap.size < w4.heap.size := OO.out.lt
      have em : (madeCells (Value.int IntKind.i64 0).cells (ws.length * 1)).toList = List.replicate ws.length (I 0) := made_one (I 0) ws.length
      have em2 : (madeCells (Value.bool false).cells (ws.length * 1)).toList = List.replicate ws.length (.bool false) := made_one (.bool false) ws.length
      have PO : Own w5 w.heap.size ((mixI (baseL T ws.sum ws) 0 ws.length).map I) := by
        have := OO5.out
        rwa [em, ← List.map_replicate, ← HM.out] at this
      have PH : Own w5 w4.heap.size (hadV o 0 ws.length) := by
        have := OR.out
        rwa [em2, ← hadV_zero o] at this
      clear HM em em2 OO5 OR OO hb5 hb4 i0 hi hz0 hz1 hz2 j0 hj hy0 hy1 hy2 KB
      generalize hgH : w4.heap.size = gH at *
      clear hgH
      have hAle := Lib.hid (fun k => And.intro (hx.out k).1 (le_sum HW.out k))
      go_loopw [11, 12] (fun s11 s12 wr => ∃ k : Nat, k ≤ ws.length ∧ s11 = I (leftI T ws.sum ws k) ∧ s12 = I k ∧ Own wr w.heap.size ((mixI (baseL T ws.sum ws) k ws.length).map I) ∧ Own wr gH (hadV o 0 ws.length) ∧ Below w.heap.size w wr) (fun _ i _ => ws.length - (intOf i).toNat)
      case atStart => exact ⟨0, Nat.zero_le _, by simp [leftI, baseL], rfl, PO, PH, KB5⟩
      case round =>
        clear PO PH KB5
        obtain ⟨k, hk, rfl, rfl, OO, OH, KB⟩ := hrel
        by_cases hlt : k < ws.length
        · have e0 := (KB.cell (p := ⟨b, off + k, none⟩) hb).trans (hc k (by simpa using hlt))
          rw [getD_map' _ _ hlt] at e0
          obtain ⟨x0, x1⟩ := hx.out k
          have xs := le_sum HW.out k
          have lb := leftI_bd (A := ws.sum) (T := T) (ws := ws) ⟨T0, T1⟩ hz hAle.out k hk
          have hs := Lib.hid (leftI_succ (T := T) (A := ws.sum) hlt)
          have hbd := base_bd (T := T) (A := ws.sum) (w := ws.getD k 0) ⟨T0, T1⟩ hz ⟨x0, xs⟩
          have hge := baseL_get T ws.sum ws k hlt
          unfold baseI at hbd hs
          have SO := Lib.hid (fun W (h : Own W w.heap.size ((mixI (baseL T ws.sum ws) k ws.length).map I)) => mixM h (baseL_len _ _ _) hlt hge)
          have j0 : (0 : Int) ≤ (k : Int) := by omega
          have j1 : (k : Int) < (ws.length : Int) := by omega
          have o0 := OO.cell k (by rw [List.length_map, mixI_len _ _ _ (baseL_len _ _ _) hk]; exact hlt)
          have of0 := OO.frozen k
          rw [Nat.zero_add] at o0
          have QO := Lib.hid OO
          have QH := Lib.hid OH
          clear hc OO OH hge hAle
          generalize List.getD (List.map I (mixI (baseL T ws.sum ws) k ws.length)) k undef = uo at *
          generalize ws.getD k 0 = x at *
          have m0 : 0 ≤ T * x := Int.mul_nonneg T0 x0
          have m1 : T * x ≤ 1000000000000 * 1000000 := Int.mul_le_mul T1 x1 x0 (by omega)
          have ht : Int.tdiv (T * x) ws.sum = T * x / ws.sum := Int.tdiv_eq_ediv_of_nonneg m0
          obtain ⟨l0, l1⟩ := lb
          obtain ⟨d0, d1⟩ := hbd
          have c1 : (ws.sum == 0) = false := by simp; omega
          have c2 : ¬ ws.sum = 0 := by omega
          generalize hL : leftI T ws.sum ws k = L at *
          generalize hL1 : leftI T ws.sum ws (k + 1) = L1 at *
          clear HO
          generalize ws.sum = A at *
          go_wp2_with fail
          refine ⟨⟨k + 1, by omega, eI (by rw [hL1, hs.out]), by go_num, SO.out _ QO.out, QH.out.other (by show w.heap.size ≠ gH; omega) _, KB.setCell (by show w.heap.size ≤ w.heap.size; omega) _⟩, by simp [intOf]; omega⟩
        · obtain rfl : k = ws.length := by omega
          rw [mixI_all _ _ (baseL_len _ _ _)] at OO
          obtain ⟨lb0, lb1⟩ := left_bd (T := T) (ws := ws) hz
          obtain ⟨L, hL⟩ : ∃ L : Nat, leftI T ws.sum ws ws.length = (L : Int) := ⟨(leftI T ws.sum ws ws.length).toNat, by omega⟩
          have hdl : dealL T ws = bumps (baseL T ws.sum ws) (o.take L) := by unfold dealL; rw [hL, HO.out.eq]; rfl
          have hLn : L ≤ ws.length := by omega
          have HD := Lib.hid hdl
          have hbase := Lib.hid (baseL_bd (T := T) (A := ws.sum) (ws := ws) ⟨T0, T1⟩ hz hAle.out)
          have HC := Lib.hid hc
          rw [hL]
          clear hdl lb0 lb1 hL hlt hk hAle hc
          go_wp2_with fail
          go_loopw [11] (fun s11 wr => ∃ k : Nat, k ≤ L ∧ s11 = I ((L : Int) - (k : Int)) ∧ Own wr w.heap.size ((bumps (baseL T ws.sum ws) (o.take k)).map I) ∧ Own wr gH (hadV o k ws.length) ∧ Below w.heap.size w wr) (fun s _ => (intOf s).toNat)
          case atStart => exact ⟨0, Nat.zero_le _, by simp, by simpa [bumps] using OO, OH, KB⟩
          case round =>
            clear OO OH KB
            obtain ⟨k, hk, rfl, OO, OH, KB⟩ := hrel
            have ol := HO.out.len
            by_cases hlt : k < L
            · have g1 : (0 : Int) < (L : Int) - (k : Int) := by omega
              have QO := Lib.hid OO
              clear OO
              go_wp2_with fail
              go_loopw [13, 14] (fun s13 s14 wx => ∃ (i : Nat) (p : Int), i ≤ ws.length ∧ s13 = I p ∧ s14 = I i ∧ Hid (Bst (cutI T ws.sum ws) o k i p) ∧ Hid (Own wx w.heap.size ((bumps (baseL T ws.sum ws) (o.take k)).map I)) ∧ Own wx gH (hadV o k ws.length) ∧ Below w.heap.size w wx) (fun _ i _ => ws.length - (intOf i).toNat)
              case atStart => exact ⟨0, -1, Nat.zero_le _, rfl, rfl, Bst.zero _ _ _, QO, OH, KB⟩
              case round =>
                clear QO OH KB
                obtain ⟨i, p, hi, rfl, rfl, hB, QO, OH, KB⟩ := hrel
                by_cases hli : i < ws.length
                · have e0 := (KB.cell (p := ⟨b, off + i, none⟩) hb).trans (HC.out i (by simpa using hli))
                  rw [getD_map' _ _ hli] at e0
                  have x0 := (hx.out i).1
                  have x1 := (hx.out i).2
                  have h0 := OH.cell i (by rw [hadV_len]; exact hli)
                  rw [Nat.zero_add, hadV_get _ _ _ _ hli] at h0
                  have j0 : (0 : Int) ≤ (i : Int) := by omega
                  have j1 : (i : Int) < (ws.length : Int) := by omega
                  have QH := Lib.hid OH
                  clear OH
                  cases hb0 : hadB o k i with
                  | true =>
                    rw [hb0] at h0
                    have HB := Lib.hid (hB.out.had hb0)
                    clear hB hb0
                    go_wp2_with fail
                    go_quiet (fail)
                    go_wp2
                    exact ⟨⟨i + 1, p, by omega, rfl, by go_num, HB.out, QO.out, QH.out, drewN_below KB _⟩, by simp [intOf]; omega⟩
                  | false =>
                    rw [hb0] at h0
                    rcases hB.out.at with rfl | ⟨t, rfl, ht⟩
                    · have HB := Lib.hid (hB.out.first (by omega) hb0)
                      clear hB hb0
                      go_wp2_with fail
                      go_quiet (fail)
                      go_wp2
                      exact ⟨⟨i + 1, i, by omega, rfl, by go_num, HB.out, QO.out, QH.out, drewN_below KB _⟩, by simp [intOf]; omega⟩
                    · have e1 := (KB.cell (p := ⟨b, off + t, none⟩) hb).trans (HC.out t (by simp; omega))
                      rw [getD_map' _ _ (by omega)] at e1
                      have y0 := (hx.out t).1
                      have y1 := (hx.out t).2
                      have j2 : (0 : Int) ≤ (t : Int) := by omega
                      have j3 : (t : Int) < (ws.length : Int) := by omega
                      have j4 : ¬ (t : Int) < 0 := by omega
                      have ci : cutI T ws.sum ws i = T * ws.getD i 0 % ws.sum := rfl
                      have ct : cutI T ws.sum ws t = T * ws.getD t 0 % ws.sum := rfl
                      by_cases hcut : cutI T ws.sum ws t < cutI T ws.sum ws i
                      · have HB := Lib.hid (hB.out.more hcut hb0)
                        rw [ci, ct] at hcut
                        clear hB hb0 ci ct
                        generalize ws.getD i 0 = xi at *
                        generalize ws.getD t 0 = xt at *
                        have m0 : 0 ≤ T * xi := Int.mul_nonneg T0 x0
                        have m1 : T * xi ≤ 1000000000000 * 1000000 := Int.mul_le_mul T1 x1 x0 (by omega)
                        have m2 : 0 ≤ T * xt := Int.mul_nonneg T0 y0
                        have m3 : T * xt ≤ 1000000000000 * 1000000 := Int.mul_le_mul T1 y1 y0 (by omega)
                        have w1 : IntKind.i64.wrap (T * xi) = T * xi := by rw [IntKind.wrap_i64]; omega
                        have w2 : IntKind.i64.wrap (T * xt) = T * xt := by rw [IntKind.wrap_i64]; omega
                        have hz0 : ws.sum ≠ 0 := by omega
                        have hz2 : (ws.sum == 0) = false := by simp; omega
                        have t1 : Int.tmod (T * xi) ws.sum = T * xi % ws.sum := Int.tmod_eq_emod_of_nonneg m0
                        have t2 : Int.tmod (T * xt) ws.sum = T * xt % ws.sum := Int.tmod_eq_emod_of_nonneg m2
                        have r0 := Int.emod_nonneg (T * xi) hz0
                        have r1 := Int.emod_lt_of_pos (T * xi) hz
                        have r2 := Int.emod_nonneg (T * xt) hz0
                        have r3 := Int.emod_lt_of_pos (T * xt) hz
                        have r4 : ws.sum ≤ 50000000 := by have := (sum_bd HW.out).2; omega
                        go_wp2_with fail
                        go_quiet (fail)
                        go_wp2
                        exact ⟨⟨i + 1, i, by omega, rfl, by go_num, HB.out, QO.out, QH.out, drewN_below KB _⟩, by simp [intOf]; omega⟩
                      · have HB := Lib.hid (hB.out.less hcut)
                        rw [ci, ct] at hcut
                        clear hB hb0 ci ct
                        generalize ws.getD i 0 = xi at *
                        generalize ws.getD t 0 = xt at *
                        have m0 : 0 ≤ T * xi := Int.mul_nonneg T0 x0
                        have m1 : T * xi ≤ 1000000000000 * 1000000 := Int.mul_le_mul T1 x1 x0 (by omega)
                        have m2 : 0 ≤ T * xt := Int.mul_nonneg T0 y0
                        have m3 : T * xt ≤ 1000000000000 * 1000000 := Int.mul_le_mul T1 y1 y0 (by omega)
                        have w1 : IntKind.i64.wrap (T * xi) = T * xi := by rw [IntKind.wrap_i64]; omega
                        have w2 : IntKind.i64.wrap (T * xt) = T * xt := by rw [IntKind.wrap_i64]; omega
                        have hz0 : ws.sum ≠ 0 := by omega
                        have hz2 : (ws.sum == 0) = false := by simp; omega
                        have t1 : Int.tmod (T * xi) ws.sum = T * xi % ws.sum := Int.tmod_eq_emod_of_nonneg m0
                        have t2 : Int.tmod (T * xt) ws.sum = T * xt % ws.sum := Int.tmod_eq_emod_of_nonneg m2
                        have r0 := Int.emod_nonneg (T * xi) hz0
                        have r1 := Int.emod_lt_of_pos (T * xi) hz
                        have r2 := Int.emod_nonneg (T * xt) hz0
                        have r3 := Int.emod_lt_of_pos (T * xt) hz
                        have r4 : ws.sum ≤ 50000000 := by have := (sum_bd HW.out).2; omega
                        go_wp2_with fail
                        go_quiet (fail)
                        go_wp2
                        exact ⟨⟨i + 1, t, by omega, rfl, by go_num, HB.out, QO.out, QH.out, drewN_below KB _⟩, by simp [intOf]; omega⟩
                · obtain rfl : i = ws.length := by omega
                  obtain ⟨hp, hpn⟩ := hB.out.done HO.out (by omega)
                  subst hp
                  have hko : k < o.length := by omega
                  have hbm := bumps_bd o hbase.out k (by omega) (o.getD k 0)
                  have hlen : (bumps (baseL T ws.sum ws) (o.take k)).length = ws.length := by rw [bumps_len, baseL_len]
                  have o0 := QO.out.cell (o.getD k 0) (by rw [List.length_map, hlen]; exact hpn)
                  rw [Nat.zero_add, getD_map' _ _ (by rw [hlen]; exact hpn)] at o0
                  have of0 := QO.out.frozen (o.getD k 0)
                  have h0 := OH.cell (o.getD k 0) (by rw [hadV_len]; exact hpn)
                  rw [Nat.zero_add] at h0
                  have hf0 := OH.frozen (o.getD k 0)
                  have hsn := bumps_snoc (baseL T ws.sum ws) o k hko
                  have SO := Lib.hid (show ∀ W, Own W w.heap.size ((bumps (baseL T ws.sum ws) (o.take k)).map I) → Own (W.setCell ⟨w.heap.size, o.getD k 0, none⟩ (I ((bumps (baseL T ws.sum ws) (o.take k)).getD (o.getD k 0) 0 + 1))) w.heap.size ((bumps (baseL T ws.sum ws) (o.take (k + 1))).map I) from fun W h => by
                    rw [hsn]; unfold bump; rw [List.map_set]; exact h.set _ _)
                  have SH := Lib.hid (show ∀ W, Own W gH (hadV o k ws.length) → Own (W.setCell ⟨gH, o.getD k 0, none⟩ (.bool true)) gH (hadV o (k + 1) ws.length) from fun W h => by
                    rw [← hadV_set o k ws.length hko hpn]; exact h.set _ _)
                  have QH := Lib.hid OH
                  clear OH hB hsn hlen
                  generalize (hadV o k ws.length).getD (o.getD k 0) undef = uh at *
                  generalize o.getD k 0 = z at *
                  generalize (bumps (baseL T ws.sum ws) (o.take k)).getD z 0 = y at *
                  obtain ⟨y0, y1⟩ := hbm
                  have j2 : (0 : Int) ≤ (z : Int) := by omega
                  have j3 : (z : Int) < (ws.length : Int) := by omega
                  have nHO : ¬ gH = w.heap.size := by omega
                  have nOH : ¬ w.heap.size = gH := by omega
                  go_wp2_with fail
                  refine ⟨⟨k + 1, by omega, by first | rfl | go_num | (congr 1; omega), SO.out _ (QO.out.other (by show gH ≠ w.heap.size; omega) _), (SH.out _ QH.out).other (by show w.heap.size ≠ gH; omega) _, (KB.setCell (by show w.heap.size ≤ gH; omega) _).setCell (by show w.heap.size ≤ w.heap.size; omega) _⟩, by simp [intOf]; omega⟩
            · obtain rfl : k = L := by omega
              have g1 : ¬ (0 : Int) < (k : Int) - (k : Int) := by omega
              go_wp2_with fail
              go_ret2
              refine ⟨_, rfl, ?_, KB⟩
              rw [HD.out]
              have := OO.sl (sz := 1) (n := ws.length) (cap := ws.length) (by omega) (Nat.le_refl _) (by rw [List.length_map, bumps_len, baseL_len, Nat.mul_one])
              exact this
end Go.Proofs.Ytdjgcenjonegjaa
