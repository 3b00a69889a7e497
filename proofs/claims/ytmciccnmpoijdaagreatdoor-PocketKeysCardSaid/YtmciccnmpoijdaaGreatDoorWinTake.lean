/- window.Take and its reference -/
import Derived.Test.YtmciccnmpoijdaaGreatDoorWinMay
import Derived.Test.YtmciccnmpoijdaaGreatDoorPk16
import Derived.Test.YtmciccnmpoijdaaGreatDoorPk06
namespace Go.Proofs.YtmciccnmpoijdaaGreatDoor
open Go.RowKit
set_option maxRecDepth 20000

def tkH (h : Int) (b : Nat) (id : Int) : Int := if judgeE h b id = 0 then takeH h id else 0
def tkB (h : Int) (b : Nat) (id : Int) : Nat := if judgeE h b id = 0 then takeB h b id else 0
theorem judge_zero {h : Int} {b : Nat} {id : Int} (hj : judgeE h b id = 0) : mayW h b = true ∧ 1 ≤ id ∧ id ≤ 1048575 ∧ h - id < 64 ∧ id ∉ memb h b 64 := by
  have hj' := hj
  unfold judgeE at hj
  split at hj
  · omega
  · split at hj
    · omega
    · split at hj
      · omega
      · rename_i h1 h2 h3
        have hm : mayW h b = true := by simpa using h1
        have hi : inB id 1 1048575 = true := by simpa using h2
        obtain ⟨i0, i1⟩ := inB_true.1 hi
        refine ⟨hm, i0, i1, by omega, fun hh => ?_⟩
        rw [judge_mem hm hi h3, if_pos hh] at hj'
        omega

set_option maxHeartbeats 1000000 in
theorem Take_any (h : Int) (b : Nat) (id : Int) (w : World) (hb : b < 18446744073709551616) : Calls Tryz.prog 69 #[WinV h b, I id] w (Grew (T2 (WinV (tkH h b id) (tkB h b id)) (I (judgeE h b id))) w) := by
  have J := Lib.hid (fun W => Judge_any h b id W hb)
  by_cases hj : judgeE h b id = 0
  · obtain ⟨hm, i0, i1, hd, hno⟩ := judge_zero hj
    obtain ⟨b0, b1, _⟩ := mayW_bd hm
    have e1 : tkH h b id = takeH h id := by simp [tkH, hj]
    have e2 : tkB h b id = takeB h b id := by simp [tkB, hj]
    rw [e1, e2, hj]
    rw [hj] at J
    clear hno hm e1 e2 hj
    by_cases hlt : h < id
    · obtain ⟨n, hn⟩ := Int.eq_ofNat_of_zero_le (show 0 ≤ id - h by omega)
      have e1 : takeH h id = id := by simp [takeH, hlt]
      have e2 : takeB h b id = (b * 2 ^ min n 64) % 18446744073709551616 ||| 1 := by simp [takeB, hlt, hn]
      rw [e1, e2]
      have hO := Lib.hid (u64_or_nat ((b * 2 ^ min n 64) % 18446744073709551616) 1 (Nat.mod_lt _ (by decide)) (by decide))
      have hW : IntKind.u64.wrap ((b : Int) * 2 ^ min n 64) = (((b * 2 ^ min n 64) % 18446744073709551616 : Nat) : Int) := by
        have e : (b : Int) * 2 ^ min n 64 = ((b * 2 ^ min n 64 : Nat) : Int) := by rw [Int.natCast_mul, Int.natCast_pow]; rfl
        rw [e]
        generalize b * 2 ^ min n 64 = x
        show (x : Int) % 18446744073709551616 = _
        omega
      generalize (b * 2 ^ min n 64) % 18446744073709551616 = x at *
      have hO2 : bits .or .u64 (x : Int) 1 = ((x ||| 1 : Nat) : Int) := hO.out
      generalize x ||| 1 = y at *
      clear e1 e2 hO
      go_enter Tryz.func69, Tryz.ntmps69
      go_wp2_with fail
      refine (J.out _).mono ?_
      rintro e w1 ⟨rfl, k1⟩
      obtain ⟨hc, hf⟩ := bcell k1
      have k := below_box (below_box k1)
      clear k1
      have r1 := set_same
      have r2 := set_off
      have r3 := set_blk
      go_wp2
      exact bodyPost_ret (v := T2 (WinV id y) (I 0)) (by simp [results, Tryz.results69, go_sem, *]; try omega) rfl (Grew.intro rfl (by repeat first | with_reducible assumption | with_reducible exact Below.refl _ _ | with_reducible refine Below.setCell ?_ (by first | exact Nat.le_refl _ | exact Below.size (by assumption) | (simp; done) | (simp; omega) | omega) _ | with_reducible refine Below.alloc ?_ (by first | exact Nat.le_refl _ | exact Below.size (by assumption) | (simp; done) | (simp; omega) | omega) _ | with_reducible refine drewN_below ?_ _ | with_reducible refine Below.drew ?_))
    · obtain ⟨n, hn⟩ := Int.eq_ofNat_of_zero_le (show 0 ≤ h - id by omega)
      have hn64 : n < 64 := by omega
      have e1 : takeH h id = h := by simp [takeH, hlt]
      have e2 : takeB h b id = b ||| 2 ^ n := by simp [takeB, hlt, hn]
      rw [e1, e2]
      have hp : 2 ^ n < 2 ^ 64 := Nat.pow_lt_pow_right (by decide) hn64
      have hW := wrap_pow hn64
      have hO2 := u64_or_nat b (2 ^ n) hb (by omega)
      generalize 2 ^ n = x at *
      generalize b ||| x = y at *
      clear e1 e2
      go_enter Tryz.func69, Tryz.ntmps69
      go_wp2_with fail
      refine (J.out _).mono ?_
      rintro e w1 ⟨rfl, k1⟩
      obtain ⟨hc, hf⟩ := bcell k1
      have k := below_box (below_box k1)
      clear k1
      have r1 := set_same
      have r2 := set_off
      have r3 := set_blk
      have c0 := (hc w.heap.size 0 (by simp; try omega)).trans (show _ = some (I h) by simp)
      have c1 := (hc w.heap.size 1 (by simp; try omega)).trans (show _ = some (.int .u64 b) by simp)
      have c2 := (hc (w.heap.size + 1) 0 (by simp; try omega)).trans (show _ = some (I 0) by simp)
      have c3 := (hc (w.heap.size + 1) 1 (by simp; try omega)).trans (show _ = some (.int .u64 0) by simp)
      have f1 := (hf w.heap.size 1 (by simp; try omega)).trans (show _ = false by simp)
      have f2 := (hf (w.heap.size + 1) 0 (by simp; try omega)).trans (show _ = false by simp)
      have f3 := (hf (w.heap.size + 1) 1 (by simp; try omega)).trans (show _ = false by simp)
      clear hc hf
      go_wp2
      go_region
      go_wp2
      exact bodyPost_ret (v := T2 (WinV h y) (I 0)) (by simp [results, Tryz.results69, go_sem, *]; try omega) rfl (Grew.intro rfl (by repeat first | with_reducible assumption | with_reducible exact Below.refl _ _ | with_reducible refine Below.setCell ?_ (by first | exact Nat.le_refl _ | exact Below.size (by assumption) | (simp; done) | (simp; omega) | omega) _ | with_reducible refine Below.alloc ?_ (by first | exact Nat.le_refl _ | exact Below.size (by assumption) | (simp; done) | (simp; omega) | omega) _ | with_reducible refine drewN_below ?_ _ | with_reducible refine Below.drew ?_))
  · have e1 : tkH h b id = 0 := by simp [tkH, hj]
    have e2 : tkB h b id = 0 := by simp [tkB, hj]
    rw [e1, e2]
    have hb2 : (judgeE h b id != 0) = true := by simp [hj]
    clear e1 e2 hj
    generalize judgeE h b id = E at *
    go_enter Tryz.func69, Tryz.ntmps69
    go_wp2_with fail
    refine (J.out _).mono ?_
    rintro e w1 ⟨rfl, k1⟩
    obtain ⟨hc, hf⟩ := bcell k1
    have k := below_box (below_box k1)
    clear k1
    go_wp2
    exact bodyPost_ret (v := T2 (WinV 0 0) (I E)) (by simp [results, Tryz.results69, go_sem, *]; try omega) rfl (Grew.intro rfl (by repeat first | with_reducible assumption | with_reducible exact Below.refl _ _ | with_reducible refine Below.setCell ?_ (by first | exact Nat.le_refl _ | exact Below.size (by assumption) | (simp; done) | (simp; omega) | omega) _ | with_reducible refine Below.alloc ?_ (by first | exact Nat.le_refl _ | exact Below.size (by assumption) | (simp; done) | (simp; omega) | omega) _ | with_reducible refine drewN_below ?_ _ | with_reducible refine Below.drew ?_))

/-! the reference -/
theorem count_take {l : List Int} {j : Nat} (hj : j < l.length) (a : Int) : (l.take (j + 1)).count a = (l.take j).count a + if l.getD j 0 = a then 1 else 0 := by
  rw [List.take_add_one, List.getElem?_eq_getElem hj, List.count_append, List.getD_eq_getElem?_getD, List.getElem?_eq_getElem hj]
  by_cases h : l[j] = a
  · simp [h]
  · simp [h]
theorem count_take_le (l : List Int) (j : Nat) (a : Int) : (l.take j).count a ≤ l.count a := (List.take_sublist j l).count_le a
def WO (w : World) (g : Nat) (high : Int) (x : Nat) (wr : World) : Prop := Own wr (g + 1) [I high, .int .u64 x] ∧ Own wr g [I 0, .int .u64 0] ∧ Below w.heap.size w wr
theorem WO.set {w : World} {g : Nat} {high : Int} {x : Nat} {wr : World} (h : WO w g high x wr) (hg : w.heap.size ≤ g) (y : Nat) : WO w g high y (wr.setCell ⟨g + 1, 1, none⟩ (.int .u64 y)) :=
  ⟨h.1.set 1 _, h.2.1.other (by show g + 1 ≠ g; omega) _, h.2.2.setCell (by show w.heap.size ≤ g + 1; omega) _⟩

set_option maxHeartbeats 1000000 in
theorem windowOf_any (v : Value) (l : List Int) (high : Int) (w : World) (h : Sl w v 1 l.length (l.map I)) (hl : l.Nodup) (hn : l.length ≤ 100) (h0 : 0 ≤ high) (h1 : high ≤ 1048575) :
    Calls Tryz.prog 88 #[I high, v] w (Grew (WinV high (bitsOf high l 64)) w) := by
  have HL := Lib.hid hl
  obtain ⟨a, cap, rfl, hn2, hlc, h00, hr⟩ := h
  clear hl hlc h00
  go_enter Tryz.func88, Tryz.ntmps88
  go_wp2
  go_loopw [6] (fun i wr => ∃ k : Nat, k ≤ 64 ∧ i = I (63 - (k : Int)) ∧ Hid (WO w w.heap.size high (bitsOf high l k) wr)) (fun i _ => (intOf i + 1).toNat)
  case atStart =>
    exact ⟨0, by omega, rfl, Own.new (by simp) [I high, .int .u64 0] _, (Own.new rfl [I 0, .int .u64 0] _).alloc _, (by repeat first | exact Below.refl _ _ | assumption | refine drewN_below ?_ _ | refine Below.alloc ?_ (by first | exact Nat.le_refl _ | exact Below.size (by assumption) | (simp; done) | (simp; omega) | omega) _ | refine Below.setCell ?_ (by first | exact Nat.le_refl _ | (simp; done) | (simp; omega) | omega) _)⟩
  case round =>
    obtain ⟨k, hk, rfl, hD⟩ := hrel
    by_cases hlt : k < 64
    · obtain ⟨i, hi⟩ : ∃ i : Nat, k + i = 63 := ⟨63 - k, by omega⟩
      rw [show (63 - (k : Int)) = (i : Int) by omega]
      have hB := bitsOf_lt (high := high) HL.out k
      have hp : 2 ^ k ≤ 2 ^ 63 := Nat.pow_le_pow_right (by decide) (by omega)
      have hS := Lib.hid (show bitsOf high l (k + 1) = 2 * bitsOf high l k + l.count (high - (i : Int)) by simp only [bitsOf]; rw [show 63 - k = i by omega])
      generalize bitsOf high l k = x at *
      have hx : 2 * x < 18446744073709551615 := by omega
      obtain ⟨hO1, hO2, hbw⟩ := hD.out
      have e0 := hO1.cell 0 (by simp)
      have e1 := hO1.cell 1 (by simp)
      have f1 := hO1.frozen 1
      simp only [Nat.zero_add, List.getD_cons_zero, List.getD_cons_succ] at e0 e1
      have hnext := Lib.hid (hD.out.set (Nat.le_refl _) (2 * x))
      have hi63 : i ≤ 63 := by omega
      have Hi := Lib.hid hi
      clear hB hp hO1 hO2 hD hi
      go_wp2
      go_loopw [7] (fun j wr => ∃ q : Nat, q ≤ l.length ∧ j = I q ∧ Hid (WO w w.heap.size high (2 * x + (l.take q).count (high - (i : Int))) wr)) (fun j _ => l.length - (intOf j).toNat)
      case atStart => exact ⟨0, Nat.zero_le _, rfl, hnext⟩
      case round =>
        obtain ⟨q, hq, rfl, hE⟩ := hrel
        obtain ⟨hO1, hO2, hbw⟩ := hE.out
        have e0 := hO1.cell 0 (by simp)
        have e1 := hO1.cell 1 (by simp)
        have f1 := hO1.frozen 1
        simp only [Nat.zero_add, List.getD_cons_zero, List.getD_cons_succ] at e0 e1
        by_cases hlt2 : q < l.length
        · obtain ⟨p, off, rfl, hp, hcell⟩ := hr.resolve_left (by omega)
          have ec := (hbw.cell (p := ⟨p, off + q, none⟩) hp).trans (hcell q (by simpa using hlt2))
          rw [getD_map' _ _ hlt2] at ec
          have hct := count_take hlt2 (high - (i : Int))
          have hle := count_take_le l q (high - (i : Int))
          have hle2 := count_take_le l (q + 1) (high - (i : Int))
          have hc1 : l.count (high - (i : Int)) ≤ 1 := List.nodup_iff_count.1 HL.out _
          have hset := Lib.hid (fun y => hE.out.set (Nat.le_refl _) y)
          have hi0 : (0 : Int) ≤ (q : Int) := by omega
          have hi1 : (q : Int) < (l.length : Int) := by omega
          clear hr hcell hO1 hO2
          generalize l.getD q 0 = y at *
          generalize (l.take q).count (high - (i : Int)) = c at *
          by_cases hy : y = high - (i : Int)
          · rw [if_pos hy] at hct
            have hy2 : (y == high - (i : Int)) = true := by simp [hy]
            have H := Lib.hid (hset.out (2 * x + (c + 1)))
            have H2 := Lib.hid hct
            have hc3 : 2 * x + c + 1 < 18446744073709551616 := by omega
            have hcast := Lib.hid (show ((2 * x + (c + 1) : Nat) : Int) = 2 * (x : Int) + (c : Int) + 1 by omega)
            clear hy hset hct hle hle2 hc1 hE
            go_wp2
            exact ⟨⟨q + 1, by omega, by go_num, by rw [H2.out, ← hcast.out]; exact H⟩, by simp [intOf]; omega⟩
          · rw [if_neg hy] at hct
            have hy2 : (y == high - (i : Int)) = false := by simp [hy]
            have H2 := Lib.hid hct
            clear hy hset hct hle hle2 hc1
            go_wp2
            exact ⟨⟨q + 1, by omega, by go_num, by rw [H2.out]; exact hE⟩, by simp [intOf]; omega⟩
        · have hql : q = l.length := by omega
          have H : Hid (WO w w.heap.size high (bitsOf high l (k + 1)) wr) := by
            rw [hS.out]; have := hE.out; rw [hql, List.take_of_length_le (Nat.le_refl _)] at this; exact this
          have hge : (l.length : Int) ≤ (q : Int) := by omega
          clear hql hE hr hO1 hO2 hS
          go_wp2
          exact ⟨⟨k + 1, by omega, eI (by have := Hi.out; omega), H⟩, by simp [intOf]; try omega⟩
    · have hk64 : k = 64 := by omega
      have H : WO w w.heap.size high (bitsOf high l 64) wr := by have := hD.out; rw [hk64] at this; exact this
      rw [show (63 - (k : Int)) = -1 by omega]
      clear hD hk64
      generalize bitsOf high l 64 = x at *
      obtain ⟨hO1, hO2, hbw⟩ := H
      have e0 := hO1.cell 0 (by simp)
      have e1 := hO1.cell 1 (by simp)
      have g0 := hO2.cell 0 (by simp)
      have g1 := hO2.cell 1 (by simp)
      have f0 := hO2.frozen 0
      have f1 := hO2.frozen 1
      simp only [Nat.zero_add, List.getD_cons_zero, List.getD_cons_succ] at e0 e1 g0 g1
      have r1 := set_same
      have r2 := set_off
      have r3 := set_blk
      clear hO1 hO2 hr
      go_wp2
      exact bodyPost_ret (v := WinV high x) (by simp [results, Tryz.results88, go_sem, *]; try omega) rfl (Grew.intro rfl (by repeat first | with_reducible assumption | with_reducible exact Below.refl _ _ | with_reducible refine Below.setCell ?_ (by first | exact Nat.le_refl _ | exact Below.size (by assumption) | (simp; done) | (simp; omega) | omega) _ | with_reducible refine Below.alloc ?_ (by first | exact Nat.le_refl _ | exact Below.size (by assumption) | (simp; done) | (simp; omega) | omega) _ | with_reducible refine drewN_below ?_ _ | with_reducible refine Below.drew ?_))

set_option maxHeartbeats 1000000 in
theorem TakenBy_any (h : Int) (b : Nat) (id : Int) (w : World) (hb : b < 18446744073709551616) : Calls Tryz.prog 51 #[WinV h b, I id] w (Grew (T2 (WinV (tkH h b id) (tkB h b id)) (I (judgeE h b id))) w) := by
  have J := Lib.hid (fun W => Judged_any h b id W hb)
  by_cases hj : judgeE h b id = 0
  · obtain ⟨hm, j0, j1, hd, hno⟩ := judge_zero hj
    obtain ⟨b0, b1, _⟩ := mayW_bd hm
    obtain ⟨i0, hi, hz0, hz1, hz2⟩ := info_parts infoInt
    have e1 : tkH h b id = takeH h id := by simp [tkH, hj]
    have e2 : tkB h b id = takeB h b id := by simp [tkB, hj]
    have Mm := Lib.hid (fun W => members_own h b W hb b0 b1)
    have hlen := memb_len h b 64
    have hnd : (memb h b 64 ++ [id]).Nodup := by
      rw [List.nodup_append]
      refine ⟨memb_nodup h b 64, by simp, fun x hx y hy => ?_⟩
      simp at hy; subst hy
      exact fun he => hno (he ▸ hx)
    have WO' := Lib.hid (fun v W (hS : Sl W v 1 (memb h b 64 ++ [id]).length ((memb h b 64 ++ [id]).map I)) (h1 : 0 ≤ takeH h id) (h2 : takeH h id ≤ 1048575) => windowOf_any v (memb h b 64 ++ [id]) (takeH h id) W hS hnd (by simp; omega) h1 h2)
    rw [take_bits hb hd hno] at WO'
    rw [e1, e2, hj]
    rw [hj] at J
    generalize memb h b 64 = L at *
    generalize takeB h b id = y at *
    clear hno hm e1 e2 hj hnd
    have hth : takeH h id = if h < id then id else h := rfl
    by_cases hlt : h < id
    · rw [if_pos hlt] at hth
      rw [hth] at WO'
      rw [hth]
      clear hth
      go_enter Tryz.func51, Tryz.ntmps51
      go_wp2_with fail
      refine (J.out _).mono ?_
      rintro e wA ⟨rfl, k1⟩
      have c0 := (k1.cell (p := ⟨w.heap.size, 0, none⟩) (by simp; try omega)).trans (show _ = some (I h) by simp)
      have c1 := (k1.cell (p := ⟨w.heap.size, 1, none⟩) (by simp; try omega)).trans (show _ = some (.int .u64 b) by simp)
      have c2 := (k1.cell (p := ⟨w.heap.size + 1, 0, none⟩) (by simp; try omega)).trans (show _ = some (I 0) by simp)
      have c3 := (k1.cell (p := ⟨w.heap.size + 1, 1, none⟩) (by simp; try omega)).trans (show _ = some (.int .u64 0) by simp)
      have f2 := (k1.frozen (p := ⟨w.heap.size + 1, 0, none⟩) (by simp; try omega)).trans (show _ = false by simp)
      have f3 := (k1.frozen (p := ⟨w.heap.size + 1, 1, none⟩) (by simp; try omega)).trans (show _ = false by simp)
      have k := below_box (below_box k1)
      have hsz1 : w.heap.size + 2 ≤ wA.heap.size := by have := k1.size; simp at this; omega
      clear k1
      go_wp2_with fail
      refine (Mm.out _).mono ?_
      rintro e w2 ⟨v, rfl, hown, k2⟩
      have hsz2 := k2.size
      go_wp2_with (at_builtin; refine wpList_append_own _ rfl _ _ 113 rfl wA.heap.size 3 i0 (.int .i64 0) 1 8 Tryz.underlying113 hi hz0 hz1 hz2 rfl (by decide) _ _ _ rfl (hown.alloc _) ⟨w2.heap.size, 0, none⟩ 1 1 [I id] rfl rfl (news_lit _ [I id] _) (oneCells_lit rfl) (by unfold maxLen; omega) (by omega) (by simp; omega) ?_; intro v' w1 hown' hgrow _)
      have kk := grown_below (k2.alloc hsz2 _) (hown.alloc _) (Nat.le_refl _) hgrow
      have hS := Sl.of_owns (show w1.ownsRow wA.heap.size 3 1 v' (L ++ [id]).length ((L ++ [id]).map I) by rw [List.length_append, List.map_append]; exact hown') (by simp; omega)
      clear hown hown' hgrow k2 hsz2 c0 c1
      go_wp2_with fail
      refine (WO'.out _ _ hS (by omega) (by omega)).mono ?_
      rintro e w4 ⟨rfl, k4⟩
      have kq := kk.trans (k4.mono kk.size)
      have k := k.trans (kq.mono k.size)
      have d2 := (kq.cell (p := ⟨w.heap.size + 1, 0, none⟩) (by show w.heap.size + 1 < _; omega)).trans c2
      have d3 := (kq.cell (p := ⟨w.heap.size + 1, 1, none⟩) (by show w.heap.size + 1 < _; omega)).trans c3
      have g2 := (kq.frozen (p := ⟨w.heap.size + 1, 0, none⟩) (by show w.heap.size + 1 < _; omega)).trans f2
      have g3 := (kq.frozen (p := ⟨w.heap.size + 1, 1, none⟩) (by show w.heap.size + 1 < _; omega)).trans f3
      clear kk k4 kq c2 c3 f2 f3 hS
      have r1 := set_same
      have r2 := set_off
      have r3 := set_blk
      go_wp2
      exact bodyPost_ret (v := T2 (WinV id y) (I 0)) (by simp [results, Tryz.results51, go_sem, *]; try omega) rfl (Grew.intro rfl (by repeat first | with_reducible assumption | with_reducible exact Below.refl _ _ | with_reducible refine Below.setCell ?_ (by first | exact Nat.le_refl _ | exact Below.size (by assumption) | (simp; done) | (simp; omega) | omega) _ | with_reducible refine Below.alloc ?_ (by first | exact Nat.le_refl _ | exact Below.size (by assumption) | (simp; done) | (simp; omega) | omega) _ | with_reducible refine drewN_below ?_ _ | with_reducible refine Below.drew ?_))
    · rw [if_neg hlt] at hth
      rw [hth] at WO'
      rw [hth]
      clear hth
      go_enter Tryz.func51, Tryz.ntmps51
      go_wp2_with fail
      refine (J.out _).mono ?_
      rintro e wA ⟨rfl, k1⟩
      have c0 := (k1.cell (p := ⟨w.heap.size, 0, none⟩) (by simp; try omega)).trans (show _ = some (I h) by simp)
      have c1 := (k1.cell (p := ⟨w.heap.size, 1, none⟩) (by simp; try omega)).trans (show _ = some (.int .u64 b) by simp)
      have c2 := (k1.cell (p := ⟨w.heap.size + 1, 0, none⟩) (by simp; try omega)).trans (show _ = some (I 0) by simp)
      have c3 := (k1.cell (p := ⟨w.heap.size + 1, 1, none⟩) (by simp; try omega)).trans (show _ = some (.int .u64 0) by simp)
      have f2 := (k1.frozen (p := ⟨w.heap.size + 1, 0, none⟩) (by simp; try omega)).trans (show _ = false by simp)
      have f3 := (k1.frozen (p := ⟨w.heap.size + 1, 1, none⟩) (by simp; try omega)).trans (show _ = false by simp)
      have k := below_box (below_box k1)
      have hsz1 : w.heap.size + 2 ≤ wA.heap.size := by have := k1.size; simp at this; omega
      clear k1
      go_wp2_with fail
      refine (Mm.out _).mono ?_
      rintro e w2 ⟨v, rfl, hown, k2⟩
      have hsz2 := k2.size
      go_wp2_with (at_builtin; refine wpList_append_own _ rfl _ _ 113 rfl wA.heap.size 3 i0 (.int .i64 0) 1 8 Tryz.underlying113 hi hz0 hz1 hz2 rfl (by decide) _ _ _ rfl (hown.alloc _) ⟨w2.heap.size, 0, none⟩ 1 1 [I id] rfl rfl (news_lit _ [I id] _) (oneCells_lit rfl) (by unfold maxLen; omega) (by omega) (by simp; omega) ?_; intro v' w1 hown' hgrow _)
      have kk := grown_below (k2.alloc hsz2 _) (hown.alloc _) (Nat.le_refl _) hgrow
      have hS := Sl.of_owns (show w1.ownsRow wA.heap.size 3 1 v' (L ++ [id]).length ((L ++ [id]).map I) by rw [List.length_append, List.map_append]; exact hown') (by simp; omega)
      clear hown hown' hgrow k2 hsz2 c0 c1
      go_wp2_with fail
      refine (WO'.out _ _ hS (by omega) (by omega)).mono ?_
      rintro e w4 ⟨rfl, k4⟩
      have kq := kk.trans (k4.mono kk.size)
      have k := k.trans (kq.mono k.size)
      have d2 := (kq.cell (p := ⟨w.heap.size + 1, 0, none⟩) (by show w.heap.size + 1 < _; omega)).trans c2
      have d3 := (kq.cell (p := ⟨w.heap.size + 1, 1, none⟩) (by show w.heap.size + 1 < _; omega)).trans c3
      have g2 := (kq.frozen (p := ⟨w.heap.size + 1, 0, none⟩) (by show w.heap.size + 1 < _; omega)).trans f2
      have g3 := (kq.frozen (p := ⟨w.heap.size + 1, 1, none⟩) (by show w.heap.size + 1 < _; omega)).trans f3
      clear kk k4 kq c2 c3 f2 f3 hS
      have r1 := set_same
      have r2 := set_off
      have r3 := set_blk
      go_wp2
      exact bodyPost_ret (v := T2 (WinV h y) (I 0)) (by simp [results, Tryz.results51, go_sem, *]; try omega) rfl (Grew.intro rfl (by repeat first | with_reducible assumption | with_reducible exact Below.refl _ _ | with_reducible refine Below.setCell ?_ (by first | exact Nat.le_refl _ | exact Below.size (by assumption) | (simp; done) | (simp; omega) | omega) _ | with_reducible refine Below.alloc ?_ (by first | exact Nat.le_refl _ | exact Below.size (by assumption) | (simp; done) | (simp; omega) | omega) _ | with_reducible refine drewN_below ?_ _ | with_reducible refine Below.drew ?_))
  · have e1 : tkH h b id = 0 := by simp [tkH, hj]
    have e2 : tkB h b id = 0 := by simp [tkB, hj]
    rw [e1, e2]
    have hb2 : (judgeE h b id != 0) = true := by simp [hj]
    clear e1 e2 hj
    generalize judgeE h b id = E at *
    go_enter Tryz.func51, Tryz.ntmps51
    go_wp2_with fail
    refine (J.out _).mono ?_
    rintro e w1 ⟨rfl, k1⟩
    obtain ⟨hc, hf⟩ := bcell k1
    have k := below_box (below_box k1)
    clear k1
    go_wp2
    exact bodyPost_ret (v := T2 (WinV 0 0) (I E)) (by simp [results, Tryz.results51, go_sem, *]; try omega) rfl (Grew.intro rfl (by repeat first | with_reducible assumption | with_reducible exact Below.refl _ _ | with_reducible refine Below.setCell ?_ (by first | exact Nat.le_refl _ | exact Below.size (by assumption) | (simp; done) | (simp; omega) | omega) _ | with_reducible refine Below.alloc ?_ (by first | exact Nat.le_refl _ | exact Below.size (by assumption) | (simp; done) | (simp; omega) | omega) _ | with_reducible refine drewN_below ?_ _ | with_reducible refine Below.drew ?_))
end Go.Proofs.YtmciccnmpoijdaaGreatDoor
