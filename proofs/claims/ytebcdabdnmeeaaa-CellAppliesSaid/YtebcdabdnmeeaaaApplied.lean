/- ref.last and ref.Applied -/
import Derived.Test.YtebcdabdnmeeaaaApply
namespace Go.Proofs.Ytebcdabdnmeeaaa
open Go.RowKit
set_option maxRecDepth 20000

theorem eU {a b : Int} (h : a = b) : U32 a = U32 b := by rw [h]
set_option maxHeartbeats 1000000 in
theorem last_any (v : Value) (xs : List Int) (v2 : Value) (ws : List AWrite) (m at_ : Nat) (w : World) (h : Sl w v 1 xs.length (xs.map U32)) (h2 : Sl w v2 2 ws.length (ws.flatMap AWrite.cells)) (hm : m ≤ ws.length) (ha : at_ < xs.length) (_ : xs.length ≤ 2048) (hwl : ws.length ≤ 4096) :
    Calls Try.prog 62 #[v, v2, I m, I at_] w (Pure (U32 (lastI xs ws at_ m)) w) := by
  obtain ⟨a, cap, rfl, hn, hl, h0, hr⟩ := h
  obtain ⟨a2, cap2, rfl, hn2, hl2, h02, hr2⟩ := h2
  obtain ⟨b, off, rfl, hb, hcell⟩ := hr.resolve_left (by omega)
  clear hl h0 hl2 h02 hr
  go_enter Try.func62, Try.ntmps62
  go_wp2
  go_loop [9] (fun i => ∃ q : Nat, q ≤ m ∧ i = I ((q : Int) - 1) ∧ Hid (lastI xs ws at_ m = lastI xs ws at_ q)) (fun i => (intOf i + 1).toNat)
  case atStart => exact ⟨m, Nat.le_refl _, rfl, rfl⟩
  case round =>
    obtain ⟨q, hq, rfl, hL⟩ := hrel
    cases q with
    | zero =>
      have e0 := hcell at_ (by simpa using ha)
      rw [getD_map' _ _ ha] at e0
      have HL := Lib.hid (show lastI xs ws at_ m = xs.getD at_ 0 from hL.out)
      have hi0 : (0 : Int) ≤ (at_ : Int) := by omega
      have hi1 : (at_ : Int) < (xs.length : Int) := by omega
      clear hcell hL hr2
      generalize xs.getD at_ 0 = y at *
      go_wp2
      go_ret
      exact Pure.intro (eU HL.out.symm)
    | succ q =>
      rw [show (((q + 1 : Nat) : Int) - 1) = (q : Int) by omega]
      obtain ⟨b2, off2, rfl, hb2, hcell2⟩ := hr2.resolve_left (by omega)
      obtain ⟨e0, e1⟩ := elWrite hb2 hcell2 (Below.refl _ _) q (by omega)
      have HL := Lib.hid (show lastI xs ws at_ m = if (ws.getD q default).at_ = at_ then (ws.getD q default).word else lastI xs ws at_ q from hL.out)
      have hi0 : (0 : Int) ≤ (q : Int) := by omega
      have hi1 : (q : Int) < (ws.length : Int) := by omega
      clear hcell2 hL hr2 hcell
      generalize ws.getD q default = x at *
      by_cases hxa : x.at_ = at_
      · have H2 := Lib.hid (show lastI xs ws at_ m = x.word by rw [HL.out, if_pos hxa])
        have hxb : (x.at_ == (at_ : Int)) = true := by simp [hxa]
        clear HL hxa
        go_wp2
        go_ret
        exact Pure.intro (eU H2.out.symm)
      · have H2 := Lib.hid (show lastI xs ws at_ m = lastI xs ws at_ q by rw [HL.out, if_neg hxa])
        have hxb : (x.at_ == (at_ : Int)) = false := by simp [hxa]
        clear HL hxa
        go_wp2
        go_round
        case rel => first | exact ⟨q, by omega, eI (by omega), H2⟩ | (refine ⟨rfl, ?_⟩; (repeat apply Exists.intro); refine ⟨?_, rfl⟩; exact ⟨q, by omega, eI (by omega), H2⟩) | (refine ⟨trivial, ?_⟩; (repeat apply Exists.intro); refine ⟨?_, rfl⟩; exact ⟨q, by omega, eI (by omega), H2⟩) | ((repeat apply Exists.intro); refine ⟨?_, rfl⟩; exact ⟨q, by omega, eI (by omega), H2⟩)
        case measure => (simp [intOf]; try omega)

def fillL (xs : List Int) (ws : List AWrite) (m q : Nat) : List Int := (List.range xs.length).map fun a => if a < q then lastI xs ws a m else 0
theorem fillL_len (xs : List Int) (ws : List AWrite) (m q : Nat) : (fillL xs ws m q).length = xs.length := by simp [fillL]
theorem fillL_succ (xs : List Int) (ws : List AWrite) (m q : Nat) (_ : q < xs.length) : (fillL xs ws m q).set q (lastI xs ws q m) = fillL xs ws m (q + 1) := by
  apply List.ext_getElem
  · simp [fillL]
  · intro i h1 h2
    rw [List.getElem_set]
    simp only [fillL, List.getElem_map, List.getElem_range]
    by_cases hi : q = i
    · subst hi; rw [if_pos rfl, if_pos (by omega)]
    · rw [if_neg hi]
      by_cases hlt : i < q
      · rw [if_pos hlt, if_pos (by omega)]
      · rw [if_neg hlt, if_neg (by omega)]
theorem fillL_zero (xs : List Int) (ws : List AWrite) (m : Nat) : fillL xs ws m 0 = List.replicate xs.length 0 := by
  unfold fillL
  apply List.ext_getElem
  · simp
  · intro i h1 h2; simp
theorem fillL_all (xs : List Int) (ws : List AWrite) (m : Nat) (h : ∀ j, j < m → 0 ≤ (ws.getD j default).at_ ∧ (ws.getD j default).at_ < xs.length) : fillL xs ws m xs.length = putsL xs ws m := by
  rw [puts_map xs ws m h]
  unfold fillL
  apply List.map_congr_left
  intro a ha
  rw [if_pos (List.mem_range.1 ha)]
theorem infoU32' : (Try.prog.info? 68).map (fun i => (i.zero, i.size, i.bytes)) = some (some (.int .u32 0), 1, 4) := by kernel_rfl
def FRel (w : World) (g : Nat) (L : List Int) (wr : World) : Prop := Own wr g (L.map U32) ∧ Below w.heap.size w wr

set_option maxHeartbeats 2000000 in
theorem Applied_any (v : Value) (xs : List Int) (v2 : Value) (ws : List AWrite) (k : Int) (w : World) (h : Sl w v 1 xs.length (xs.map U32)) (h2 : Sl w v2 2 ws.length (ws.flatMap AWrite.cells)) :
    Calls Try.prog 39 #[v, v2, I k] w (GrewSl2 1 (applyL xs ws k).length ((applyL xs ws k).map U32) (applyE xs ws k) w) := by
  obtain ⟨i0, hi, hz0, hz1, hz2⟩ := info_parts infoU32'
  have hS := h
  have hS2 := h2
  obtain ⟨a, cap, rfl, hn, hl, h0, hr⟩ := h
  obtain ⟨a2, cap2, rfl, hn2, hl2, h02, hr2⟩ := h2
  clear hl h0 hl2 h02 hr
  cases hf : inB xs.length 1 2048
  · have e1 : applyE xs ws k = 1 := by
      have : applySz xs.length ws.length = false := by
        rw [← Bool.not_eq_true] at hf ⊢; rw [inB_true] at hf; simp only [applySz, decide_eq_true_eq]; omega
      simp [applyE, this]
    have e2 : applyL xs ws k = [] := by simp [applyL, e1]
    rw [e1, e2]
    clear e1 e2
    go_enter Try.func39, Try.ntmps39
    go_wp2_with (go_at_call 47; refine (In_any _ _ _ _).mono ?_; rintro e w' ⟨rfl, rfl⟩)
    go_ret2
    exact ⟨_, rfl, Sl.nil _ _, Below.refl _ _⟩
  · obtain ⟨f0, f1⟩ := inB_true.1 hf
    by_cases h4 : 4096 < ws.length
    · have e1 : applyE xs ws k = 1 := by
        have : applySz xs.length ws.length = false := by
          rw [← Bool.not_eq_true]; simp only [applySz, decide_eq_true_eq]; omega
        simp [applyE, this]
      have e2 : applyL xs ws k = [] := by simp [applyL, e1]
      rw [e1, e2]
      have h4' : (4096 : Int) < (ws.length : Int) := by omega
      clear e1 e2 h4
      go_enter Try.func39, Try.ntmps39
      go_wp2_with (go_at_call 47; refine (In_any _ _ _ _).mono ?_; rintro e w' ⟨rfl, rfl⟩)
      go_ret2
      exact ⟨_, rfl, Sl.nil _ _, Below.refl _ _⟩
    · have hsz : applySz xs.length ws.length = true := by simp only [applySz, decide_eq_true_eq]; omega
      have h4' : ¬ (4096 : Int) < (ws.length : Int) := by omega
      have HE := Lib.hid (show applyE xs ws k = if applyOk xs ws k then 0 else 2 by simp [applyE, hsz])
      have HL := Lib.hid (show applyL xs ws k = if applyE xs ws k = 0 then putsL xs ws k.toNat else [] from rfl)
      generalize applyL xs ws k = RL at *
      generalize applyE xs ws k = RE at *
      go_enter Try.func39, Try.ntmps39
      go_wp2_with (go_at_call 47; refine (In_any _ _ _ _).mono ?_; rintro e w' ⟨rfl, rfl⟩)
      go_loop [8] (fun i => ∃ q : Nat, q ≤ ws.length ∧ i = I q ∧ Hid (∀ j, j < q → inB (ws.getD j default).at_ 0 ((xs.length : Int) - 1) = true)) (fun i => ws.length - (intOf i).toNat)
      case atStart => exact ⟨0, Nat.zero_le _, rfl, fun j hj => by omega⟩
      case round =>
        obtain ⟨q, hq, rfl, hall⟩ := hrel
        by_cases hlt : q < ws.length
        · obtain ⟨b2, off2, rfl, hb2, hcell2⟩ := hr2.resolve_left (by omega)
          obtain ⟨e0, e1⟩ := elWrite hb2 hcell2 (Below.refl _ _) q hlt
          have hnx := Lib.hid (show inB (ws.getD q default).at_ 0 ((xs.length : Int) - 1) = true → ∀ j, j < q + 1 → inB (ws.getD j default).at_ 0 ((xs.length : Int) - 1) = true from fun hh j hj => by
            by_cases hjq : j = q
            · rw [hjq]; exact hh
            · exact hall.out j (by omega))
          have hbad := Lib.hid (show inB (ws.getD q default).at_ 0 ((xs.length : Int) - 1) = false → atsOk xs.length ws = false from fun hh => atsOk_no hlt (fun hx => by
            have : inB (ws.getD q default).at_ 0 ((xs.length : Int) - 1) = true := inB_true.2 (by omega)
            rw [this] at hh; cases hh))
          have hi0 : (0 : Int) ≤ (q : Int) := by omega
          have hi1 : (q : Int) < (ws.length : Int) := by omega
          clear hcell2 hr2
          generalize ws.getD q default = x at *
          cases hx : inB x.at_ 0 ((xs.length : Int) - 1)
          · have HB := Lib.hid (hbad.out hx)
            clear hnx hbad
            go_wp2_with (go_at_call 47; refine (In_any _ _ _ _).mono ?_; rintro e w' ⟨rfl, rfl⟩)
            go_ret2
            have e1 : RE = 2 := by rw [HE.out]; simp [applyOk, HB.out]
            have e2 : RL = [] := by rw [HL.out, e1]; rfl
            rw [e1, e2]
            exact ⟨_, rfl, Sl.nil _ _, Below.refl _ _⟩
          · have HB := Lib.hid (hnx.out hx)
            clear hnx hbad
            go_wp2_with (go_at_call 47; refine (In_any _ _ _ _).mono ?_; rintro e w' ⟨rfl, rfl⟩)
            go_round
            case rel => first | exact ⟨q + 1, by omega, by go_num, HB⟩ | (refine ⟨rfl, ?_⟩; (repeat apply Exists.intro); refine ⟨?_, rfl⟩; exact ⟨q + 1, by omega, by go_num, HB⟩) | (refine ⟨trivial, ?_⟩; (repeat apply Exists.intro); refine ⟨?_, rfl⟩; exact ⟨q + 1, by omega, by go_num, HB⟩) | ((repeat apply Exists.intro); refine ⟨?_, rfl⟩; exact ⟨q + 1, by omega, by go_num, HB⟩)
            case measure => (simp [intOf]; try omega)
        · have hge : (ws.length : Int) ≤ (q : Int) := by omega
          have ha := atsOk_all (n := xs.length) (ws := ws) (fun j hj => hall.out j (by omega))
          have HA := Lib.hid ha
          clear hall hr2 ha
          cases hk : inB k 0 ws.length
          · go_wp2_with (go_at_call 47; refine (In_any _ _ _ _).mono ?_; rintro e w' ⟨rfl, rfl⟩)
            go_ret2
            have e1 : RE = 2 := by rw [HE.out]; simp [applyOk, hk]
            have e2 : RL = [] := by rw [HL.out, e1]; rfl
            rw [e1, e2]
            exact ⟨_, rfl, Sl.nil _ _, Below.refl _ _⟩
          · obtain ⟨q0, q1⟩ := inB_true.1 hk
            obtain ⟨m, rfl⟩ := Int.eq_ofNat_of_zero_le q0
            have e1 : RE = 0 := by rw [HE.out]; simp [applyOk, hk, HA.out]
            have e2 : RL = fillL xs ws m xs.length := by
              rw [HL.out, e1, fillL_all _ _ _ (fun j hj => atsOk_at HA.out (by omega))]; rfl
            have E1 := Lib.hid e1
            have E2 := Lib.hid e2
            have La := Lib.hid (fun at_ W hW hW2 (ha : at_ < xs.length) => last_any (.slice a xs.length cap) xs (.slice a2 ws.length cap2) ws m at_ W hW hW2 (by omega) ha (by omega) (by omega))
            clear e1 e2 HE HL
            go_wp2_with (first
              | (go_at_call 47; refine (In_any _ _ _ _).mono ?_; rintro e w' ⟨rfl, rfl⟩)
              | (refine wpList_make_full _ rfl (.tmp 42) (.tmp 42) 43 rfl w.heap.size 68 i0 (.int .u32 0) 1 Try.underlying43 hi hz0 hz1 .i64 .i64 _ _ xs.length rfl rfl rfl rfl (by rw [hz2]; omega) (by unfold maxLen; omega) (Nat.le_refl _) ?_; intro w2 hown hgrow; have hbel := Below.grown (B := w.heap.size) (Below.refl _ w) hgrow (Nat.le_refl _) (fun k hk => by cases hk); have hO := Own.of_owns (made_int hown); clear hown hgrow))
            have hO' : Hid (FRel w w.heap.size (fillL xs ws m 0) w2) := by
              refine ⟨?_, hbel⟩
              rw [fillL_zero, List.map_replicate]; exact hO
            clear hO hbel hk
            go_loopw [10] (fun i wr => ∃ q : Nat, q ≤ xs.length ∧ i = I q ∧ Hid (FRel w w.heap.size (fillL xs ws m q) wr)) (fun i _ => xs.length - (intOf i).toNat)
            case atStart => exact ⟨0, Nat.zero_le _, rfl, hO'⟩
            case round =>
              obtain ⟨q, hq, rfl, hD⟩ := hrel
              by_cases hlt2 : q < xs.length
              · obtain ⟨hOw, hbw⟩ := hD.out
                have hS' := hS.below hbw
                have hS2' := hS2.below hbw
                have C := Lib.hid (La.out q wr hS' hS2' hlt2)
                have hnext : Hid (FRel w w.heap.size (fillL xs ws m (q + 1)) (wr.setCell ⟨w.heap.size, q, none⟩ (U32 (lastI xs ws q m)))) := by
                  refine ⟨?_, hbw.setCell (Nat.le_refl _) _⟩
                  rw [← fillL_succ xs ws m q hlt2, List.map_set]
                  exact hOw.set _ _
                have e2 := hOw.cell q (by rw [List.length_map, fillL_len]; omega)
                rw [getD_map' _ _ (by rw [fillL_len]; omega)] at e2
                rw [Nat.zero_add] at e2
                have f2 := hOw.frozen q
                have hi0' : (0 : Int) ≤ (q : Int) := by omega
                have hi1' : (q : Int) < (xs.length : Int) := by omega
                generalize lastI xs ws q m = z at *
                generalize (fillL xs ws m q).getD q 0 = y at *
                clear hOw hD hS' hS2'
                go_wp2_with (go_at_call 62; refine (C.out).mono ?_; rintro e w' ⟨rfl, rfl⟩)
                exact ⟨⟨q + 1, by omega, by go_num, hnext⟩, by simp [intOf]; omega⟩
              · have hqn : q = xs.length := by omega
                have hge2 : (xs.length : Int) ≤ (q : Int) := by omega
                have hS3 := hD.out.1.sl (n := xs.length) (cap := xs.length) (sz := 1) (by omega) (Nat.le_refl _) (by rw [List.length_map, fillL_len]; omega)
                have hb' := hD.out.2
                rw [hqn] at hS3
                clear hqn hD
                go_wp2
                go_ret2
                rw [E1.out, E2.out, fillL_len]
                exact ⟨_, rfl, hS3, hb'⟩
end Go.Proofs.Ytebcdabdnmeeaaa
