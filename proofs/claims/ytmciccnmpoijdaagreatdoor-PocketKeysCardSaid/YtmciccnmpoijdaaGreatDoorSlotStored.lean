/- slot.Store's reference -/
import Derived.Test.YtmciccnmpoijdaaGreatDoorSlotStore
namespace Go.Proofs.YtmciccnmpoijdaaGreatDoor
open Go.RowKit
set_option maxRecDepth 20000

theorem slot_mark0 (a b : Int) (h : slotOf a b = 0) : 1 ≤ a ∧ a ≤ 3 ∧ nextI (markI a) = if a = 3 then 1 else a + 1 := by
  unfold slotOf at h
  unfold nextI markI
  (repeat' split at h) <;> first | (refine ⟨by omega, by omega, ?_⟩; (repeat' split) <;> omega) | omega
theorem slot_mark1 (a b : Int) (h : slotOf a b = 1) : 1 ≤ b ∧ b ≤ 3 ∧ nextI (markI b) = if b = 3 then 1 else b + 1 := by
  unfold slotOf at h
  have h1 : 1 ≤ b ∧ b ≤ 3 := by
    (repeat' split at h) <;> first | omega
  refine ⟨h1.1, h1.2, ?_⟩
  unfold nextI markI
  (repeat' split) <;> omega

set_option maxHeartbeats 1000000 in
theorem SlotStored_any (v : Value) (xs : List Int) (v2 : Value) (rec : List Int) (w : World) (h : Sl w v 1 xs.length (xs.map U32)) (_hw : ∀ x ∈ xs, W32 x) (hR : Sl w v2 1 rec.length (rec.map U32)) :
    Calls Tryz.prog 54 #[v, v2] w (GrewSl2 2 (storeL xs rec).length ((storeL xs rec).flatMap AWrite.cells) (storeE xs rec) w) := by
  obtain ⟨i0, hi, hz0, hz1, hz2⟩ := info_parts infoWrite'
  by_cases hf : slotFits xs.length rec.length = true
  · have hf' := hf
    simp only [slotFits, Bool.and_eq_true, decide_eq_true_eq, inB_true] at hf'
    obtain ⟨⟨n0, n1⟩, hlen⟩ := hf'
    have hln : xs.length = 2 * (rec.length + 1) := by omega
    have C := Lib.hid (fun W (hW : Sl W v 1 xs.length (xs.map U32)) => counts_any v xs rec.length W hW (by omega) (by omega))
    have hS := h
    obtain ⟨a, cap, rfl, hn, hl, h0, h⟩ := h
    obtain ⟨b, off, rfl, hb, hc⟩ := h.resolve_left (by omega)
    obtain ⟨a2, cap2, rfl, hn2, hl2, h02, hr2⟩ := hR
    obtain ⟨b2, o2, rfl, hb2, hc2⟩ := hr2.resolve_left (by omega)
    have hsl : loadS xs rec.length = slotOf (xs.getD 0 0) (xs.getD (rec.length + 1) 0) := rfl
    clear hlen h h0 h02 hr2
    rcases slotOf_cases (xs.getD 0 0) (xs.getD (rec.length + 1) 0) with h2 | h2 | h2
    · have hE : storeE xs rec = 0 := by unfold storeE loadE; rw [if_pos hf, hsl, h2, if_neg (by decide)]
      have hL : storeL xs rec = putL ((rec.length : Int) + 1) rec rec.length ++ [⟨(rec.length : Int) + 1, nextI (markI (xs.getD 0 0))⟩] := by
        unfold storeL storeM; rw [if_pos hE, hsl, h2]; simp [storeAt]
      have hmk := slot_mark0 _ _ h2
      rw [hE, hL]
      rw [h2] at C
      have hLn : (putL ((rec.length : Int) + 1) rec rec.length ++ [(⟨(rec.length : Int) + 1, nextI (markI (xs.getD 0 0))⟩ : AWrite)]).length = rec.length + 1 + 1 := by simp [putL]
      rw [hLn]
      have em := hc (0) (by simp; omega)
      rw [getD_map' _ _ (by omega)] at em
      rw [Nat.add_zero] at em
      have hin : (0 : Int) < (xs.length : Int) := by omega
      clear hc hsl h2 hl hE hL hLn hln
      generalize xs.getD 0 0 = mx at *
      generalize nextI (markI mx) = nm at *
      obtain ⟨m0, m3, hmk⟩ := hmk
      by_cases hm4 : mx = 3
      · subst hm4
        rw [if_pos rfl] at hmk
        subst hmk
        go_enter Tryz.func54, Tryz.ntmps54
        go_wp2_with (first | (go_at_call 75; refine (SlotFits_any _ _ _).mono ?_; rintro e w' ⟨rfl, rfl⟩) | (go_at_call 76; refine (C.out _ hS).mono ?_; rintro e w' ⟨rfl, rfl⟩))
        clear hf
        go_loopw [10, 11] (fun v i wr => ∃ k : Nat, k ≤ rec.length ∧ i = I k ∧ Hid (SRel w ((rec.length : Int) + 1) rec k v wr)) (fun _ i _ => rec.length - (intOf i).toNat)
        case atStart =>
          refine ⟨0, Nat.zero_le _, rfl, ?_, boxed_below _ _⟩
          exact owns_lit w [I ((rec.length : Int) + 1), U32 0] _ 2 1 rfl (by unfold maxLen; omega)
        case round =>
          obtain ⟨k, hk, rfl, hD⟩ := hrel
          obtain ⟨hown, hbw⟩ := hD.out
          have hsz := hbw.size
          by_cases hlt2 : k < rec.length
          · have e1 := (hbw.cell (p := ⟨b2, o2 + k, none⟩) hb2).trans (hc2 k (by simpa using hlt2))
            rw [getD_map' _ _ hlt2] at e1
            have hps := Lib.hid (putL_succ ((rec.length : Int) + 1) rec k)
            generalize rec.getD k 0 = x at *
            have hi0 : (0 : Int) ≤ (k : Int) := by omega
            have hi1 : (k : Int) < (rec.length : Int) := by omega
            go_wp2_with (at_builtin; refine wpList_append_own _ rfl _ _ 28 rfl w.heap.size 53 i0 (.agg #[.int .i64 0, .int .u32 0]) 2 16 Tryz.underlying28 hi hz0 hz1 hz2 rfl (by decide) _ _ _ rfl (hown.alloc _) ⟨wr.heap.size, 0, none⟩ 1 1 [I ((rec.length : Int) + 1 + 1 + k), U32 x] rfl rfl (news_lit _ [I ((rec.length : Int) + 1 + 1 + k), U32 x] _) (oneCells_lit rfl) (by unfold maxLen; omega) (by omega) (by simp; omega) ?_; intro v' w1 hown' hgrow _)
            have hbel := grown_below (hbw.alloc hsz (.cells #[I ((rec.length : Int) + 1 + 1 + k), U32 x] 53)) (hown.alloc _) (Nat.le_refl _) hgrow
            have hD' : Hid (SRel w ((rec.length : Int) + 1) rec (k + 1) v' w1) := by
              refine ⟨?_, hbel⟩
              rw [hps.out, List.flatMap_append]
              exact hown'
            clear hown hown' hgrow hbel hbw hD
            go_wp2
            exact ⟨⟨k + 1, by omega, by go_num, hD'⟩, by simp [intOf]; omega⟩
          · have hkm : k = rec.length := by omega
            have Hkm := Lib.hid hkm
            have hge : (rec.length : Int) ≤ (k : Int) := by omega
            clear hkm
            go_wp2_with (at_builtin; refine wpList_append_own _ rfl _ _ 28 rfl w.heap.size 53 i0 (.agg #[.int .i64 0, .int .u32 0]) 2 16 Tryz.underlying28 hi hz0 hz1 hz2 rfl (by decide) _ _ _ rfl (hown.alloc _) ⟨wr.heap.size, 0, none⟩ 1 1 [I ((rec.length : Int) + 1), U32 (1)] rfl rfl (news_lit _ [I ((rec.length : Int) + 1), U32 (1)] _) (oneCells_lit rfl) (by unfold maxLen; omega) (by omega) (by simp; omega) ?_; intro v' w1 hown' hgrow _)
            have hbel := grown_below (hbw.alloc hsz (.cells #[I ((rec.length : Int) + 1), U32 (1)] 53)) (hown.alloc _) (Nat.le_refl _) hgrow
            have hS3 := Sl.of_owns' (n := rec.length + 1 + 1) hown' (by rw [Hkm.out]) (by omega)
            have hcs : (putL ((rec.length : Int) + 1) rec k).flatMap AWrite.cells ++ [I ((rec.length : Int) + 1), U32 (1)] = (putL ((rec.length : Int) + 1) rec rec.length ++ [(⟨(rec.length : Int) + 1, 1⟩ : AWrite)]).flatMap AWrite.cells := by rw [Hkm.out, List.flatMap_append]; rfl
            rw [hcs] at hS3
            clear hcs hown' hgrow hown hD
            go_wp2
            go_ret2
            exact ⟨_, rfl, hS3, hbel⟩
      · rw [if_neg hm4] at hmk
        subst hmk
        have hm4' : (mx + 1 == 4) = false := by simp; omega
        clear hm4
        go_enter Tryz.func54, Tryz.ntmps54
        go_wp2_with (first | (go_at_call 75; refine (SlotFits_any _ _ _).mono ?_; rintro e w' ⟨rfl, rfl⟩) | (go_at_call 76; refine (C.out _ hS).mono ?_; rintro e w' ⟨rfl, rfl⟩))
        clear hf
        go_loopw [10, 11] (fun v i wr => ∃ k : Nat, k ≤ rec.length ∧ i = I k ∧ Hid (SRel w ((rec.length : Int) + 1) rec k v wr)) (fun _ i _ => rec.length - (intOf i).toNat)
        case atStart =>
          refine ⟨0, Nat.zero_le _, rfl, ?_, boxed_below _ _⟩
          exact owns_lit w [I ((rec.length : Int) + 1), U32 0] _ 2 1 rfl (by unfold maxLen; omega)
        case round =>
          obtain ⟨k, hk, rfl, hD⟩ := hrel
          obtain ⟨hown, hbw⟩ := hD.out
          have hsz := hbw.size
          by_cases hlt2 : k < rec.length
          · have e1 := (hbw.cell (p := ⟨b2, o2 + k, none⟩) hb2).trans (hc2 k (by simpa using hlt2))
            rw [getD_map' _ _ hlt2] at e1
            have hps := Lib.hid (putL_succ ((rec.length : Int) + 1) rec k)
            generalize rec.getD k 0 = x at *
            have hi0 : (0 : Int) ≤ (k : Int) := by omega
            have hi1 : (k : Int) < (rec.length : Int) := by omega
            go_wp2_with (at_builtin; refine wpList_append_own _ rfl _ _ 28 rfl w.heap.size 53 i0 (.agg #[.int .i64 0, .int .u32 0]) 2 16 Tryz.underlying28 hi hz0 hz1 hz2 rfl (by decide) _ _ _ rfl (hown.alloc _) ⟨wr.heap.size, 0, none⟩ 1 1 [I ((rec.length : Int) + 1 + 1 + k), U32 x] rfl rfl (news_lit _ [I ((rec.length : Int) + 1 + 1 + k), U32 x] _) (oneCells_lit rfl) (by unfold maxLen; omega) (by omega) (by simp; omega) ?_; intro v' w1 hown' hgrow _)
            have hbel := grown_below (hbw.alloc hsz (.cells #[I ((rec.length : Int) + 1 + 1 + k), U32 x] 53)) (hown.alloc _) (Nat.le_refl _) hgrow
            have hD' : Hid (SRel w ((rec.length : Int) + 1) rec (k + 1) v' w1) := by
              refine ⟨?_, hbel⟩
              rw [hps.out, List.flatMap_append]
              exact hown'
            clear hown hown' hgrow hbel hbw hD
            go_wp2
            exact ⟨⟨k + 1, by omega, by go_num, hD'⟩, by simp [intOf]; omega⟩
          · have hkm : k = rec.length := by omega
            have Hkm := Lib.hid hkm
            have hge : (rec.length : Int) ≤ (k : Int) := by omega
            clear hkm
            go_wp2_with (at_builtin; refine wpList_append_own _ rfl _ _ 28 rfl w.heap.size 53 i0 (.agg #[.int .i64 0, .int .u32 0]) 2 16 Tryz.underlying28 hi hz0 hz1 hz2 rfl (by decide) _ _ _ rfl (hown.alloc _) ⟨wr.heap.size, 0, none⟩ 1 1 [I ((rec.length : Int) + 1), U32 (mx + 1)] rfl rfl (news_lit _ [I ((rec.length : Int) + 1), U32 (mx + 1)] _) (oneCells_lit rfl) (by unfold maxLen; omega) (by omega) (by simp; omega) ?_; intro v' w1 hown' hgrow _)
            have hbel := grown_below (hbw.alloc hsz (.cells #[I ((rec.length : Int) + 1), U32 (mx + 1)] 53)) (hown.alloc _) (Nat.le_refl _) hgrow
            have hS3 := Sl.of_owns' (n := rec.length + 1 + 1) hown' (by rw [Hkm.out]) (by omega)
            have hcs : (putL ((rec.length : Int) + 1) rec k).flatMap AWrite.cells ++ [I ((rec.length : Int) + 1), U32 (mx + 1)] = (putL ((rec.length : Int) + 1) rec rec.length ++ [(⟨(rec.length : Int) + 1, mx + 1⟩ : AWrite)]).flatMap AWrite.cells := by rw [Hkm.out, List.flatMap_append]; rfl
            rw [hcs] at hS3
            clear hcs hown' hgrow hown hD
            go_wp2
            go_ret2
            exact ⟨_, rfl, hS3, hbel⟩
    · have hE : storeE xs rec = 0 := by unfold storeE loadE; rw [if_pos hf, hsl, h2, if_neg (by decide)]
      have hL : storeL xs rec = putL (0) rec rec.length ++ [⟨0, nextI (markI (xs.getD (rec.length + 1) 0))⟩] := by
        unfold storeL storeM; rw [if_pos hE, hsl, h2]; simp [storeAt]
      have hmk := slot_mark1 _ _ h2
      rw [hE, hL]
      rw [h2] at C
      have hLn : (putL (0) rec rec.length ++ [(⟨0, nextI (markI (xs.getD (rec.length + 1) 0))⟩ : AWrite)]).length = rec.length + 1 + 1 := by simp [putL]
      rw [hLn]
      have em := hc (rec.length + 1) (by simp; omega)
      rw [getD_map' _ _ (by omega)] at em
      skip
      have hin : (rec.length : Int) + 1 < (xs.length : Int) := by omega
      clear hc hsl h2 hl hE hL hLn hln
      generalize xs.getD (rec.length + 1) 0 = mx at *
      generalize nextI (markI mx) = nm at *
      obtain ⟨m0, m3, hmk⟩ := hmk
      by_cases hm4 : mx = 3
      · subst hm4
        rw [if_pos rfl] at hmk
        subst hmk
        go_enter Tryz.func54, Tryz.ntmps54
        go_wp2_with (first | (go_at_call 75; refine (SlotFits_any _ _ _).mono ?_; rintro e w' ⟨rfl, rfl⟩) | (go_at_call 76; refine (C.out _ hS).mono ?_; rintro e w' ⟨rfl, rfl⟩))
        clear hf
        go_loopw [10, 11] (fun v i wr => ∃ k : Nat, k ≤ rec.length ∧ i = I k ∧ Hid (SRel w (0) rec k v wr)) (fun _ i _ => rec.length - (intOf i).toNat)
        case atStart =>
          refine ⟨0, Nat.zero_le _, rfl, ?_, boxed_below _ _⟩
          exact owns_lit w [I (0), U32 0] _ 2 1 rfl (by unfold maxLen; omega)
        case round =>
          obtain ⟨k, hk, rfl, hD⟩ := hrel
          obtain ⟨hown, hbw⟩ := hD.out
          have hsz := hbw.size
          by_cases hlt2 : k < rec.length
          · have e1 := (hbw.cell (p := ⟨b2, o2 + k, none⟩) hb2).trans (hc2 k (by simpa using hlt2))
            rw [getD_map' _ _ hlt2] at e1
            have hps := Lib.hid (putL_succ (0) rec k)
            generalize rec.getD k 0 = x at *
            have hi0 : (0 : Int) ≤ (k : Int) := by omega
            have hi1 : (k : Int) < (rec.length : Int) := by omega
            go_wp2_with (at_builtin; refine wpList_append_own _ rfl _ _ 28 rfl w.heap.size 53 i0 (.agg #[.int .i64 0, .int .u32 0]) 2 16 Tryz.underlying28 hi hz0 hz1 hz2 rfl (by decide) _ _ _ rfl (hown.alloc _) ⟨wr.heap.size, 0, none⟩ 1 1 [I (1 + (k : Int)), U32 x] rfl rfl (news_lit _ [I (1 + (k : Int)), U32 x] _) (oneCells_lit rfl) (by unfold maxLen; omega) (by omega) (by simp; omega) ?_; intro v' w1 hown' hgrow _)
            have hbel := grown_below (hbw.alloc hsz (.cells #[I (1 + (k : Int)), U32 x] 53)) (hown.alloc _) (Nat.le_refl _) hgrow
            have hD' : Hid (SRel w (0) rec (k + 1) v' w1) := by
              refine ⟨?_, hbel⟩
              rw [hps.out, List.flatMap_append, show ((0 : Int) + 1 + (k : Int)) = 1 + (k : Int) by omega]
              exact hown'
            clear hown hown' hgrow hbel hbw hD
            go_wp2
            exact ⟨⟨k + 1, by omega, by go_num, hD'⟩, by simp [intOf]; omega⟩
          · have hkm : k = rec.length := by omega
            have Hkm := Lib.hid hkm
            have hge : (rec.length : Int) ≤ (k : Int) := by omega
            clear hkm
            go_wp2_with (at_builtin; refine wpList_append_own _ rfl _ _ 28 rfl w.heap.size 53 i0 (.agg #[.int .i64 0, .int .u32 0]) 2 16 Tryz.underlying28 hi hz0 hz1 hz2 rfl (by decide) _ _ _ rfl (hown.alloc _) ⟨wr.heap.size, 0, none⟩ 1 1 [I (0), U32 (1)] rfl rfl (news_lit _ [I (0), U32 (1)] _) (oneCells_lit rfl) (by unfold maxLen; omega) (by omega) (by simp; omega) ?_; intro v' w1 hown' hgrow _)
            have hbel := grown_below (hbw.alloc hsz (.cells #[I (0), U32 (1)] 53)) (hown.alloc _) (Nat.le_refl _) hgrow
            have hS3 := Sl.of_owns' (n := rec.length + 1 + 1) hown' (by rw [Hkm.out]) (by omega)
            have hcs : (putL (0) rec k).flatMap AWrite.cells ++ [I (0), U32 (1)] = (putL (0) rec rec.length ++ [(⟨0, 1⟩ : AWrite)]).flatMap AWrite.cells := by rw [Hkm.out, List.flatMap_append]; rfl
            rw [hcs] at hS3
            clear hcs hown' hgrow hown hD
            go_wp2
            go_ret2
            exact ⟨_, rfl, hS3, hbel⟩
      · rw [if_neg hm4] at hmk
        subst hmk
        have hm4' : (mx + 1 == 4) = false := by simp; omega
        clear hm4
        go_enter Tryz.func54, Tryz.ntmps54
        go_wp2_with (first | (go_at_call 75; refine (SlotFits_any _ _ _).mono ?_; rintro e w' ⟨rfl, rfl⟩) | (go_at_call 76; refine (C.out _ hS).mono ?_; rintro e w' ⟨rfl, rfl⟩))
        clear hf
        go_loopw [10, 11] (fun v i wr => ∃ k : Nat, k ≤ rec.length ∧ i = I k ∧ Hid (SRel w (0) rec k v wr)) (fun _ i _ => rec.length - (intOf i).toNat)
        case atStart =>
          refine ⟨0, Nat.zero_le _, rfl, ?_, boxed_below _ _⟩
          exact owns_lit w [I (0), U32 0] _ 2 1 rfl (by unfold maxLen; omega)
        case round =>
          obtain ⟨k, hk, rfl, hD⟩ := hrel
          obtain ⟨hown, hbw⟩ := hD.out
          have hsz := hbw.size
          by_cases hlt2 : k < rec.length
          · have e1 := (hbw.cell (p := ⟨b2, o2 + k, none⟩) hb2).trans (hc2 k (by simpa using hlt2))
            rw [getD_map' _ _ hlt2] at e1
            have hps := Lib.hid (putL_succ (0) rec k)
            generalize rec.getD k 0 = x at *
            have hi0 : (0 : Int) ≤ (k : Int) := by omega
            have hi1 : (k : Int) < (rec.length : Int) := by omega
            go_wp2_with (at_builtin; refine wpList_append_own _ rfl _ _ 28 rfl w.heap.size 53 i0 (.agg #[.int .i64 0, .int .u32 0]) 2 16 Tryz.underlying28 hi hz0 hz1 hz2 rfl (by decide) _ _ _ rfl (hown.alloc _) ⟨wr.heap.size, 0, none⟩ 1 1 [I (1 + (k : Int)), U32 x] rfl rfl (news_lit _ [I (1 + (k : Int)), U32 x] _) (oneCells_lit rfl) (by unfold maxLen; omega) (by omega) (by simp; omega) ?_; intro v' w1 hown' hgrow _)
            have hbel := grown_below (hbw.alloc hsz (.cells #[I (1 + (k : Int)), U32 x] 53)) (hown.alloc _) (Nat.le_refl _) hgrow
            have hD' : Hid (SRel w (0) rec (k + 1) v' w1) := by
              refine ⟨?_, hbel⟩
              rw [hps.out, List.flatMap_append, show ((0 : Int) + 1 + (k : Int)) = 1 + (k : Int) by omega]
              exact hown'
            clear hown hown' hgrow hbel hbw hD
            go_wp2
            exact ⟨⟨k + 1, by omega, by go_num, hD'⟩, by simp [intOf]; omega⟩
          · have hkm : k = rec.length := by omega
            have Hkm := Lib.hid hkm
            have hge : (rec.length : Int) ≤ (k : Int) := by omega
            clear hkm
            go_wp2_with (at_builtin; refine wpList_append_own _ rfl _ _ 28 rfl w.heap.size 53 i0 (.agg #[.int .i64 0, .int .u32 0]) 2 16 Tryz.underlying28 hi hz0 hz1 hz2 rfl (by decide) _ _ _ rfl (hown.alloc _) ⟨wr.heap.size, 0, none⟩ 1 1 [I (0), U32 (mx + 1)] rfl rfl (news_lit _ [I (0), U32 (mx + 1)] _) (oneCells_lit rfl) (by unfold maxLen; omega) (by omega) (by simp; omega) ?_; intro v' w1 hown' hgrow _)
            have hbel := grown_below (hbw.alloc hsz (.cells #[I (0), U32 (mx + 1)] 53)) (hown.alloc _) (Nat.le_refl _) hgrow
            have hS3 := Sl.of_owns' (n := rec.length + 1 + 1) hown' (by rw [Hkm.out]) (by omega)
            have hcs : (putL (0) rec k).flatMap AWrite.cells ++ [I (0), U32 (mx + 1)] = (putL (0) rec rec.length ++ [(⟨0, mx + 1⟩ : AWrite)]).flatMap AWrite.cells := by rw [Hkm.out, List.flatMap_append]; rfl
            rw [hcs] at hS3
            clear hcs hown' hgrow hown hD
            go_wp2
            go_ret2
            exact ⟨_, rfl, hS3, hbel⟩
    · have hE : storeE xs rec = 17 := by unfold storeE loadE; rw [if_pos hf, hsl, h2, if_pos rfl]
      have hL : storeL xs rec = [] := by unfold storeL; rw [if_neg (by rw [hE]; decide)]
      rw [hE, hL]
      rw [h2] at C
      clear hc hsl h2 hl hln hE hL
      go_enter Tryz.func54, Tryz.ntmps54
      go_wp2_with (first | (go_at_call 75; refine (SlotFits_any _ _ _).mono ?_; rintro e w' ⟨rfl, rfl⟩) | (go_at_call 76; refine (C.out _ hS).mono ?_; rintro e w' ⟨rfl, rfl⟩))
      go_ret2
      exact ⟨_, rfl, Sl.nil _ _, Below.refl _ _⟩
  · simp only [Bool.not_eq_true] at hf
    have hE : storeE xs rec = 1 := by unfold storeE loadE; rw [if_neg (by rw [hf]; decide)]
    have hL : storeL xs rec = [] := by unfold storeL; rw [if_neg (by rw [hE]; decide)]
    rw [hE, hL]
    obtain ⟨a, cap, rfl, hn, hl, h0, h⟩ := h
    obtain ⟨a2, cap2, rfl, hn2, hl2, h02, hr2⟩ := hR
    clear hE hL h h0 h02 hr2
    go_enter Tryz.func54, Tryz.ntmps54
    go_wp2_with (go_at_call 75; refine (SlotFits_any _ _ _).mono ?_; rintro e w' ⟨rfl, rfl⟩)
    go_ret2
    exact ⟨_, rfl, Sl.nil _ _, Below.refl _ _⟩
end Go.Proofs.YtmciccnmpoijdaaGreatDoor
