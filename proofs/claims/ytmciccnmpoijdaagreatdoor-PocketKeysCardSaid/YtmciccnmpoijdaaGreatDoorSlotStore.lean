/- slot.Store and its reference -/
import Derived.Test.YtmciccnmpoijdaaGreatDoorSlotLoad
namespace Go.Proofs.YtmciccnmpoijdaaGreatDoor
open Go.RowKit
set_option maxRecDepth 20000
theorem infoWrite' : (Tryz.prog.info? 53).map (fun i => (i.zero, i.size, i.bytes)) = some (some (.agg #[.int .i64 0, .int .u32 0]), 2, 16) := by kernel_rfl

theorem owns_below {w w' : World} {b e sz n : Nat} {v : Value} {cs : List Value} (h : w.ownsRow b e sz v n cs) (hb : Below w.heap.size w w') : w'.ownsRow b e sz v n cs := by
  obtain ⟨hl, h⟩ := h
  refine ⟨hl, h.imp id ?_⟩
  rintro ⟨g, cap, cur, hv, hg, hh, r⟩
  exact ⟨g, cap, cur, hv, hg, (hb.block g (Array.getElem?_eq_some_iff.1 hh).1).trans hh, r⟩

/-- the writes of the words, behind a first one -/
def putL (at_ : Int) (rec : List Int) (k : Nat) : List AWrite := ⟨at_, 0⟩ :: (List.range k).map fun (i : Nat) => ⟨at_ + 1 + i, rec.getD i 0⟩
theorem putL_len (a : Int) (rec : List Int) (k : Nat) : (putL a rec k).length = k + 1 := by simp [putL]
theorem putL_succ (a : Int) (rec : List Int) (k : Nat) : putL a rec (k + 1) = putL a rec k ++ [⟨a + 1 + k, rec.getD k 0⟩] := by
  simp [putL, List.range_succ]
def storeAt (S : Int) (n : Nat) : Int := if S = 0 then (n : Int) + 1 else 0
def storeM (xs : List Int) (n : Nat) (S : Int) : Int := nextI (markI (xs.getD (S.toNat * (n + 1)) 0))
def storeE (xs rec : List Int) : Int := loadE xs rec.length
def storeL (xs rec : List Int) : List AWrite :=
  if storeE xs rec = 0 then putL (storeAt (loadS xs rec.length) rec.length) rec rec.length ++ [⟨storeAt (loadS xs rec.length) rec.length, storeM xs rec.length (loadS xs rec.length)⟩] else []
def SRel (W : World) (a : Int) (rec : List Int) (k : Nat) (v : Value) (wr : World) : Prop :=
  wr.ownsRow W.heap.size 53 2 v (k + 1) ((putL a rec k).flatMap AWrite.cells) ∧ Below W.heap.size W wr

set_option maxHeartbeats 1000000 in
theorem Store_any (v : Value) (xs : List Int) (v2 : Value) (rec : List Int) (w : World) (h : Sl w v 1 xs.length (xs.map U32)) (hw : ∀ x ∈ xs, W32 x) (hR : Sl w v2 1 rec.length (rec.map U32)) :
    Calls Tryz.prog 34 #[v, v2] w (GrewSl2 2 (storeL xs rec).length ((storeL xs rec).flatMap AWrite.cells) (storeE xs rec) w) := by
  obtain ⟨i0, hi, hz0, hz1, hz2⟩ := info_parts infoWrite'
  by_cases hf : slotFits xs.length rec.length = true
  · have hf' := hf
    simp only [slotFits, Bool.and_eq_true, decide_eq_true_eq, inB_true] at hf'
    obtain ⟨⟨n0, n1⟩, hlen⟩ := hf'
    have hln : xs.length = 2 * (rec.length + 1) := by omega
    have C := Lib.hid (fun W (hW : Sl W v 1 xs.length (xs.map U32)) => newer_any v xs rec.length W hW hw (by omega) (by omega))
    have M := Lib.hid (fun s W hW => mark_any v xs rec.length s W hW (by omega) (by omega))
    have hS := h
    have hR0 := hR
    obtain ⟨a, cap, rfl, hn, hl, h0, h⟩ := h
    obtain ⟨b, off, rfl, hb, hc⟩ := h.resolve_left (by omega)
    obtain ⟨a2, cap2, rfl, hn2, hl2, h02, hr2⟩ := hR
    obtain ⟨b2, o2, rfl, hb2, hc2⟩ := hr2.resolve_left (by omega)
    have hsl : loadS xs rec.length = slotOf (xs.getD 0 0) (xs.getD (rec.length + 1) 0) := rfl
    have hS' := hS.below (boxed_below w (.cells #[.slice (some ⟨b, off, none⟩) xs.length cap, I rec.length] 98))
    clear hlen h h0 h02 hr2
    rcases slotOf_cases (xs.getD 0 0) (xs.getD (rec.length + 1) 0) with h2 | h2 | h2
    · have hnw : newerI (xs.getD 0 0) (xs.getD (rec.length + 1) 0) = 0 := by unfold newerI; rw [h2]; rfl
      have hE : storeE xs rec = 0 := by unfold storeE loadE; rw [if_pos hf, hsl, h2, if_neg (by decide)]
      have hL : storeL xs rec = putL ((rec.length : Int) + 1) rec rec.length ++ [⟨(rec.length : Int) + 1, nextI (markAt xs rec.length 0)⟩] := by
        unfold storeL storeM; rw [if_pos hE, hsl, h2]; simp [storeAt, markAt]
      have hmb : 0 ≤ markAt xs rec.length 0 ∧ markAt xs rec.length 0 ≤ 3 := mark_bd _ (getD_mem hw _)
      rw [hE, hL]
      rw [hnw] at C
      have hLn : (putL ((rec.length : Int) + 1) rec rec.length ++ [(⟨(rec.length : Int) + 1, nextI (markAt xs rec.length 0)⟩ : AWrite)]).length = rec.length + 1 + 1 := by simp [putL]
      rw [hLn]
      clear hc hsl h2 hnw hl hln hE hL hLn 
      go_enter Tryz.func34, Tryz.ntmps34
      go_wp2_with (go_at_call 55; refine (size_any _ _ _).mono ?_; rintro e w' ⟨rfl, rfl⟩)
      refine (C.out _ hS').mono ?_
      rintro e w1 ⟨rfl, k1⟩
      clear hf
      have hq0 : (w.alloc (.cells #[.slice (some ⟨b, off, none⟩) xs.length cap, I rec.length] 98)).heap.size = w.heap.size + 1 := by simp
      have c0 : (w.alloc (.cells #[.slice (some ⟨b, off, none⟩) xs.length cap, I rec.length] 98)).cell? ⟨w.heap.size, 0, none⟩ = some (.slice (some ⟨b, off, none⟩) xs.length cap) := by simp
      have c1 : (w.alloc (.cells #[.slice (some ⟨b, off, none⟩) xs.length cap, I rec.length] 98)).cell? ⟨w.heap.size, 1, none⟩ = some (I rec.length) := by simp
      have hW := boxed_below w (.cells #[.slice (some ⟨b, off, none⟩) xs.length cap, I rec.length] 98)
      generalize w.alloc (.cells #[.slice (some ⟨b, off, none⟩) xs.length cap, I rec.length] 98) = W at *
      have hlt : w.heap.size < W.heap.size := by omega
      clear hq0
      have hsz1 := k1.size
      go_wp2
      go_loopw [10, 37] (fun v i wr => ∃ k : Nat, k ≤ rec.length ∧ i = I k ∧ Hid (SRel W ((rec.length : Int) + 1) rec k v wr)) (fun _ i _ => rec.length - (intOf i).toNat)
      case atStart =>
        refine ⟨0, Nat.zero_le _, rfl, ?_, k1.alloc hsz1 _⟩
        exact owns_mono (owns_lit w1 [I ((rec.length : Int) + 1), U32 0] _ 2 1 rfl (by unfold maxLen; omega)) hsz1
      case round =>
        obtain ⟨k, hk, rfl, hD⟩ := hrel
        obtain ⟨hown, hbw⟩ := hD.out
        have hsz := hbw.size
        obtain ⟨bc, _⟩ := bcell hbw
        by_cases hlt2 : k < rec.length
        · have e1 := (hbw.cell (p := ⟨b2, o2 + k, none⟩) (show b2 < W.heap.size by omega)).trans ((hW.cell (p := ⟨b2, o2 + k, none⟩) hb2).trans (hc2 k (by simpa using hlt2)))
          rw [getD_map' _ _ hlt2] at e1
          have hps := Lib.hid (putL_succ ((rec.length : Int) + 1) rec k)
          generalize rec.getD k 0 = x at *
          have hi0 : (0 : Int) ≤ (k : Int) := by omega
          have hi1 : (k : Int) < (rec.length : Int) := by omega
          clear bc
          go_wp2_with (at_builtin; refine wpList_append_own _ rfl _ _ 28 rfl W.heap.size 53 i0 (.agg #[.int .i64 0, .int .u32 0]) 2 16 Tryz.underlying28 hi hz0 hz1 hz2 rfl (by decide) _ _ _ rfl (hown.alloc _) ⟨wr.heap.size, 0, none⟩ 1 1 [I ((rec.length : Int) + 1 + 1 + k), U32 x] rfl rfl (news_lit _ [I ((rec.length : Int) + 1 + 1 + k), U32 x] _) (oneCells_lit rfl) (by unfold maxLen; omega) (by omega) (by simp; omega) ?_; intro v' w1 hown' hgrow _)
          have hbel := (hbw.alloc hsz (.cells #[I ((rec.length : Int) + 1 + 1 + k), U32 x] 53)).grown hgrow (by simp; omega) (fun j hj => (hown.lt j hj).1)
          have hD' : Hid (SRel W ((rec.length : Int) + 1) rec (k + 1) v' w1) := by
            refine ⟨?_, hbel⟩
            rw [hps.out, List.flatMap_append]
            exact hown'
          clear hown hown' hgrow hbel hbw hD
          go_wp2
          exact ⟨⟨k + 1, by omega, by go_num, hD'⟩, by simp [intOf]; omega⟩
        · have hkm : k = rec.length := by omega
          have Hkm := Lib.hid hkm
          have hge : (rec.length : Int) ≤ (k : Int) := by omega
          clear hkm
          have hSm := (hS'.below hbw)
          go_wp2_with fail
          refine (M.out 0 _ hSm (by omega) (by omega)).mono ?_
          rintro e w3 ⟨rfl, k3⟩
          have hown3 := owns_below hown k3
          have hb3 := hbw.trans (k3.mono hsz)
          have hsz3 := hb3.size
          clear bc hown hD
          generalize markAt xs rec.length 0 = mkk at *
          go_wp2_with (first | (go_at_call 73; refine (next_any _ hmb.1 hmb.2 _).mono ?_; rintro e w' ⟨rfl, rfl⟩) | (at_builtin; refine wpList_append_own _ rfl _ _ 28 rfl W.heap.size 53 i0 (.agg #[.int .i64 0, .int .u32 0]) 2 16 Tryz.underlying28 hi hz0 hz1 hz2 rfl (by decide) _ _ _ rfl (hown3.alloc _) ⟨w3.heap.size, 0, none⟩ 1 1 [I ((rec.length : Int) + 1), U32 (nextI mkk)] rfl rfl (news_lit _ [I ((rec.length : Int) + 1), U32 (nextI mkk)] _) (oneCells_lit rfl) (by unfold maxLen; omega) (by omega) (by simp; omega) ?_; intro v' w1 hown' hgrow _))
          have hbel := (hb3.alloc hsz3 (.cells #[I ((rec.length : Int) + 1), U32 (nextI mkk)] 53)).grown hgrow (by simp; omega) (fun j hj => (hown3.lt j hj).1)
          have hS3 := Sl.of_owns' (n := rec.length + 1 + 1) hown' (by rw [Hkm.out]) (by omega)
          have hcs : (putL ((rec.length : Int) + 1) rec k).flatMap AWrite.cells ++ [I ((rec.length : Int) + 1), U32 (nextI mkk)] = (putL ((rec.length : Int) + 1) rec rec.length ++ [(⟨(rec.length : Int) + 1, nextI mkk⟩ : AWrite)]).flatMap AWrite.cells := by rw [Hkm.out, List.flatMap_append]; rfl
          rw [hcs] at hS3
          clear hcs hown' hgrow hown3
          go_wp2
          go_ret2
          exact ⟨_, rfl, hS3, hW.trans (hbel.mono hW.size)⟩
    · have hnw : newerI (xs.getD 0 0) (xs.getD (rec.length + 1) 0) = 1 := by unfold newerI; rw [h2]; rfl
      have hE : storeE xs rec = 0 := by unfold storeE loadE; rw [if_pos hf, hsl, h2, if_neg (by decide)]
      have hL : storeL xs rec = putL (0) rec rec.length ++ [⟨0, nextI (markAt xs rec.length 1)⟩] := by
        unfold storeL storeM; rw [if_pos hE, hsl, h2]; simp [storeAt, markAt]
      have hmb : 0 ≤ markAt xs rec.length 1 ∧ markAt xs rec.length 1 ≤ 3 := mark_bd _ (getD_mem hw _)
      rw [hE, hL]
      rw [hnw] at C
      have hLn : (putL (0) rec rec.length ++ [(⟨0, nextI (markAt xs rec.length 1)⟩ : AWrite)]).length = rec.length + 1 + 1 := by simp [putL]
      rw [hLn]
      clear hc hsl h2 hnw hl hln hE hL hLn 
      go_enter Tryz.func34, Tryz.ntmps34
      go_wp2_with (go_at_call 55; refine (size_any _ _ _).mono ?_; rintro e w' ⟨rfl, rfl⟩)
      refine (C.out _ hS').mono ?_
      rintro e w1 ⟨rfl, k1⟩
      clear hf
      have hq0 : (w.alloc (.cells #[.slice (some ⟨b, off, none⟩) xs.length cap, I rec.length] 98)).heap.size = w.heap.size + 1 := by simp
      have c0 : (w.alloc (.cells #[.slice (some ⟨b, off, none⟩) xs.length cap, I rec.length] 98)).cell? ⟨w.heap.size, 0, none⟩ = some (.slice (some ⟨b, off, none⟩) xs.length cap) := by simp
      have c1 : (w.alloc (.cells #[.slice (some ⟨b, off, none⟩) xs.length cap, I rec.length] 98)).cell? ⟨w.heap.size, 1, none⟩ = some (I rec.length) := by simp
      have hW := boxed_below w (.cells #[.slice (some ⟨b, off, none⟩) xs.length cap, I rec.length] 98)
      generalize w.alloc (.cells #[.slice (some ⟨b, off, none⟩) xs.length cap, I rec.length] 98) = W at *
      have hlt : w.heap.size < W.heap.size := by omega
      clear hq0
      have hsz1 := k1.size
      go_wp2
      go_loopw [10, 37] (fun v i wr => ∃ k : Nat, k ≤ rec.length ∧ i = I k ∧ Hid (SRel W (0) rec k v wr)) (fun _ i _ => rec.length - (intOf i).toNat)
      case atStart =>
        refine ⟨0, Nat.zero_le _, rfl, ?_, k1.alloc hsz1 _⟩
        exact owns_mono (owns_lit w1 [I (0), U32 0] _ 2 1 rfl (by unfold maxLen; omega)) hsz1
      case round =>
        obtain ⟨k, hk, rfl, hD⟩ := hrel
        obtain ⟨hown, hbw⟩ := hD.out
        have hsz := hbw.size
        obtain ⟨bc, _⟩ := bcell hbw
        by_cases hlt2 : k < rec.length
        · have e1 := (hbw.cell (p := ⟨b2, o2 + k, none⟩) (show b2 < W.heap.size by omega)).trans ((hW.cell (p := ⟨b2, o2 + k, none⟩) hb2).trans (hc2 k (by simpa using hlt2)))
          rw [getD_map' _ _ hlt2] at e1
          have hps := Lib.hid (putL_succ (0) rec k)
          generalize rec.getD k 0 = x at *
          have hi0 : (0 : Int) ≤ (k : Int) := by omega
          have hi1 : (k : Int) < (rec.length : Int) := by omega
          clear bc
          go_wp2_with (at_builtin; refine wpList_append_own _ rfl _ _ 28 rfl W.heap.size 53 i0 (.agg #[.int .i64 0, .int .u32 0]) 2 16 Tryz.underlying28 hi hz0 hz1 hz2 rfl (by decide) _ _ _ rfl (hown.alloc _) ⟨wr.heap.size, 0, none⟩ 1 1 [I (1 + (k : Int)), U32 x] rfl rfl (news_lit _ [I (1 + (k : Int)), U32 x] _) (oneCells_lit rfl) (by unfold maxLen; omega) (by omega) (by simp; omega) ?_; intro v' w1 hown' hgrow _)
          have hbel := (hbw.alloc hsz (.cells #[I (1 + (k : Int)), U32 x] 53)).grown hgrow (by simp; omega) (fun j hj => (hown.lt j hj).1)
          have hD' : Hid (SRel W (0) rec (k + 1) v' w1) := by
            refine ⟨?_, hbel⟩
            rw [hps.out, List.flatMap_append, show ((0 : Int) + 1 + (k : Int)) = 1 + (k : Int) by omega]
            exact hown'
          clear hown hown' hgrow hbel hbw hD
          go_wp2
          exact ⟨⟨k + 1, by omega, by go_num, hD'⟩, by simp [intOf]; omega⟩
        · have hkm : k = rec.length := by omega
          have Hkm := Lib.hid hkm
          have hge : (rec.length : Int) ≤ (k : Int) := by omega
          clear hkm
          have hSm := (hS'.below hbw)
          go_wp2_with fail
          refine (M.out 1 _ hSm (by omega) (by omega)).mono ?_
          rintro e w3 ⟨rfl, k3⟩
          have hown3 := owns_below hown k3
          have hb3 := hbw.trans (k3.mono hsz)
          have hsz3 := hb3.size
          clear bc hown hD
          generalize markAt xs rec.length 1 = mkk at *
          go_wp2_with (first | (go_at_call 73; refine (next_any _ hmb.1 hmb.2 _).mono ?_; rintro e w' ⟨rfl, rfl⟩) | (at_builtin; refine wpList_append_own _ rfl _ _ 28 rfl W.heap.size 53 i0 (.agg #[.int .i64 0, .int .u32 0]) 2 16 Tryz.underlying28 hi hz0 hz1 hz2 rfl (by decide) _ _ _ rfl (hown3.alloc _) ⟨w3.heap.size, 0, none⟩ 1 1 [I (0), U32 (nextI mkk)] rfl rfl (news_lit _ [I (0), U32 (nextI mkk)] _) (oneCells_lit rfl) (by unfold maxLen; omega) (by omega) (by simp; omega) ?_; intro v' w1 hown' hgrow _))
          have hbel := (hb3.alloc hsz3 (.cells #[I (0), U32 (nextI mkk)] 53)).grown hgrow (by simp; omega) (fun j hj => (hown3.lt j hj).1)
          have hS3 := Sl.of_owns' (n := rec.length + 1 + 1) hown' (by rw [Hkm.out]) (by omega)
          have hcs : (putL (0) rec k).flatMap AWrite.cells ++ [I (0), U32 (nextI mkk)] = (putL (0) rec rec.length ++ [(⟨0, nextI mkk⟩ : AWrite)]).flatMap AWrite.cells := by rw [Hkm.out, List.flatMap_append]; rfl
          rw [hcs] at hS3
          clear hcs hown' hgrow hown3
          go_wp2
          go_ret2
          exact ⟨_, rfl, hS3, hW.trans (hbel.mono hW.size)⟩
    · have hnw : newerI (xs.getD 0 0) (xs.getD (rec.length + 1) 0) = -1 := by unfold newerI; rw [h2]; rfl
      have hE : storeE xs rec = 17 := by unfold storeE loadE; rw [if_pos hf, hsl, h2, if_pos rfl]
      have hL : storeL xs rec = [] := by unfold storeL; rw [if_neg (by rw [hE]; decide)]
      rw [hE, hL]
      rw [hnw] at C
      clear hc hsl h2 hnw hl hln hE hL
      go_enter Tryz.func34, Tryz.ntmps34
      go_wp2_with (go_at_call 55; refine (size_any _ _ _).mono ?_; rintro e w' ⟨rfl, rfl⟩)
      refine (C.out _ hS').mono ?_
      rintro e w1 ⟨rfl, k0⟩
      have k1 := below_box k0
      go_wp2
      go_ret2
      exact ⟨_, rfl, Sl.nil _ _, k1⟩
  · simp only [Bool.not_eq_true] at hf
    have hE : storeE xs rec = 1 := by unfold storeE loadE; rw [if_neg (by rw [hf]; decide)]
    have hL : storeL xs rec = [] := by unfold storeL; rw [if_neg (by rw [hE]; decide)]
    rw [hE, hL]
    obtain ⟨a, cap, rfl, hn, hl, h0, h⟩ := h
    obtain ⟨a2, cap2, rfl, hn2, hl2, h02, hr2⟩ := hR
    clear hE hL h h0 h02 hr2
    go_enter Tryz.func34, Tryz.ntmps34
    go_wp2_with (go_at_call 55; refine (size_any _ _ _).mono ?_; rintro e w' ⟨rfl, rfl⟩)
    go_ret2
    exact ⟨_, rfl, Sl.nil _ _, Below.refl _ _⟩
end Go.Proofs.YtmciccnmpoijdaaGreatDoor
