/- slot.Load and its reference -/
import Derived.Test.YtmciccnmpoijdaaGreatDoorPk21
namespace Go.Proofs.YtmciccnmpoijdaaGreatDoor
open Go.RowKit
set_option maxRecDepth 20000
theorem infoU32' : (Tryz.prog.info? 51).map (fun i => (i.zero, i.size, i.bytes)) = some (some (.int .u32 0), 1, 4) := by kernel_rfl

def loadS (xs : List Int) (n : Int) : Int := slotOf (xs.getD 0 0) (xs.getD (n.toNat + 1) 0)
def loadE (xs : List Int) (n : Int) : Int := if slotFits xs.length n then (if loadS xs n = 2 then 17 else 0) else 1
def loadL (xs : List Int) (n : Int) : List Int := if slotFits xs.length n then (if loadS xs n = 2 then [] else (xs.drop ((loadS xs n).toNat * (n.toNat + 1) + 1)).take n.toNat) else []

theorem slotOf_cases (a b : Int) : slotOf a b = 0 ∨ slotOf a b = 1 ∨ slotOf a b = 2 := by
  unfold slotOf; (repeat' split) <;> simp

/-- a piece of a list's cells -/
theorem news_piece {w : World} {b off : Nat} {cs : List Value} (hc : ∀ j, j < cs.length → w.cell? ⟨b, off + j, none⟩ = some (cs.getD j undef)) (at_ n : Nat) (hl : at_ + n ≤ cs.length) :
    ∀ j u, ((cs.drop at_).take n)[j]? = some u → w.cell? ((⟨b, off + at_, none⟩ : Addr).add j) = some u := by
  intro j u hu
  rw [List.getElem?_take] at hu
  split at hu
  · rename_i hj
    rw [List.getElem?_drop] at hu
    have := hc (at_ + j) (by omega)
    rw [List.getD_eq_getElem?_getD, hu] at this
    have e : (⟨b, off + at_, none⟩ : Addr).add j = ⟨b, off + (at_ + j), none⟩ := by
      unfold Addr.add
      split
      · subst_vars; rfl
      · simp [Nat.add_assoc]
    rw [e]; exact this
  · cases hu

theorem Load_any (v : Value) (xs : List Int) (n : Int) (w : World) (h : Sl w v 1 xs.length (xs.map U32)) (hw : ∀ x ∈ xs, W32 x) :
    Calls Tryz.prog 20 #[v, I n] w (GrewSl2 1 (loadL xs n).length ((loadL xs n).map U32) (loadE xs n) w) := by
  obtain ⟨i0, hi, hz0, hz1, hz2⟩ := info_parts infoU32'
  by_cases hf : slotFits xs.length n = true
  · have hf' := hf
    simp only [slotFits, Bool.and_eq_true, decide_eq_true_eq, inB_true] at hf'
    obtain ⟨⟨n0, n1⟩, hlen⟩ := hf'
    obtain ⟨m, rfl⟩ := Int.eq_ofNat_of_zero_le (show 0 ≤ n by omega)
    have hln : xs.length = 2 * (m + 1) := by omega
    have C := Lib.hid (fun W (hW : Sl W v 1 xs.length (xs.map U32)) => newer_any v xs m W hW hw (by omega) (by omega))
    have hS := h
    obtain ⟨a, cap, rfl, hn, hl, h0, h⟩ := h
    obtain ⟨b, off, rfl, hb, hc⟩ := h.resolve_left (by omega)
    have Hln := Lib.hid hln
    have hE : loadE xs m = if loadS xs m = 2 then 17 else 0 := by simp [loadE, hf]
    have hL : loadL xs m = if loadS xs m = 2 then [] else (xs.drop ((loadS xs m).toNat * (m + 1) + 1)).take m := by simp [loadL, hf]
    rw [hE, hL]
    have hsl : loadS xs m = slotOf (xs.getD 0 0) (xs.getD (m + 1) 0) := rfl
    clear hE hL hlen h h0
    rcases slotOf_cases (xs.getD 0 0) (xs.getD (m + 1) 0) with h2 | h2 | h2
    · have hnw : newerI (xs.getD 0 0) (xs.getD (m + 1) 0) = 0 := by unfold newerI; rw [h2]; rfl
      rw [hsl, h2, if_neg (by decide), if_neg (by decide)]
      rw [hnw] at C
      rw [show (0 : Int).toNat * (m + 1) + 1 = 1 by simp]
      obtain ⟨LL, hLL⟩ : ∃ LL, LL = (xs.drop (1)).take m := ⟨_, rfl⟩
      rw [← hLL]
      have hlt := Lib.hid (show LL.length = m by rw [hLL]; simp; omega)
      have hcap : 1 + (m : Int) ≤ (cap : Int) := by omega
      have hmap : ((xs.map U32).drop (1)).take m = LL.map U32 := by rw [hLL, List.map_take, List.map_drop]
      have hnews := Lib.hid (fun W (hk : Below w.heap.size w W) => hmap ▸ news_piece (w := W) (b := b) (off := off) (cs := xs.map U32) (fun j hj => (hk.cell (p := ⟨b, off + j, none⟩) hb).trans (hc j hj)) (1) m (by simp; omega))
      have hS' := hS.below (boxed_below w (.cells #[.slice (some ⟨b, off, none⟩) xs.length cap, I m] 98))
      clear hc hsl h2 hnw hl hln hLL hmap hS
      go_enter Tryz.func20, Tryz.ntmps20
      go_wp2_with (go_at_call 55; refine (size_any _ _ _).mono ?_; rintro e w' ⟨rfl, rfl⟩)
      refine (C.out _ hS').mono ?_
      rintro e w1 ⟨rfl, k0⟩
      have k1 := below_box k0
      have hsz1 := k1.size
      obtain ⟨hc1, _⟩ := bcell k0
      go_wp2_with (at_builtin; refine wpList_append_own _ rfl _ _ 22 rfl w.heap.size 51 i0 (.int .u32 0) 1 4 Tryz.underlying22 hi hz0 hz1 hz2 rfl (by decide) _ 0 [] rfl (World.ownsRow_nil _ _ _ _) ⟨b, off + 1, none⟩ _ _ (LL.map U32) rfl (by rw [List.length_map, hlt.out]; omega) (hnews.out _ k1) (oneCells_map (fun _ => rfl) _) (by unfold maxLen; omega) (by omega) (by omega) ?_; intro v' w2 hown' hgrow _)
      have k2 := Below.grown k1 hgrow hsz1 (fun k hk => absurd (show (none : Option Nat) = some k from hk) (by simp))
      rw [List.nil_append] at hown'
      have hS2 := Sl.of_owns' (n := LL.length) hown' (by rw [hlt.out]; omega) (by rw [hlt.out]; omega)
      clear hown' hgrow
      go_wp2
      go_ret2
      exact ⟨_, rfl, hS2, k2⟩
    · have hnw : newerI (xs.getD 0 0) (xs.getD (m + 1) 0) = 1 := by unfold newerI; rw [h2]; rfl
      rw [hsl, h2, if_neg (by decide), if_neg (by decide)]
      rw [hnw] at C
      rw [show (1 : Int).toNat * (m + 1) + 1 = m + 1 + 1 by simp]
      obtain ⟨LL, hLL⟩ : ∃ LL, LL = (xs.drop (m + 1 + 1)).take m := ⟨_, rfl⟩
      rw [← hLL]
      have hlt := Lib.hid (show LL.length = m by rw [hLL]; simp; omega)
      have hcap : (m : Int) + 1 + 1 + m ≤ (cap : Int) := by omega
      have hmap : ((xs.map U32).drop (m + 1 + 1)).take m = LL.map U32 := by rw [hLL, List.map_take, List.map_drop]
      have hnews := Lib.hid (fun W (hk : Below w.heap.size w W) => hmap ▸ news_piece (w := W) (b := b) (off := off) (cs := xs.map U32) (fun j hj => (hk.cell (p := ⟨b, off + j, none⟩) hb).trans (hc j hj)) (m + 1 + 1) m (by simp; omega))
      have hS' := hS.below (boxed_below w (.cells #[.slice (some ⟨b, off, none⟩) xs.length cap, I m] 98))
      clear hc hsl h2 hnw hl hln hLL hmap hS
      go_enter Tryz.func20, Tryz.ntmps20
      go_wp2_with (go_at_call 55; refine (size_any _ _ _).mono ?_; rintro e w' ⟨rfl, rfl⟩)
      refine (C.out _ hS').mono ?_
      rintro e w1 ⟨rfl, k0⟩
      have k1 := below_box k0
      have hsz1 := k1.size
      obtain ⟨hc1, _⟩ := bcell k0
      go_wp2_with (at_builtin; refine wpList_append_own _ rfl _ _ 22 rfl w.heap.size 51 i0 (.int .u32 0) 1 4 Tryz.underlying22 hi hz0 hz1 hz2 rfl (by decide) _ 0 [] rfl (World.ownsRow_nil _ _ _ _) ⟨b, off + (m + 1 + 1), none⟩ _ _ (LL.map U32) rfl (by rw [List.length_map, hlt.out]; omega) (hnews.out _ k1) (oneCells_map (fun _ => rfl) _) (by unfold maxLen; omega) (by omega) (by omega) ?_; intro v' w2 hown' hgrow _)
      have k2 := Below.grown k1 hgrow hsz1 (fun k hk => absurd (show (none : Option Nat) = some k from hk) (by simp))
      rw [List.nil_append] at hown'
      have hS2 := Sl.of_owns' (n := LL.length) hown' (by rw [hlt.out]; omega) (by rw [hlt.out]; omega)
      clear hown' hgrow
      go_wp2
      go_ret2
      exact ⟨_, rfl, hS2, k2⟩
    · have hnw : newerI (xs.getD 0 0) (xs.getD (m + 1) 0) = -1 := by unfold newerI; rw [h2]; rfl
      rw [hsl, h2, if_pos rfl, if_pos rfl]
      rw [hnw] at C
      have hS' := hS.below (boxed_below w (.cells #[.slice (some ⟨b, off, none⟩) xs.length cap, I m] 98))
      clear hc hsl h2 hnw hl hln hS
      go_enter Tryz.func20, Tryz.ntmps20
      go_wp2_with (go_at_call 55; refine (size_any _ _ _).mono ?_; rintro e w' ⟨rfl, rfl⟩)
      refine (C.out _ hS').mono ?_
      rintro e w1 ⟨rfl, k0⟩
      have k1 := below_box k0
      go_wp2
      go_ret2
      exact ⟨_, rfl, Sl.nil _ _, k1⟩
  · simp only [Bool.not_eq_true] at hf
    have hE : loadE xs n = 1 := by simp [loadE, hf]
    have hL : loadL xs n = [] := by simp [loadL, hf]
    rw [hE, hL]
    obtain ⟨a, cap, rfl, hn, hl, h0, h⟩ := h
    clear hE hL h h0
    go_enter Tryz.func20, Tryz.ntmps20
    go_wp2_with (go_at_call 55; refine (size_any _ _ _).mono ?_; rintro e w' ⟨rfl, rfl⟩)
    go_ret2
    exact ⟨_, rfl, Sl.nil _ _, Below.refl _ _⟩

theorem follows_any (a b : Int) (ha : 1 ≤ a) (ha' : a ≤ 3) (hb : 1 ≤ b) (hb' : b ≤ 3) (w : World) : Calls Tryz.prog 102 #[U32 a, U32 b] w (Pure (.bool (nextI a == b)) w) := by
  have h1 : a = 1 ∨ a = 2 ∨ a = 3 := by omega
  have h2 : b = 1 ∨ b = 2 ∨ b = 3 := by omega
  rcases h1 with rfl | rfl | rfl
  all_goals
    rcases h2 with rfl | rfl | rfl
    all_goals
      clear ha ha' hb hb'
      go_enter Tryz.func102, Tryz.ntmps102
      go_wp2
      go_ret
      exact Pure.intro rfl

theorem counts_any (v : Value) (xs : List Int) (n : Nat) (w : World) (h : Sl w v 1 xs.length (xs.map U32)) (h0 : n + 1 < xs.length) (hn' : n ≤ 100) :
    Calls Tryz.prog 76 #[v, I n] w (Pure (I (slotOf (xs.getD 0 0) (xs.getD (n + 1) 0))) w) := by
  have hlen : xs.length ≤ 281474976710656 := by obtain ⟨_, _, _, h, _⟩ := h; exact h.1
  obtain ⟨a, cap, rfl, hn, hl, _, h⟩ := h
  obtain ⟨b, off, rfl, hb, hc⟩ := h.resolve_left (by omega)
  have e1 := hc 0 (by simp; omega)
  have e2 := hc (n + 1) (by simpa using h0)
  rw [getD_map' _ _ (by omega)] at e1 e2
  rw [Nat.add_zero] at e1
  clear hc h hl
  generalize xs.getD 0 0 = x at *
  generalize xs.getD (n + 1) 0 = y at *
  have hi : ((n : Int) + 1) < (xs.length : Int) := by omega
  have hi0 : 0 ≤ ((n : Int) + 1) := by omega
  have hi1 : (0 : Int) < (xs.length : Int) := by omega
  by_cases x1 : 1 ≤ x
  · by_cases x3 : x ≤ 3
    · by_cases y1 : 1 ≤ y
      · by_cases y3 : y ≤ 3
        · have hs : slotOf x y = if (nextI x == y) = true then 1 else 0 := by unfold slotOf; rw [if_pos ⟨x1, x3⟩, if_pos ⟨y1, y3⟩]; simp
          cases hq : (nextI x == y)
          · rw [hs, hq]
            clear hs
            go_enter Tryz.func76, Tryz.ntmps76
            go_wp2_with (go_at_call 102; refine (follows_any _ _ x1 x3 y1 y3 _).mono ?_; rintro e w' ⟨rfl, rfl⟩)
            go_ret
            exact Pure.intro rfl
          · rw [hs, hq]
            clear hs
            go_enter Tryz.func76, Tryz.ntmps76
            go_wp2_with (go_at_call 102; refine (follows_any _ _ x1 x3 y1 y3 _).mono ?_; rintro e w' ⟨rfl, rfl⟩)
            go_ret
            exact Pure.intro rfl
        · have hs : slotOf x y = 0 := by unfold slotOf; rw [if_pos ⟨x1, x3⟩, if_neg (by omega)]
          rw [hs]
          clear hs
          go_enter Tryz.func76, Tryz.ntmps76
          go_wp2
          go_ret
          exact Pure.intro rfl
      · have hs : slotOf x y = 0 := by unfold slotOf; rw [if_pos ⟨x1, x3⟩, if_neg (by omega)]
        rw [hs]
        clear hs
        go_enter Tryz.func76, Tryz.ntmps76
        go_wp2
        go_ret
        exact Pure.intro rfl
    · by_cases y1 : 1 ≤ y
      · by_cases y3 : y ≤ 3
        · have hs : slotOf x y = 1 := by unfold slotOf; rw [if_neg (by omega), if_pos ⟨y1, y3⟩]
          rw [hs]
          clear hs
          go_enter Tryz.func76, Tryz.ntmps76
          go_wp2
          go_ret
          exact Pure.intro rfl
        · have hs : slotOf x y = 2 := by unfold slotOf; rw [if_neg (by omega), if_neg (by omega)]
          rw [hs]
          clear hs
          go_enter Tryz.func76, Tryz.ntmps76
          go_wp2
          go_ret
          exact Pure.intro rfl
      · have hs : slotOf x y = 2 := by unfold slotOf; rw [if_neg (by omega), if_neg (by omega)]
        rw [hs]
        clear hs
        go_enter Tryz.func76, Tryz.ntmps76
        go_wp2
        go_ret
        exact Pure.intro rfl
  · by_cases y1 : 1 ≤ y
    · by_cases y3 : y ≤ 3
      · have hs : slotOf x y = 1 := by unfold slotOf; rw [if_neg (by omega), if_pos ⟨y1, y3⟩]
        rw [hs]
        clear hs
        go_enter Tryz.func76, Tryz.ntmps76
        go_wp2
        go_ret
        exact Pure.intro rfl
      · have hs : slotOf x y = 2 := by unfold slotOf; rw [if_neg (by omega), if_neg (by omega)]
        rw [hs]
        clear hs
        go_enter Tryz.func76, Tryz.ntmps76
        go_wp2
        go_ret
        exact Pure.intro rfl
    · have hs : slotOf x y = 2 := by unfold slotOf; rw [if_neg (by omega), if_neg (by omega)]
      rw [hs]
      clear hs
      go_enter Tryz.func76, Tryz.ntmps76
      go_wp2
      go_ret
      exact Pure.intro rfl

theorem take_piece {xs : List Int} {at_ k : Nat} (h : at_ + k < xs.length) : ((xs.drop at_).take k).map U32 ++ [U32 (xs.getD (at_ + k) 0)] = ((xs.drop at_).take (k + 1)).map U32 := by
  rw [List.take_add_one, List.map_append, List.getElem?_drop, List.getElem?_eq_getElem h, List.getD_eq_getElem?_getD, List.getElem?_eq_getElem h]
  rfl

/-- the relation of the copying loop -/
def LoRel (w : World) (xs : List Int) (at_ k : Nat) (v : Value) (wr : World) : Prop := wr.ownsRow w.heap.size 51 1 v k (((xs.drop at_).take k).map U32) ∧ Below w.heap.size w wr

set_option maxHeartbeats 1000000 in
theorem SlotLoaded_any (v : Value) (xs : List Int) (n : Int) (w : World) (h : Sl w v 1 xs.length (xs.map U32)) :
    Calls Tryz.prog 35 #[v, I n] w (GrewSl2 1 (loadL xs n).length ((loadL xs n).map U32) (loadE xs n) w) := by
  obtain ⟨i0, hi, hz0, hz1, hz2⟩ := info_parts infoU32'
  by_cases hf : slotFits xs.length n = true
  · have hf' := hf
    simp only [slotFits, Bool.and_eq_true, decide_eq_true_eq, inB_true] at hf'
    obtain ⟨⟨n0, n1⟩, hlen⟩ := hf'
    obtain ⟨m, rfl⟩ := Int.eq_ofNat_of_zero_le (show 0 ≤ n by omega)
    have hln : xs.length = 2 * (m + 1) := by omega
    have C := Lib.hid (fun W (hW : Sl W v 1 xs.length (xs.map U32)) => counts_any v xs m W hW (by omega) (by omega))
    have hS := h
    obtain ⟨a, cap, rfl, hn, hl, h0, h⟩ := h
    obtain ⟨b, off, rfl, hb, hc⟩ := h.resolve_left (by omega)
    have hE : loadE xs m = if loadS xs m = 2 then 17 else 0 := by simp [loadE, hf]
    have hL : loadL xs m = if loadS xs m = 2 then [] else (xs.drop ((loadS xs m).toNat * (m + 1) + 1)).take m := by simp [loadL, hf]
    rw [hE, hL]
    have hsl : loadS xs m = slotOf (xs.getD 0 0) (xs.getD (m + 1) 0) := rfl
    rw [hsl]
    clear hE hL hlen h h0 hsl
    have h2 := slotOf_cases (xs.getD 0 0) (xs.getD (m + 1) 0)
    generalize slotOf (xs.getD 0 0) (xs.getD (m + 1) 0) = S at *
    by_cases hS2 : S = 2
    · subst hS2
      rw [if_pos rfl, if_pos rfl]
      clear hc hl hln h2
      go_enter Tryz.func35, Tryz.ntmps35
      go_wp2_with (first | (go_at_call 75; refine (SlotFits_any _ _ _).mono ?_; rintro e w' ⟨rfl, rfl⟩) | (go_at_call 76; refine (C.out _ hS).mono ?_; rintro e w' ⟨rfl, rfl⟩))
      go_ret2
      exact ⟨_, rfl, Sl.nil _ _, Below.refl _ _⟩
    · rw [if_neg hS2, if_neg hS2]
      rcases h2 with rfl | rfl | rfl
      · rw [show (0 : Int).toNat * (m + 1) + 1 = 1 by simp]
        have hat : 1 + m ≤ xs.length := by omega
        obtain ⟨LL, hLL⟩ : ∃ LL, LL = (xs.drop (1)).take m := ⟨_, rfl⟩
        rw [← hLL]
        have HLL := Lib.hid hLL
        have hlt := Lib.hid (show LL.length = m by rw [hLL]; simp; omega)
        clear hLL hS2 hl hln
        go_enter Tryz.func35, Tryz.ntmps35
        go_wp2_with (first | (go_at_call 75; refine (SlotFits_any _ _ _).mono ?_; rintro e w' ⟨rfl, rfl⟩) | (go_at_call 76; refine (C.out _ hS).mono ?_; rintro e w' ⟨rfl, rfl⟩))
        clear hf
        go_loopw [7, 8] (fun v i wr => ∃ k : Nat, k ≤ m ∧ i = I ((k : Int) + 1) ∧ Hid (LoRel w xs (1) k v wr)) (fun _ i _ => m + 1 - (intOf i).toNat)
        case atStart => exact ⟨0, Nat.zero_le _, rfl, by simpa using World.ownsRow_nil _ _ _ _, Below.refl _ _⟩
        case round =>
          obtain ⟨k, hk, rfl, hD⟩ := hrel
          by_cases hlt2 : k < m
          · obtain ⟨hown, hbw⟩ := hD.out
            have hsz := hbw.size
            have e1 := (hbw.cell (p := ⟨b, off + (1 + k), none⟩) hb).trans (hc (1 + k) (by simp; omega))
            rw [getD_map' _ _ (by omega)] at e1
            have htp := Lib.hid (take_piece (xs := xs) (at_ := 1) (k := k) (by omega))
            generalize xs.getD (1 + k) 0 = x at *
            have hi0 : (0 : Int) ≤ ((k : Int) + 1) := by omega
            have hi1 : ((k : Int) + 1) < (xs.length : Int) := by omega
            have hk1 : (k : Int) + 1 ≤ (m : Int) := by omega
            rw [show 1 + k = k + 1 by omega] at e1
            go_wp2_with (at_builtin; refine wpList_append_own _ rfl _ _ 22 rfl w.heap.size 51 i0 (.int .u32 0) 1 4 Tryz.underlying22 hi hz0 hz1 hz2 rfl (by decide) _ _ _ rfl (hown.alloc _) ⟨wr.heap.size, 0, none⟩ 1 1 [U32 x] rfl rfl (news_lit _ [U32 x] _) (oneCells_lit rfl) (by unfold maxLen; omega) (by omega) (by simp; omega) ?_; intro v' w1 hown' hgrow _)
            have hbel := grown_below (hbw.alloc hsz _) (hown.alloc _) (Nat.le_refl _) hgrow
            have hD' : Hid (LoRel w xs (1) (k + 1) v' w1) := ⟨by rw [← htp.out]; exact hown', hbel⟩
            clear hown hown' hgrow hbel hbw hD
            go_wp2
            exact ⟨⟨k + 1, by omega, eI (by omega), hD'⟩, by simp [intOf]; omega⟩
          · have hkm : k = m := by omega
            have hk1 : (m : Int) < (k : Int) + 1 := by omega
            have hS3 := Sl.of_owns' (n := LL.length) hD.out.1 (by rw [hlt.out, hkm]) (by rw [hlt.out]; omega)
            have hb' := hD.out.2
            have e3 : ((xs.drop (1)).take k).map U32 = LL.map U32 := by rw [HLL.out, hkm]
            rw [e3] at hS3
            clear hkm hD e3
            go_wp2
            go_ret2
            exact ⟨_, rfl, hS3, hb'⟩
      · rw [show (1 : Int).toNat * (m + 1) + 1 = m + 1 + 1 by simp]
        have hat : m + 1 + 1 + m ≤ xs.length := by omega
        obtain ⟨LL, hLL⟩ : ∃ LL, LL = (xs.drop (m + 1 + 1)).take m := ⟨_, rfl⟩
        rw [← hLL]
        have HLL := Lib.hid hLL
        have hlt := Lib.hid (show LL.length = m by rw [hLL]; simp; omega)
        clear hLL hS2 hl hln
        go_enter Tryz.func35, Tryz.ntmps35
        go_wp2_with (first | (go_at_call 75; refine (SlotFits_any _ _ _).mono ?_; rintro e w' ⟨rfl, rfl⟩) | (go_at_call 76; refine (C.out _ hS).mono ?_; rintro e w' ⟨rfl, rfl⟩))
        clear hf
        go_loopw [7, 8] (fun v i wr => ∃ k : Nat, k ≤ m ∧ i = I ((k : Int) + 1) ∧ Hid (LoRel w xs (m + 1 + 1) k v wr)) (fun _ i _ => m + 1 - (intOf i).toNat)
        case atStart => exact ⟨0, Nat.zero_le _, rfl, by simpa using World.ownsRow_nil _ _ _ _, Below.refl _ _⟩
        case round =>
          obtain ⟨k, hk, rfl, hD⟩ := hrel
          by_cases hlt2 : k < m
          · obtain ⟨hown, hbw⟩ := hD.out
            have hsz := hbw.size
            have e1 := (hbw.cell (p := ⟨b, off + (m + 1 + 1 + k), none⟩) hb).trans (hc (m + 1 + 1 + k) (by simp; omega))
            rw [getD_map' _ _ (by omega)] at e1
            have htp := Lib.hid (take_piece (xs := xs) (at_ := m + 1 + 1) (k := k) (by omega))
            generalize xs.getD (m + 1 + 1 + k) 0 = x at *
            have hi0 : (0 : Int) ≤ ((m : Int) + 1 + ((k : Int) + 1)) := by omega
            have hi1 : ((m : Int) + 1 + ((k : Int) + 1)) < (xs.length : Int) := by omega
            have hk1 : (k : Int) + 1 ≤ (m : Int) := by omega
            rw [show m + 1 + 1 + k = m + 1 + (k + 1) by omega] at e1
            go_wp2_with (at_builtin; refine wpList_append_own _ rfl _ _ 22 rfl w.heap.size 51 i0 (.int .u32 0) 1 4 Tryz.underlying22 hi hz0 hz1 hz2 rfl (by decide) _ _ _ rfl (hown.alloc _) ⟨wr.heap.size, 0, none⟩ 1 1 [U32 x] rfl rfl (news_lit _ [U32 x] _) (oneCells_lit rfl) (by unfold maxLen; omega) (by omega) (by simp; omega) ?_; intro v' w1 hown' hgrow _)
            have hbel := grown_below (hbw.alloc hsz _) (hown.alloc _) (Nat.le_refl _) hgrow
            have hD' : Hid (LoRel w xs (m + 1 + 1) (k + 1) v' w1) := ⟨by rw [← htp.out]; exact hown', hbel⟩
            clear hown hown' hgrow hbel hbw hD
            go_wp2
            exact ⟨⟨k + 1, by omega, eI (by omega), hD'⟩, by simp [intOf]; omega⟩
          · have hkm : k = m := by omega
            have hk1 : (m : Int) < (k : Int) + 1 := by omega
            have hS3 := Sl.of_owns' (n := LL.length) hD.out.1 (by rw [hlt.out, hkm]) (by rw [hlt.out]; omega)
            have hb' := hD.out.2
            have e3 : ((xs.drop (m + 1 + 1)).take k).map U32 = LL.map U32 := by rw [HLL.out, hkm]
            rw [e3] at hS3
            clear hkm hD e3
            go_wp2
            go_ret2
            exact ⟨_, rfl, hS3, hb'⟩
      · exact absurd rfl hS2
  · simp only [Bool.not_eq_true] at hf
    have hE : loadE xs n = 1 := by simp [loadE, hf]
    have hL : loadL xs n = [] := by simp [loadL, hf]
    rw [hE, hL]
    obtain ⟨a, cap, rfl, hn, hl, h0, h⟩ := h
    clear hE hL h h0
    go_enter Tryz.func35, Tryz.ntmps35
    go_wp2_with (go_at_call 75; refine (SlotFits_any _ _ _).mono ?_; rintro e w' ⟨rfl, rfl⟩)
    go_ret2
    exact ⟨_, rfl, Sl.nil _ _, Below.refl _ _⟩
end Go.Proofs.YtmciccnmpoijdaaGreatDoor
