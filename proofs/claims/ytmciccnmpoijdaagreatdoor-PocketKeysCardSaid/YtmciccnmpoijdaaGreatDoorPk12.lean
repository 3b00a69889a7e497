/- window.may, window.Judge and their references · window.Used, ref.members and what leans on it -/
import Derived.Test.YtmciccnmpoijdaaGreatDoorPk10
import Derived.Test.YtmciccnmpoijdaaGreatDoorPk00
import Derived.Test.YtmciccnmpoijdaaGreatDoorShelf
import Derived.Laws.BitsAllLaws
namespace Go.Proofs.YtmciccnmpoijdaaGreatDoor
open Go.RowKit
set_option maxRecDepth 20000

/-- a window as a value -/
abbrev WinV (h : Int) (b : Nat) : Value := .agg #[I h, .int .u64 b]
theorem and1 (b : Nat) (hb : b < 18446744073709551616) : bits .and .u64 (b : Int) 1 = ((b % 2 : Nat) : Int) := by
  have := u64_and_nat b 1 hb (by decide)
  rw [Nat.and_one_is_mod] at this
  exact this

theorem Len64_any (b : Nat) (w : World) (hb : b < 18446744073709551616) : Calls Tryz.prog 98 #[.int .u64 b] w (Pure (I (bl b)) w) := by
  refine (Tryz.bits_Len64 (b : Int) w (by omega) (by omega)).mono ?_
  rintro e w' ⟨rfl, rfl⟩
  exact Pure.intro rfl

set_option maxHeartbeats 1000000 in
theorem may_any (h : Int) (b : Nat) (w : World) (hb : b < 18446744073709551616) : Calls Tryz.prog 97 #[WinV h b] w (Grew (.bool (mayW h b)) w) := by
  have ha := and1 b hb
  by_cases h1 : h < 1
  · have e1 : mayW h b = (h == 0 && b == 0) := by simp [mayW, h1]
    rw [e1]
    clear e1
    go_enter Tryz.func97, Tryz.ntmps97
    go_wp2
    all_goals
      go_ret
      exact Grew.intro (eB (by simp [*])) (by repeat first | exact Below.refl _ _ | assumption | refine drewN_below ?_ _ | refine Below.alloc ?_ (by first | exact Nat.le_refl _ | exact Below.size (by assumption) | (simp; done) | (simp; omega) | omega) _ | refine Below.setCell ?_ (by first | exact Nat.le_refl _ | (simp; done) | (simp; omega) | omega) _)
  · have h1' : (h < 1) = False := by simp [h1]
    by_cases h2 : h ≤ 1048575
    · cases h3 : (b % 2 == 1)
      · have e1 : mayW h b = false := by simp [mayW, h1, h3]
        rw [e1]
        have h3' : (((b % 2 : Nat) : Int) == 1) = false := by simp at h3; simp; omega
        clear e1 h3
        generalize b % 2 = r at *
        by_cases h6 : h ≤ 64
        · go_enter Tryz.func97, Tryz.ntmps97
          go_wp2
          go_ret
          exact Grew.intro rfl (by repeat first | exact Below.refl _ _ | assumption | refine drewN_below ?_ _ | refine Below.alloc ?_ (by first | exact Nat.le_refl _ | exact Below.size (by assumption) | (simp; done) | (simp; omega) | omega) _ | refine Below.setCell ?_ (by first | exact Nat.le_refl _ | (simp; done) | (simp; omega) | omega) _)
        · go_enter Tryz.func97, Tryz.ntmps97
          go_wp2
          go_ret
          exact Grew.intro rfl (by repeat first | exact Below.refl _ _ | assumption | refine drewN_below ?_ _ | refine Below.alloc ?_ (by first | exact Nat.le_refl _ | exact Below.size (by assumption) | (simp; done) | (simp; omega) | omega) _ | refine Below.setCell ?_ (by first | exact Nat.le_refl _ | (simp; done) | (simp; omega) | omega) _)
      · have h3' : (((b % 2 : Nat) : Int) == 1) = true := by simp at h3; simp; omega
        have L := Lib.hid (fun W => Len64_any b W hb)
        by_cases h6 : h ≤ 64
        · have e1 : mayW h b = decide ((bl b : Int) ≤ h) := by
            unfold mayW; rw [if_neg h1, show min h 64 = h by omega]; simp [h2, h3]
          rw [e1]
          clear e1 h3
          generalize bl b = n at *
          generalize b % 2 = r at *
          go_enter Tryz.func97, Tryz.ntmps97
          go_wp2_with (go_at_call 98; refine (L.out _).mono ?_; rintro e w' ⟨rfl, rfl⟩)
          go_ret
          exact Grew.intro (eB (decide_eq_decide.2 (by omega))) (by repeat first | exact Below.refl _ _ | assumption | refine drewN_below ?_ _ | refine Below.alloc ?_ (by first | exact Nat.le_refl _ | exact Below.size (by assumption) | (simp; done) | (simp; omega) | omega) _ | refine Below.setCell ?_ (by first | exact Nat.le_refl _ | (simp; done) | (simp; omega) | omega) _)
        · have e1 : mayW h b = decide ((bl b : Int) ≤ 64) := by
            unfold mayW; rw [if_neg h1, show min h 64 = 64 by omega]; simp [h2, h3]
          rw [e1]
          clear e1 h3
          generalize bl b = n at *
          generalize b % 2 = r at *
          go_enter Tryz.func97, Tryz.ntmps97
          go_wp2_with (go_at_call 98; refine (L.out _).mono ?_; rintro e w' ⟨rfl, rfl⟩)
          go_ret
          exact Grew.intro (eB (decide_eq_decide.2 (by omega))) (by repeat first | exact Below.refl _ _ | assumption | refine drewN_below ?_ _ | refine Below.alloc ?_ (by first | exact Nat.le_refl _ | exact Below.size (by assumption) | (simp; done) | (simp; omega) | omega) _ | refine Below.setCell ?_ (by first | exact Nat.le_refl _ | (simp; done) | (simp; omega) | omega) _)
    · have e1 : mayW h b = false := by simp [mayW, h1, h2]
      rw [e1]
      have h6 : ¬ h ≤ 64 := by omega
      clear e1
      go_enter Tryz.func97, Tryz.ntmps97
      go_wp2
      go_ret
      exact Grew.intro rfl (by repeat first | exact Below.refl _ _ | assumption | refine drewN_below ?_ _ | refine Below.alloc ?_ (by first | exact Nat.le_refl _ | exact Below.size (by assumption) | (simp; done) | (simp; omega) | omega) _ | refine Below.setCell ?_ (by first | exact Nat.le_refl _ | (simp; done) | (simp; omega) | omega) _)

/-- what is answered for a number -/
def judgeE (h : Int) (b : Nat) (id : Int) : Int :=
  if mayW h b = false then 5 else if inB id 1 1048575 = false then 2 else if 64 ≤ h - id then 13 else if 0 ≤ h - id ∧ b.testBit (h - id).toNat = true then 14 else 0
theorem mayW_bd {h : Int} {b : Nat} (hm : mayW h b = true) : 0 ≤ h ∧ h ≤ 1048575 ∧ (h = 0 → b = 0) := by
  unfold mayW at hm
  split at hm
  · simp at hm; omega
  · simp at hm; omega
theorem shr_bit (b k : Nat) : b / 2 ^ k % 2 = if b.testBit k then 1 else 0 := by
  rw [Nat.testBit_eq_decide_div_mod_eq]
  by_cases h : b / 2 ^ k % 2 = 1
  · simp [h]
  · simp [h]; omega

theorem shr_and {b : Nat} (n : Nat) (hb : b < 18446744073709551616) : bits .and .u64 ((b : Int) / 2 ^ n) 1 = if b.testBit n then 1 else 0 := by
  have e : (b : Int) / 2 ^ n = ((b / 2 ^ n : Nat) : Int) := by
    rw [Int.natCast_ediv, Int.natCast_pow]; rfl
  rw [e, and1 _ (Nat.lt_of_le_of_lt (Nat.div_le_self _ _) hb), shr_bit]
  split <;> rfl

set_option maxHeartbeats 1000000 in
theorem Judge_any (h : Int) (b : Nat) (id : Int) (w : World) (hb : b < 18446744073709551616) : Calls Tryz.prog 101 #[WinV h b, I id] w (Grew (I (judgeE h b id)) w) := by
  have M := Lib.hid (fun W => may_any h b W hb)
  cases hm : mayW h b
  · have e1 : judgeE h b id = 5 := by simp [judgeE, hm]
    rw [e1]
    rw [hm] at M
    clear e1 hm
    go_enter Tryz.func101, Tryz.ntmps101
    go_wp2_with fail
    refine (M.out _).mono ?_
    rintro e w1 ⟨rfl, k1⟩
    have k := below_box k1
    clear k1
    go_wp2
    go_ret
    exact Grew.intro rfl k
  · obtain ⟨b0, b1, hz⟩ := mayW_bd hm
    rw [hm] at M
    have k0 := boxed_below w (.cells #[I h, .int .u64 b] 38)
    by_cases h1 : id < 1 ∨ 1048575 < id
    · have e1 : judgeE h b id = 2 := by
        have : inB id 1 1048575 = false := by rw [← Bool.not_eq_true, inB_true]; omega
        simp [judgeE, hm, this]
      rw [e1]
      clear e1 hm hz
      by_cases h2 : id < 1
      · go_enter Tryz.func101, Tryz.ntmps101
        go_wp2_with fail
        refine (M.out _).mono ?_
        rintro e w1 ⟨rfl, k1⟩
        obtain ⟨hc, _⟩ := bcell k1
        have k := below_box k1
        go_wp2
        go_ret
        exact Grew.intro rfl k
      · have h3 : 1048575 < id := by omega
        clear h1
        go_enter Tryz.func101, Tryz.ntmps101
        go_wp2_with fail
        refine (M.out _).mono ?_
        rintro e w1 ⟨rfl, k1⟩
        obtain ⟨hc, _⟩ := bcell k1
        have k := below_box k1
        go_wp2
        go_ret
        exact Grew.intro rfl k
    · have e0 : inB id 1 1048575 = true := by rw [inB_true]; omega
      have i0 : ¬ id < 1 := by omega
      have i1 : ¬ 1048575 < id := by omega
      by_cases h2 : 64 ≤ h - id
      · have e1 : judgeE h b id = 13 := by simp [judgeE, hm, e0, h2]
        rw [e1]
        clear e1 hm hz e0 h1
        go_enter Tryz.func101, Tryz.ntmps101
        go_wp2_with fail
        refine (M.out _).mono ?_
        rintro e w1 ⟨rfl, k1⟩
        obtain ⟨hc, _⟩ := bcell k1
        have k := below_box k1
        go_wp2
        go_ret
        exact Grew.intro rfl k
      · by_cases h3 : 0 ≤ h - id
        · obtain ⟨n, hn⟩ := Int.eq_ofNat_of_zero_le h3
          have e1 : judgeE h b id = if b.testBit n then 14 else 0 := by
            simp only [judgeE, hm, e0]; rw [hn]; simp; omega
          have hs := shr_and n hb
          have hn64 : n < 64 := by omega
          cases ht : b.testBit n
          · rw [ht] at hs e1
            simp only [Bool.false_eq_true, if_false] at hs e1
            rw [e1]
            clear e1 hm hz e0 h1 ht
            go_enter Tryz.func101, Tryz.ntmps101
            go_wp2_with fail
            refine (M.out _).mono ?_
            rintro e w1 ⟨rfl, k1⟩
            obtain ⟨hc, _⟩ := bcell k1
            have k := below_box k1
            go_wp2
            go_ret
            exact Grew.intro rfl k
          · rw [ht] at hs e1
            simp only [if_true] at hs e1
            rw [e1]
            clear e1 hm hz e0 h1 ht
            go_enter Tryz.func101, Tryz.ntmps101
            go_wp2_with fail
            refine (M.out _).mono ?_
            rintro e w1 ⟨rfl, k1⟩
            obtain ⟨hc, _⟩ := bcell k1
            have k := below_box k1
            go_wp2
            go_ret
            exact Grew.intro rfl k
        · have e1 : judgeE h b id = 0 := by
            have : ¬ (0 ≤ h - id ∧ b.testBit (h - id).toNat = true) := fun hh => h3 hh.1
            simp only [judgeE, hm, e0, if_neg this]; simp; omega
          rw [e1]
          clear e1 hm hz e0 h1
          go_enter Tryz.func101, Tryz.ntmps101
          go_wp2_with fail
          refine (M.out _).mono ?_
          rintro e w1 ⟨rfl, k1⟩
          obtain ⟨hc, _⟩ := bcell k1
          have k := below_box k1
          go_wp2
          go_ret
          exact Grew.intro rfl k

/-! the reference -/
set_option maxHeartbeats 1000000 in
theorem bitAt_any (b k : Nat) (w : World) (hb : b < 18446744073709551616) (hk : k ≤ 1000) : Calls Tryz.prog 113 #[.int .u64 b, I k] w (Pure (.bool (b.testBit k)) w) := by
  go_enter Tryz.func113, Tryz.ntmps113
  go_wp2
  go_loop [0, 5] (fun x i => ∃ j : Nat, j ≤ k ∧ i = I j ∧ x = .int .u64 ((b / 2 ^ j : Nat) : Int)) (fun _ i => k - (intOf i).toNat)
  case atStart => exact ⟨0, Nat.zero_le _, rfl, by simp⟩
  case round =>
    obtain ⟨j, hj, rfl, rfl⟩ := hrel
    have hs := Lib.hid (show b / 2 ^ (j + 1) = b / 2 ^ j / 2 by rw [Nat.pow_succ, Nat.div_div_eq_div_mul])
    have hlt64 : b / 2 ^ j < 18446744073709551616 := Nat.lt_of_le_of_lt (Nat.div_le_self _ _) hb
    have ht := Lib.hid (shr_bit b j)
    generalize b / 2 ^ j = x at *
    by_cases hlt : j < k
    · go_wp2
      exact ⟨⟨j + 1, by omega, by go_num, by rw [hs.out]; go_num⟩, by simp [intOf]; omega⟩
    · have hjk : j = k := by omega
      subst hjk
      go_wp2
      go_ret
      refine Pure.intro (eB ?_)
      have := ht.out
      cases hb2 : b.testBit j
      · rw [hb2] at this; simp at this; simp; omega
      · rw [hb2] at this; simp at this; simp; omega
end Go.Proofs.YtmciccnmpoijdaaGreatDoor
namespace Go.Proofs.YtmciccnmpoijdaaGreatDoor
open Go.RowKit
set_option maxRecDepth 20000
theorem infoInt : (Tryz.prog.info? 3).map (fun i => (i.zero, i.size, i.bytes)) = some (some (.int .i64 0), 1, 8) := by kernel_rfl

def LRel (W : World) (L : List Int) (v : Value) (wr : World) : Prop := wr.ownsRow W.heap.size 3 1 v L.length (L.map I) ∧ Below W.heap.size W wr
theorem LRel.push {W : World} {L : List Int} {x : Int} {v : Value} {wr : World} (h : wr.ownsRow W.heap.size 3 1 v (L.length + 1) (L.map I ++ [I x])) (hb : Below W.heap.size W wr) : Hid (LRel W (L ++ [x]) v wr) :=
  ⟨by rw [List.length_append, List.map_append]; exact h, hb⟩

set_option maxHeartbeats 1000000 in
theorem members_own (h : Int) (b : Nat) (w : World) (hb : b < 18446744073709551616) (h0 : 0 ≤ h) (h1 : h ≤ 1048575) : Calls Tryz.prog 87 #[WinV h b] w (GrewOw 3 1 (memb h b 64).length ((memb h b 64).map I) w) := by
  obtain ⟨i0, hi, hz0, hz1, hz2⟩ := info_parts infoInt
  have B := Lib.hid (fun k W (hk : k ≤ 1000) => bitAt_any b k W hb hk)
  have k0 := boxed_below w (.cells #[I h, .int .u64 b] 38)
  go_enter Tryz.func87, Tryz.ntmps87
  go_wp2
  have hq0 : (w.alloc (.cells #[I h, .int .u64 b] 38)).heap.size = w.heap.size + 1 := by simp
  have c0 : (w.alloc (.cells #[I h, .int .u64 b] 38)).cell? ⟨w.heap.size, 0, none⟩ = some (I h) := by simp
  have c1 : (w.alloc (.cells #[I h, .int .u64 b] 38)).cell? ⟨w.heap.size, 1, none⟩ = some (.int .u64 b) := by simp
  generalize w.alloc (.cells #[I h, .int .u64 b] 38) = W at *
  have hltw : w.heap.size < W.heap.size := by omega
  clear hq0
  go_loopw [3, 4] (fun v i wr => ∃ (n : Nat) (L : List Int), n ≤ 64 ∧ L.length ≤ 64 ∧ i = I ((n : Int) - 1) ∧ Hid (L ++ memb h b n = memb h b 64) ∧ Hid (LRel W L v wr)) (fun _ i _ => (intOf i + 1).toNat)
  case atStart => exact ⟨64, [], by omega, by simp, rfl, rfl, World.ownsRow_nil _ _ _ _, Below.refl _ _⟩
  case round =>
    obtain ⟨n, L, hn, hL, rfl, hM, hD⟩ := hrel
    obtain ⟨hown, hbw⟩ := hD.out
    have hsz := hbw.size
    have e0 := (hbw.cell (p := ⟨w.heap.size, 0, none⟩) hltw).trans c0
    have e1 := (hbw.cell (p := ⟨w.heap.size, 1, none⟩) hltw).trans c1
    cases n with
    | zero =>
      have hfin : L = memb h b 64 := by simpa [memb] using hM.out
      subst hfin
      have hS := owns_mono hown (b' := w.heap.size) (by omega)
      clear hM hown c0 c1
      go_wp2
      go_ret
      exact ⟨_, rfl, hS, k0.trans (hbw.mono k0.size)⟩
    | succ m =>
      rw [show (((m + 1 : Nat) : Int) - 1) = (m : Int) by omega]
      clear c0 c1
      have hm : m ≤ 1000 := by omega
      cases ht : b.testBit m
      · have hM' : Hid (L ++ memb h b m = memb h b 64) := by
          have := hM.out; rw [memb_no ht] at this; exact this
        clear hM hown
        go_wp2_with (go_at_call 113; refine (B.out _ _ hm).mono ?_; rintro e w' ⟨rfl, rfl⟩; rw [ht])
        exact ⟨⟨m, L, by omega, hL, eI (by omega), hM', hD⟩, by simp [intOf]; try omega⟩
      · have hM' : Hid ((L ++ [h - m]) ++ memb h b m = memb h b 64) := by
          have := hM.out; rw [memb_yes ht] at this; rw [List.append_assoc]; exact this
        have hL' : L.length < 64 := by
          have := congrArg List.length hM'.out
          have := memb_len h b 64
          simp at *; omega
        clear hM
        go_wp2_with (first | (go_at_call 113; refine (B.out _ _ hm).mono ?_; rintro e w' ⟨rfl, rfl⟩; rw [ht]) | (at_builtin; refine wpList_append_own _ rfl _ _ 113 rfl W.heap.size 3 i0 (.int .i64 0) 1 8 Tryz.underlying113 hi hz0 hz1 hz2 rfl (by decide) _ _ _ rfl (hown.alloc _) ⟨wr.heap.size, 0, none⟩ 1 1 [I (h - m)] rfl rfl (news_lit _ [I (h - m)] _) (oneCells_lit rfl) (by unfold maxLen; omega) (by omega) (by simp; omega) ?_; intro v' w1 hown' hgrow _))
        have hbel := grown_below (hbw.alloc hsz _) (hown.alloc _) (Nat.le_refl _) hgrow
        have hD' := LRel.push hown' hbel
        clear hown hown' hgrow hbel hbw hD
        go_wp2
        exact ⟨⟨m, L ++ [h - m], by omega, by simp; omega, eI (by omega), hM', hD'⟩, by simp [intOf]; try omega⟩

theorem members_any (h : Int) (b : Nat) (w : World) (hb : b < 18446744073709551616) (h0 : 0 ≤ h) (h1 : h ≤ 1048575) : Calls Tryz.prog 87 #[WinV h b] w (GrewSl 1 (memb h b 64).length ((memb h b 64).map I) w) :=
  (members_own h b w hb h0 h1).mono fun _ _ ⟨v, he, ho, hk⟩ => ⟨v, he, Sl.of_owns ho (by have := memb_len h b 64; omega), hk⟩
theorem wrap_pow {t : Nat} (ht : t < 64) : IntKind.u64.wrap (2 ^ t) = ((2 ^ t : Nat) : Int) := by
  have hp : 2 ^ t < 2 ^ 64 := Nat.pow_lt_pow_right (by decide) ht
  have e : (2 : Int) ^ t = ((2 ^ t : Nat) : Int) := by rw [Int.natCast_pow]; rfl
  rw [e]
  generalize 2 ^ t = x at *
  show (x : Int) % 18446744073709551616 = _
  omega
theorem strike_op {c t : Nat} (hc : c < 18446744073709551616) (ht : t < 64) : bits .andNot .u64 (c : Int) (IntKind.u64.wrap (2 ^ t)) = ((strike c t : Nat) : Int) := by
  have hp : 2 ^ t < 2 ^ 64 := Nat.pow_lt_pow_right (by decide) ht
  rw [wrap_pow ht, u64_andNot_nat c (2 ^ t) hc (by omega)]
  rfl
def usedE (h : Int) (b : Nat) : Int := if mayW h b then 0 else 5
def usedL (h : Int) (b : Nat) : List Int := if mayW h b then memb h b 64 else []

set_option maxHeartbeats 1000000 in
theorem Used_any (h : Int) (b : Nat) (w : World) (hb : b < 18446744073709551616) : Calls Tryz.prog 66 #[WinV h b] w (GrewSl2 1 (usedL h b).length ((usedL h b).map I) (usedE h b) w) := by
  have M := Lib.hid (fun W => may_any h b W hb)
  have k0 := boxed_below w (.cells #[I h, .int .u64 b] 38)
  cases hm : mayW h b
  · have e1 : usedL h b = [] := by simp [usedL, hm]
    have e2 : usedE h b = 5 := by simp [usedE, hm]
    rw [e1, e2]
    rw [hm] at M
    clear e1 e2 hm
    go_enter Tryz.func66, Tryz.ntmps66
    go_wp2_with fail
    refine (M.out _).mono ?_
    rintro e w1 ⟨rfl, k1⟩
    have k := below_box k1
    clear k1
    go_wp2
    go_ret2
    exact ⟨_, rfl, Sl.nil _ _, k⟩
  · have e1 : usedL h b = memb h b 64 := by simp [usedL, hm]
    have e2 : usedE h b = 0 := by simp [usedE, hm]
    obtain ⟨b0, b1, hz⟩ := mayW_bd hm
    obtain ⟨i0, hi, hz0, hz1, hz2⟩ := info_parts infoInt
    rw [e1, e2]
    rw [hm] at M
    clear e1 e2 hm hz
    go_enter Tryz.func66, Tryz.ntmps66
    go_wp2_with fail
    refine (M.out _).mono ?_
    rintro e W ⟨rfl, k1⟩
    have kW := below_box k1
    have c0 := (k1.cell (p := ⟨w.heap.size, 0, none⟩) (by simp)).trans (show _ = some (I h) by simp)
    have c1 := (k1.cell (p := ⟨w.heap.size, 1, none⟩) (by simp)).trans (show _ = some (.int .u64 b) by simp)
    have hltw : w.heap.size < W.heap.size := by have := k1.size; simp at this; omega
    clear k1 k0
    go_wp2
    go_loopw [4, 5] (fun v x wr => ∃ (c : Nat) (L : List Int), c < 18446744073709551616 ∧ L.length ≤ 64 ∧ x = .int .u64 c ∧ Hid (L ++ memb h c 64 = memb h b 64) ∧ Hid (LRel W L v wr)) (fun _ x _ => (intOf x).toNat)
    case atStart => exact ⟨b, [], hb, by simp, rfl, rfl, World.ownsRow_nil _ _ _ _, Below.refl _ _⟩
    case round =>
      obtain ⟨c, L, hc, hL, rfl, hM, hD⟩ := hrel
      obtain ⟨hown, hbw⟩ := hD.out
      have hsz := hbw.size
      have e0 := (hbw.cell (p := ⟨w.heap.size, 0, none⟩) hltw).trans c0
      have e1 := (hbw.cell (p := ⟨w.heap.size, 1, none⟩) hltw).trans c1
      clear c0 c1
      by_cases hc0 : c = 0
      · subst hc0
        have hS := Sl.of_owns hown (by omega)
        have hfin : L = memb h b 64 := by
          have h00 : memb h 0 64 = [] := by
            exact memb_cut (high := h) (b := 0) (m := 0) (by decide) 64
          have := hM.out; rw [h00, List.append_nil] at this; exact this
        subst hfin
        clear hM hown
        go_wp2
        go_ret2
        exact ⟨_, rfl, hS, kW.trans (hbw.mono kW.size)⟩
      · obtain ⟨t1, t2, t3, t4⟩ := bl_bd hc hc0
        have hless := Lib.hid (strike_less hc hc0)
        have hslt := strike_lt (n := bl c - 1) hc
        have hT := memb_top h hc hc0
        have N := Lib.hid (fun W => Len64_any c W hc)
        obtain ⟨t, ht⟩ : ∃ t, bl c = t + 1 := ⟨bl c - 1, by omega⟩
        rw [ht] at hless hT N hslt t3 t4
        rw [Nat.add_sub_cancel] at hless hT hslt t3
        have ht64 : t < 64 := by omega
        have hM' : Hid ((L ++ [h - t]) ++ memb h (strike c t) 64 = memb h b 64) := by
          have := hM.out; rw [hT] at this; rw [List.append_assoc]; exact this
        have hL' : L.length < 64 := by
          have := congrArg List.length hM'.out
          have := memb_len h b 64
          simp at *; omega
        have hne : ((c : Int) != 0) = true := by simp; exact hc0
        clear hM hT ht t1 t2 t3 t4
        go_wp2_with (first | (go_at_call 98; refine (N.out _).mono ?_; rintro e w' ⟨rfl, rfl⟩) | (at_builtin; refine wpList_append_own _ rfl _ _ 113 rfl W.heap.size 3 i0 (.int .i64 0) 1 8 Tryz.underlying113 hi hz0 hz1 hz2 rfl (by decide) _ _ _ rfl (hown.alloc _) ⟨wr.heap.size, 0, none⟩ 1 1 [I (h - t)] rfl rfl (news_lit _ [I (h - t)] _) (oneCells_lit rfl) (by unfold maxLen; omega) (by omega) (by simp; omega) ?_; intro v' w1 hown' hgrow _))
        have hbel := grown_below (hbw.alloc hsz _) (hown.alloc _) (Nat.le_refl _) hgrow
        have hD' := LRel.push hown' hbel
        clear hown hown' hgrow hbel hbw hD
        have hA := Lib.hid (strike_op hc ht64)
        go_wp2
        rw [hA.out]
        exact ⟨⟨strike c t, L ++ [h - t], hslt, by simp; omega, rfl, hM', hD'⟩, by simp [intOf]; exact hless.out⟩
end Go.Proofs.YtmciccnmpoijdaaGreatDoor
