/- window.Used, ref.members and what leans on it -/
import Derived.Test.YtenoigmkhlnfoaaWindow
namespace Go.Proofs.Ytenoigmkhlnfoaa
set_option linter.unusedSimpArgs false
set_option linter.unusedVariables false
open Go.RowKit
set_option maxRecDepth 20000
theorem infoInt : (Try.prog.info? 3).map (fun i => (i.zero, i.size, i.bytes)) = some (some (.int .i64 0), 1, 8) := by kernel_rfl

def LRel (W : World) (L : List Int) (v : Value) (wr : World) : Prop := wr.ownsRow W.heap.size 3 1 v L.length (L.map I) ∧ Below W.heap.size W wr
theorem LRel.push {W : World} {L : List Int} {x : Int} {v : Value} {wr : World} (h : wr.ownsRow W.heap.size 3 1 v (L.length + 1) (L.map I ++ [I x])) (hb : Below W.heap.size W wr) : Hid (LRel W (L ++ [x]) v wr) :=
  ⟨by rw [List.length_append, List.map_append]; exact h, hb⟩

theorem wrap_pow {t : Nat} (ht : t < 64) : IntKind.u64.wrap (2 ^ t) = ((2 ^ t : Nat) : Int) := by
  have hp : 2 ^ t < 2 ^ 64 := Nat.pow_lt_pow_right (by decide) ht
  have e : (2 : Int) ^ t = ((2 ^ t : Nat) : Int) := by rw [Int.natCast_pow]; rfl
  rw [e]
  generalize 2 ^ t = x at *
  show (x : Int) % 18446744073709551616 = _
  omega
theorem strike_op {c t : Nat} (hc : c < 18446744073709551616) (ht : t < 64) : bits .andNot .u64 (c : Int) (IntKind.u64.wrap (2 ^ t)) = ((strike c t : Nat) : Int) := by
  have hp : 2 ^ t < 2 ^ 64 := Nat.pow_lt_pow_right (by decide) ht
  rw [wrap_pow ht, u64_andNot_nat c (2 ^ t) hc (by omega)]
  rfl
def usedE (h : Int) (b : Nat) : Int := if mayW h b then 0 else 5
def usedL (h : Int) (b : Nat) : List Int := if mayW h b then memb h b 64 else []

set_option maxHeartbeats 1000000 in
theorem Used_any (h : Int) (b : Nat) (w : World) (hb : b < 18446744073709551616) : Calls Try.prog 114 #[WinV h b] w (GrewSl2 1 (usedL h b).length ((usedL h b).map I) (usedE h b) w) := by
  have M := Lib.hid (fun W => wmay_any h b W hb)
  have k0 := boxed_below w (.cells #[I h, .int .u64 b] 130)
  cases hm : mayW h b
  · have e1 : usedL h b = [] := by simp [usedL, hm]
    have e2 : usedE h b = 5 := by simp [usedE, hm]
    rw [e1, e2]
    rw [hm] at M
    clear e1 e2 hm
    go_enter Try.func114, Try.ntmps114
    go_wp2_with fail
    refine (M.out _).mono ?_
    rintro e w1 ⟨rfl, k1⟩
    have k := below_box k1
    clear k1
    go_wp2
    go_ret2
    exact ⟨_, rfl, Sl.nil _ _, k⟩
  · have e1 : usedL h b = memb h b 64 := by simp [usedL, hm]
    have e2 : usedE h b = 0 := by simp [usedE, hm]
    obtain ⟨b0, b1, hz⟩ := mayW_bd hm
    obtain ⟨i0, hi, hz0, hz1, hz2⟩ := info_parts infoInt
    rw [e1, e2]
    rw [hm] at M
    clear e1 e2 hm hz
    go_enter Try.func114, Try.ntmps114
    go_wp2_with fail
    refine (M.out _).mono ?_
    rintro e W ⟨rfl, k1⟩
    have kW := below_box k1
    have c0 := (k1.cell (p := ⟨w.heap.size, 0, none⟩) (by simp)).trans (show _ = some (I h) by simp)
    have c1 := (k1.cell (p := ⟨w.heap.size, 1, none⟩) (by simp)).trans (show _ = some (.int .u64 b) by simp)
    have hltw : w.heap.size < W.heap.size := by have := k1.size; simp at this; omega
    clear k1 k0
    go_wp2
    go_loopw [4, 5] (fun v x wr => ∃ (c : Nat) (L : List Int), c < 18446744073709551616 ∧ L.length ≤ 64 ∧ x = .int .u64 c ∧ Hid (L ++ memb h c 64 = memb h b 64) ∧ Hid (LRel W L v wr)) (fun _ x _ => (intOf x).toNat)
    case atStart => exact ⟨b, [], hb, by simp, rfl, rfl, World.ownsRow_nil _ _ _ _, Below.refl _ _⟩
    case round =>
      obtain ⟨c, L, hc, hL, rfl, hM, hD⟩ := hrel
      obtain ⟨hown, hbw⟩ := hD.out
      have hsz := hbw.size
      have e0 := (hbw.cell (p := ⟨w.heap.size, 0, none⟩) hltw).trans c0
      have e1 := (hbw.cell (p := ⟨w.heap.size, 1, none⟩) hltw).trans c1
      clear c0 c1
      by_cases hc0 : c = 0
      · subst hc0
        have hS := Sl.of_owns hown (by omega)
        have hfin : L = memb h b 64 := by
          have h00 : memb h 0 64 = [] := by
            exact memb_cut (high := h) (b := 0) (m := 0) (by decide) 64
          have := hM.out; rw [h00, List.append_nil] at this; exact this
        subst hfin
        clear hM hown
        go_wp2
        go_ret2
        exact ⟨_, rfl, hS, kW.trans (hbw.mono kW.size)⟩
      · obtain ⟨t1, t2, t3, t4⟩ := bl_bd hc hc0
        have hless := Lib.hid (strike_less hc hc0)
        have hslt := strike_lt (n := bl c - 1) hc
        have hT := memb_top h hc hc0
        have N := Lib.hid (fun W => Len64_any c W hc)
        obtain ⟨t, ht⟩ : ∃ t, bl c = t + 1 := ⟨bl c - 1, by omega⟩
        rw [ht] at hless hT N hslt t3 t4
        rw [Nat.add_sub_cancel] at hless hT hslt t3
        have ht64 : t < 64 := by omega
        have hM' : Hid ((L ++ [h - t]) ++ memb h (strike c t) 64 = memb h b 64) := by
          have := hM.out; rw [hT] at this; rw [List.append_assoc]; exact this
        have hL' : L.length < 64 := by
          have := congrArg List.length hM'.out
          have := memb_len h b 64
          simp at *; omega
        have hne : ((c : Int) != 0) = true := by simp; exact hc0
        clear hM hT ht t1 t2 t3 t4
        go_wp2_with (first | (go_at_call 124; refine (N.out _).mono ?_; rintro e w' ⟨rfl, rfl⟩) | (at_builtin; refine wpList_append_own _ rfl _ _ 172 rfl W.heap.size 3 i0 (.int .i64 0) 1 8 Try.underlying172 hi hz0 hz1 hz2 rfl (by decide) _ _ _ rfl (hown.alloc _) ⟨wr.heap.size, 0, none⟩ 1 1 [I (h - t)] rfl rfl (news_lit _ [I (h - t)] _) (oneCells_lit rfl) (by unfold maxLen; omega) (by omega) (by simp; omega) ?_; intro v' w1 hown' hgrow _))
        have hbel := grown_below (hbw.alloc hsz _) (hown.alloc _) (Nat.le_refl _) hgrow
        have hD' := LRel.push hown' hbel
        clear hown hown' hgrow hbel hbw hD
        have hA := Lib.hid (strike_op hc ht64)
        go_wp2
        rw [hA.out]
        exact ⟨⟨strike c t, L ++ [h - t], hslt, by simp; omega, rfl, hM', hD'⟩, by simp [intOf]; exact hless.out⟩
end Go.Proofs.Ytenoigmkhlnfoaa
