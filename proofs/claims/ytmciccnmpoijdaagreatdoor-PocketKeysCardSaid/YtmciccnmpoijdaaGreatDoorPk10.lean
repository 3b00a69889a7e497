/- oracles: a copy; two that are the same · windows: the plain laws -/
import Derived.Test.YtmciccnmpoijdaaGreatDoorApi
import Derived.Test.YtmciccnmpoijdaaGreatDoorElems
import Derived.Test.YtmciccnmpoijdaaGreatDoorPk06
import Derived.Test.YtmciccnmpoijdaaGreatDoorPk09
import Derived.Test.YtmciccnmpoijdaaGreatDoorPk04
import Derived.Lib.ItoaNum
namespace Go.Proofs.YtmciccnmpoijdaaGreatDoor
open Go Go.RowKit
set_option maxRecDepth 20000

theorem infoPair : (Tryz.prog.info? 55).map (fun i => (i.zero, i.size, i.bytes)) = some (some (.agg #[.int .i64 0, .int .i64 0, .int .i64 0, .int .i64 0]), 4, 32) := by kernel_rfl
theorem pairs_one : ∀ ys : List APair, oneCells (ys.flatMap APair.cells) := fun ys => oneCells_flat (fun x u hu => by simp only [APair.cells, List.mem_cons, List.not_mem_nil, or_false] at hu; rcases hu with rfl | rfl | rfl | rfl <;> rfl) ys
def FarQ (B : Nat) (v : Value) : Prop := ∀ z, z < B → Far z v
theorem FarQ.of_owns {w : World} {base e sz n : Nat} {v : Value} {cs : List Value} (h : w.ownsRow base e sz v n cs) : FarQ base v := by
  intro z hz a n' c e
  obtain ⟨_, h⟩ := h
  rcases h with ⟨rfl, _⟩ | ⟨g, cap, cur, rfl, hb, _⟩
  · cases e
  · cases e; show g ≠ z; omega
def GrewOr (ps : List APair) (w : World) (e : Ending) (w' : World) : Prop := ∃ v, e = .returned (.agg #[v]) ∧ Sl w' v 4 ps.length (ps.flatMap APair.cells) ∧ Below w.heap.size w w'
set_option maxHeartbeats 2000000 in
theorem oracles_any (v : Value) (ps : List APair) (w : World) (h : Sl w v 4 ps.length (ps.flatMap APair.cells)) (hby : ps.length * 32 ≤ 140737488355328) :
    Calls Tryz.prog 5 #[.agg #[v]] w (GrewOr ps w) := by
  obtain ⟨i0, hi, hz0, hz1, hz2⟩ := info_parts infoPair
  have hS := h
  obtain ⟨a, cap, rfl, hn, hl, h0, h⟩ := h
  have kb := boxed_below w (.cells #[.slice a ps.length cap] 25)
  have kB := kb.alloc kb.size (.cells #[.slice none 0 0] 25)
  have oz := Own.new (w := w.alloc (.cells #[.slice a ps.length cap] 25)) (g := w.heap.size + 1) (by simp) [.slice none 0 0] 25
  cases a with
  | none =>
    obtain ⟨hn0, rfl⟩ := h0 rfl
    obtain rfl : ps = [] := List.length_eq_zero_iff.1 hn0
    clear h hS h0 hl kb oz
    go_enter Tryz.func5, Tryz.ntmps5
    go_wp2_with fail
    exact bodyPost_ret (v := .agg #[.slice none 0 0]) (by simp [results, Tryz.results5, go_sem]) rfl (⟨_, rfl, Sl.nil _ _, (by repeat first | exact Below.refl _ _ | assumption | refine drewN_below ?_ _ | refine Below.alloc ?_ (by first | exact Nat.le_refl _ | exact Below.size (by assumption) | (simp; done) | (simp; omega) | omega) _ | refine Below.setCell ?_ (by first | exact Nat.le_refl _ | (simp; done) | (simp; omega) | omega) _)⟩)
  | some ad =>
    have hnews := Lib.hid (hS.below kB).news
    have hone := Lib.hid (pairs_one ps)
    have Hl := Lib.hid hl
    have c3 : 0 + ps.length ≤ maxLen := by unfold maxLen; omega
    have c4 := Lib.hid (show (0 + ps.length) * 32 ≤ 140737488355328 by omega)
    have hsB : w.heap.size ≤ ((w.alloc (.cells #[.slice (some ad) ps.length cap] 25)).alloc (.cells #[.slice none 0 0] 25)).heap.size := kB.size
    clear h h0 hl hby kb
    go_enter Tryz.func5, Tryz.ntmps5
    go_wp2_with
      (at_builtin
       refine wpList_append_own _ rfl _ _ 23 rfl (w.heap.size + 2) 55 i0 (.agg #[.int .i64 0, .int .i64 0, .int .i64 0, .int .i64 0]) 4 32 Tryz.underlying23 hi hz0 hz1 hz2 rfl (by decide) _ 0 [] rfl (World.ownsRow_nil _ _ _ _) ad _ _ (ps.flatMap APair.cells) rfl Hl.out hnews.out hone.out c3 c4.out (by simp) ?_
       intro v' w1 hown' hgrow _
       have hbel := kB.grown hgrow hsB (fun k hk => absurd (show (none : Option Nat) = some k from hk) (by simp))
       have oz1 := oz.grown hgrow (fun e => by cases e)
       rw [Nat.zero_add, List.nil_append] at hown'
       have hF := FarQ.of_owns hown'
       have hS1 := Sl.of_owns hown' hn.1
       clear hown' hgrow
       have zO := oz1
       have z0 := zO.cell 0 (by simp)
       have zf0 := zO.frozen 0
       simp only [Nat.zero_add, List.getD_cons_zero] at z0
       clear zO
       obtain ⟨a1, p1, rfl, -⟩ := id hS1
       have r1 := set_same
       clear oz1)
    have hfz : Far (w.heap.size + 1) (.slice a1 ps.length p1) := hF _ (by omega)
    exact bodyPost_ret (v := .agg #[.slice a1 ps.length p1]) (by simp [results, Tryz.results5, go_sem, *]; try omega) rfl (⟨_, rfl, hS1.set hfz _, (by repeat first | with_reducible assumption | with_reducible exact Below.refl _ _ | with_reducible refine Below.setCell ?_ (by first | exact Nat.le_refl _ | exact Below.size (by assumption) | (simp; done) | (simp; omega) | omega) _ | with_reducible refine Below.alloc ?_ (by first | exact Nat.le_refl _ | exact Below.size (by assumption) | (simp; done) | (simp; omega) | omega) _ | with_reducible refine drewN_below ?_ _ | with_reducible refine Below.drew ?_)⟩)
set_option maxRecDepth 200000 in
theorem neqPair_run (p : APair) (w : World) : (binOp .neq 55 (.agg #[I p.meter, I p.rev, I p.body, I p.tag]) (.agg #[I p.meter, I p.rev, I p.body, I p.tag])).run Tryz.prog w = .ok (.bool false) w := by
  have hp : Tryz.prog.stoodInHeld 55 = false := by kernel_rfl
  have ht : Tryz.prog.underlying 55 = some (.struct (Tryz.prog.fieldsOf 55)) := by kernel_rfl
  rw [run_neq_struct, run_equalIn_struct w 9999 55 _ _ ht hp]
  simp only [Program.fieldsOf, Tryz.underlying55]
  rw [eqF_int w (by decide) Tryz.underlying3 rfl rfl, eqF_int w (by decide) Tryz.underlying3 rfl rfl, eqF_int w (by decide) Tryz.underlying3 rfl rfl, eqF_int w (by decide) Tryz.underlying3 rfl rfl, eqF_nil]
  simp [Result.andThen]
set_option maxHeartbeats 2000000 in
theorem sameOracle_any (v1 v2 : Value) (ps : List APair) (w : World) (h1 : Sl w v1 4 ps.length (ps.flatMap APair.cells)) (h2 : Sl w v2 4 ps.length (ps.flatMap APair.cells)) :
    Calls Tryz.prog 10 #[.agg #[v1], .agg #[v2]] w (Grew (.bool true) w) := by
  obtain ⟨a1, c1, rfl, hn1, _, _, h1⟩ := h1
  obtain ⟨a2, c2, rfl, hn2, _, _, h2⟩ := h2
  have hm : Tryz.prog.eqGuardType Tryz.prog.depth 55 = false := by kernel_rfl
  have hne := neqPair_run
  have kb := boxed_below w (.cells #[.slice a1 ps.length c1] 25)
  have kB := kb.alloc kb.size (.cells #[.slice a2 ps.length c2] 25)
  have o1 := (Own.new (w := w) rfl [.slice a1 ps.length c1] 25).alloc (.cells #[.slice a2 ps.length c2] 25)
  have o2 := Own.new (w := w.alloc (.cells #[.slice a1 ps.length c1] 25)) (g := w.heap.size + 1) (by simp) [.slice a2 ps.length c2] 25
  have xO := o1
  have x0 := xO.cell 0 (by simp)
  have xf0 := xO.frozen 0
  simp only [Nat.zero_add, List.getD_cons_zero] at x0
  clear xO
  have yO := o2
  have y0 := yO.cell 0 (by simp)
  have yf0 := yO.frozen 0
  simp only [Nat.zero_add, List.getD_cons_zero] at y0
  clear yO
  go_enter Tryz.func10, Tryz.ntmps10
  go_wp2
  go_loopw [5] (fun i wr => ∃ k : Nat, k ≤ ps.length ∧ i = I k ∧ Hid (Own wr w.heap.size [.slice a1 ps.length c1]) ∧ Hid (Own wr (w.heap.size + 1) [.slice a2 ps.length c2]) ∧ Below w.heap.size w wr) (fun i _ => ps.length - (intOf i).toNat)
  case atStart => exact ⟨0, Nat.zero_le _, rfl, o1, o2, kB⟩
  case round =>
    obtain ⟨k, hk, rfl, hO1, hO2, hbw⟩ := hrel
    clear x0 xf0 y0 yf0 o1 o2 kb kB
    have xO := hO1.out
    have x0 := xO.cell 0 (by simp)
    have xf0 := xO.frozen 0
    simp only [Nat.zero_add, List.getD_cons_zero] at x0
    clear xO
    have yO := hO2.out
    have y0 := yO.cell 0 (by simp)
    have yf0 := yO.frozen 0
    simp only [Nat.zero_add, List.getD_cons_zero] at y0
    clear yO
    by_cases hlt : k < ps.length
    · obtain ⟨b1, f1, rfl, hb1, hc1⟩ := h1.resolve_left (by omega)
      obtain ⟨b2, f2, rfl, hb2, hc2⟩ := h2.resolve_left (by omega)
      obtain ⟨e0, e1, e2, e3⟩ := elPair hb1 hc1 hbw k hlt
      obtain ⟨g0, g1, g2, g3⟩ := elPair hb2 hc2 hbw k hlt
      have hi0 : (0 : Int) ≤ (k : Int) := by omega
      have hi1 : (k : Int) < (ps.length : Int) := by omega
      clear h1 h2 hc1 hc2
      generalize ps.getD k default = p at *
      have hq := hne p
      clear hne
      obtain ⟨p1, p2, p3, p4⟩ := p
      simp only at e0 e1 e2 e3 g0 g1 g2 g3 hq
      go_wp2
      go_quiet (fail)
      go_wp2
      exact ⟨⟨k + 1, by omega, by go_num, hO1, hO2, drewN_below hbw _⟩, by simp [intOf]; omega⟩
    · have hge : (ps.length : Int) ≤ (k : Int) := by omega
      go_wp2
      go_ret
      exact Grew.intro rfl hbw
end Go.Proofs.YtmciccnmpoijdaaGreatDoor
namespace Go.Proofs.YtmciccnmpoijdaaGreatDoor
open Go.RowKit
set_option maxRecDepth 20000

/-- the numbers that the lowest n bits tell, rising -/
def memb (high : Int) (b : Nat) : Nat → List Int
  | 0 => []
  | n + 1 => if b.testBit n then (high - n) :: memb high b n else memb high b n
theorem memb_yes {high : Int} {b n : Nat} (h : b.testBit n = true) : memb high b (n + 1) = (high - n) :: memb high b n := by simp [memb, h]
theorem memb_no {high : Int} {b n : Nat} (h : b.testBit n = false) : memb high b (n + 1) = memb high b n := by simp [memb, h]
theorem memb_congr {high : Int} {b c : Nat} : ∀ n, (∀ i, i < n → b.testBit i = c.testBit i) → memb high b n = memb high c n
  | 0, _ => rfl
  | n + 1, h => by
    simp only [memb]
    rw [h n (by omega), memb_congr n (fun i hi => h i (by omega))]
theorem memb_cut {high : Int} {b m : Nat} (hb : b < 2 ^ m) : ∀ d, memb high b (m + d) = memb high b m
  | 0 => rfl
  | d + 1 => by
    have : b.testBit (m + d) = false := Nat.testBit_lt_two_pow (Nat.lt_of_lt_of_le hb (Nat.pow_le_pow_right (by decide) (by omega)))
    rw [← Nat.add_assoc, memb_no this, memb_cut hb d]
theorem memb_len (high : Int) (b : Nat) : ∀ n, (memb high b n).length ≤ n
  | 0 => by simp [memb]
  | n + 1 => by
    have := memb_len high b n
    simp only [memb]; split <;> simp <;> omega
theorem memb_mem {high : Int} {b : Nat} {x : Int} : ∀ n, x ∈ memb high b n ↔ ∃ i, i < n ∧ b.testBit i = true ∧ x = high - i
  | 0 => by simp [memb]
  | n + 1 => by
    have ih := memb_mem (high := high) (b := b) (x := x) n
    constructor
    · intro h
      simp only [memb] at h
      split at h
      · rcases List.mem_cons.1 h with rfl | h
        · exact ⟨n, by omega, by assumption, rfl⟩
        · obtain ⟨i, h1, h2, h3⟩ := ih.1 h; exact ⟨i, by omega, h2, h3⟩
      · obtain ⟨i, h1, h2, h3⟩ := ih.1 h; exact ⟨i, by omega, h2, h3⟩
    · rintro ⟨i, h1, h2, h3⟩
      simp only [memb]
      by_cases hi : i = n
      · subst hi; rw [if_pos h2]; exact List.mem_cons.2 (.inl h3)
      · have := ih.2 ⟨i, by omega, h2, h3⟩
        split
        · exact List.mem_cons_of_mem _ this
        · exact this
/-- the length in bits -/
def bl (b : Nat) : Nat := Go.Lib.bitLen b
theorem bl_bd {b : Nat} (h : b < 2 ^ 64) (h0 : b ≠ 0) : 1 ≤ bl b ∧ bl b ≤ 64 ∧ 2 ^ (bl b - 1) ≤ b ∧ b < 2 ^ bl b := by
  unfold bl
  obtain ⟨h1, h2, h3⟩ := Go.Lib.bitLenAux_bounds 64 b h h0
  exact ⟨h1, Go.Lib.bitLen_le b 64 (by omega) h, h2, h3⟩
theorem bl_zero : bl 0 = 0 := by decide
theorem bit_top {b n : Nat} (h1 : 2 ^ n ≤ b) (h2 : b < 2 ^ (n + 1)) : b.testBit n = true := by
  rw [Nat.testBit_eq_decide_div_mod_eq, decide_eq_true_eq]
  have : b / 2 ^ n = 1 := by
    rw [Nat.div_eq_iff (Nat.two_pow_pos n)]
    rw [Nat.pow_succ] at h2
    omega
  rw [this]
/-- a bit struck -/
def strike (b n : Nat) : Nat := b &&& (18446744073709551615 - 2 ^ n)
theorem strike_bit {b n i : Nat} (hn : n < 64) (hb : b < 2 ^ 64) : (strike b n).testBit i = (b.testBit i && !decide (i = n)) := by
  unfold strike
  have hp : 2 ^ n < 2 ^ 64 := Nat.pow_lt_pow_right (by decide) hn
  rw [Nat.testBit_and, show 18446744073709551615 - 2 ^ n = 2 ^ 64 - (2 ^ n + 1) by omega, Nat.testBit_two_pow_sub_succ hp]
  by_cases hi : i < 64
  · simp only [hi, decide_true, Bool.true_and, Nat.testBit_two_pow]
    congr 1
    simp [eq_comm]
  · have : b.testBit i = false := Nat.testBit_lt_two_pow (Nat.lt_of_lt_of_le hb (Nat.pow_le_pow_right (by decide) (by omega)))
    simp [this]
theorem strike_lt {b n : Nat} (hb : b < 2 ^ 64) : strike b n < 2 ^ 64 := Nat.lt_of_le_of_lt Nat.and_le_left hb
/-- the highest number first -/
theorem memb_top (high : Int) {b : Nat} (hb : b < 2 ^ 64) (h0 : b ≠ 0) : memb high b 64 = (high - ((bl b - 1 : Nat) : Int)) :: memb high (strike b (bl b - 1)) 64 := by
  obtain ⟨h1, h2, h3, h4⟩ := bl_bd hb h0
  generalize bl b = n at *
  obtain ⟨m, rfl⟩ : ∃ m, n = m + 1 := ⟨n - 1, by omega⟩
  rw [Nat.add_sub_cancel] at *
  have e1 : memb high b 64 = memb high b (m + 1) := by
    rw [show (64 : Nat) = m + 1 + (63 - m) by omega]; exact memb_cut h4 _
  have hs : strike b m < 2 ^ m := by
    apply Nat.lt_pow_two_of_testBit
    intro j hj
    rw [strike_bit (by omega) hb]
    by_cases hjm : j = m
    · simp [hjm]
    · have : b.testBit j = false := Nat.testBit_lt_two_pow (Nat.lt_of_lt_of_le h4 (Nat.pow_le_pow_right (by decide) (by omega)))
      rw [this]; rfl
  have e2 : memb high (strike b m) 64 = memb high (strike b m) m := by
    rw [show (64 : Nat) = m + (64 - m) by omega]; exact memb_cut hs _
  rw [e1, e2, memb_yes (bit_top h3 h4)]
  congr 1
  exact memb_congr m (fun i hi => by rw [strike_bit (by omega) hb]; simp; omega)
theorem strike_less {b : Nat} (hb : b < 2 ^ 64) (h0 : b ≠ 0) : strike b (bl b - 1) < b := by
  have h := memb_top 0 hb h0
  refine Nat.lt_of_le_of_ne (by unfold strike; exact Nat.and_le_left) (fun he => ?_)
  rw [he] at h
  have := congrArg List.length h
  simp at this

/-- may a window be? -/
def mayW (high : Int) (b : Nat) : Bool := if high < 1 then high == 0 && b == 0 else decide (high ≤ 1048575) && (b % 2 == 1 && decide ((bl b : Int) ≤ min high 64))
theorem memb_head (high : Int) {b : Nat} (hb : b < 2 ^ 64) (h0 : b ≠ 0) : (memb high b 64).getD 0 0 = high - ((bl b - 1 : Nat) : Int) := by rw [memb_top high hb h0]; rfl
theorem memb_last (high : Int) (b : Nat) : ∀ n, (memb high b n) ≠ [] → ((memb high b n).getLastD 0 = high ↔ b % 2 = 1)
  | 0, h => by simp [memb] at h
  | 1, h => by
    simp only [memb] at h ⊢
    cases hb : b.testBit 0
    · rw [hb] at h; simp at h
    · simp only [if_true]
      have : b % 2 = 1 := by simpa [Nat.testBit_zero] using hb
      simp [this]
  | n + 2, h => by
    have ih := memb_last high b (n + 1)
    rw [memb] at h ⊢
    cases hb : b.testBit (n + 1)
    · rw [hb] at h
      simp only [Bool.false_eq_true, if_false] at h ⊢
      exact ih h
    · simp only [if_true]
      by_cases he : memb high b (n + 1) = []
      · rw [he]
        have h0 : b.testBit 0 = false := by
          cases h0 : b.testBit 0
          · rfl
          · have : high - (0 : Nat) ∈ memb high b (n + 1) := (memb_mem _).2 ⟨0, by omega, h0, rfl⟩
            rw [he] at this; simp at this
        have : ¬ b % 2 = 1 := by
          intro h1
          have : b.testBit 0 = true := by simp [Nat.testBit_zero, h1]
          rw [h0] at this; cases this
        simp only [this, iff_false]
        simp; omega
      · have := ih he
        rw [← this]
        obtain ⟨y, ys, hy⟩ := List.exists_cons_of_ne_nil he
        rw [hy]; simp [List.getLastD]
end Go.Proofs.YtmciccnmpoijdaaGreatDoor
