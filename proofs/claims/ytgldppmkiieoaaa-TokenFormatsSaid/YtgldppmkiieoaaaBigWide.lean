/- ref.big96 and ref.wide96 -/
import Derived.Test.YtgldppmkiieoaaaBigQuo
namespace Go.Proofs.Ytgldppmkiieoaaa
open Go.RowKit
set_option maxRecDepth 20000

/-- a number in new memory -/
def GrewBN (n : Nat) (w : World) (e : Ending) (w' : World) : Prop := ∃ z, e = .returned (.pointer (some ⟨z, 0, none⟩)) ∧ BN w' z n ∧ w.heap.size ≤ z ∧ Below w.heap.size w w'
theorem NewInt_nat (n : Nat) (w : World) (h : n ≤ 9223372036854775807) : Calls Try.prog 41 #[I n] w (GrewBN n w) :=
  (NewInt_any n w (by omega) (by omega)).mono fun e w' ⟨z, he, ⟨v, h1, h2⟩, h3, h4⟩ => by
    have : decide (((n : Nat) : Int) < 0) = false := by simp
    rw [this] at h1
    exact ⟨z, he, ⟨v, h1, by simpa using h2⟩, h3, h4⟩

abbrev wideV (a b c : Nat) : Value := .agg #[.int .u32 a, .int .u32 b, .int .u32 c]
theorem val3 (a b c : Nat) : val [a, b, c] = a + 4294967296 * (b + 4294967296 * c) := by simp [val]
theorem val3_lt {a b c : Nat} (ha : a < 4294967296) (hb : b < 4294967296) (hc : c < 4294967296) : val [a, b, c] < 79228162514264337593543950336 := by rw [val3]; omega

def BigRel (W : World) (a b c z k : Nat) (wr : World) : Prop :=
  BN wr z (val ([a, b, c].drop k)) ∧ Own wr W.heap.size [U32 a, U32 b, U32 c] ∧ Below W.heap.size W wr
set_option maxHeartbeats 2000000 in
theorem big96_any (a b c : Nat) (w : World) (ha : a < 4294967296) (hb : b < 4294967296) (hc : c < 4294967296) : Calls Try.prog 39 #[wideV a b c] w (GrewBN (val [a, b, c]) w) := by
  have k0 := boxed_below w (.cells #[U32 a, U32 b, U32 c] 24)
  have o0 := Own.new (w := w) rfl [U32 a, U32 b, U32 c] 24
  have hd0 : BN ((w.alloc (.cells #[U32 a, U32 b, U32 c] 24)).alloc (.cells #[.bool false, .slice none 0 0] 64)) (w.alloc (.cells #[U32 a, U32 b, U32 c] 24)).heap.size 0 := ⟨_, zeroB _, [], Sl.nil _ _, rfl, by simp [allW], by simp⟩
  rw [World.size_alloc] at hd0
  have hR : Hid (BigRel w a b c (w.heap.size + 1) 3 ((w.alloc (.cells #[U32 a, U32 b, U32 c] 24)).alloc (.cells #[.bool false, .slice none 0 0] 64))) :=
    ⟨hd0, o0.alloc _, k0.alloc k0.size _⟩
  clear hd0 o0 k0
  have hlt : ∀ k : Nat, val ([a, b, c].drop k) < 79228162514264337593543950336 := fun k => by
    match k with
    | 0 => exact val3_lt ha hb hc
    | 1 => simp [val]; omega
    | 2 => simp [val]; omega
    | k + 3 => simp [val]
  have HL := Lib.hid hlt
  clear hlt
  go_enter Try.func39, Try.ntmps39
  go_wp2
  go_loopw [4] (fun i wr => ∃ k : Nat, k ≤ 3 ∧ i = I ((k : Int) - 1) ∧ Hid (BigRel w a b c (w.heap.size + 1) k wr)) (fun i _ => (intOf i + 1).toNat)
  case atStart => exact ⟨3, by decide, rfl, hR⟩
  case round =>
    clear hR
    obtain ⟨k, hk, rfl, hR⟩ := hrel
    obtain ⟨hB, hO, hbw⟩ := hR.out
    have hz := hB.lt
    cases k with
    | zero =>
      rw [List.drop_zero] at hB
      clear hO
      go_wp2
      go_ret
      exact ⟨_, rfl, hB, by omega, hbw⟩
    | succ k =>
      rw [show (((k + 1 : Nat) : Int) - 1) = (k : Int) by omega]
      have hi0 : (0 : Int) ≤ (k : Int) := by omega
      have hi1 : (k : Int) < 3 := by omega
      have hv : val ([a, b, c].drop k) = val ([a, b, c].drop (k + 1)) * 4294967296 + [a, b, c].getD k 0 := by
        match k, hk with
        | 0, _ => simp [val]; omega
        | 1, _ => simp [val]; omega
        | 2, _ => simp [val]
      have hw : [a, b, c].getD k 0 < 4294967296 := by
        match k, hk with
        | 0, _ => exact ha
        | 1, _ => exact hb
        | 2, _ => exact hc
      have hcell : ([U32 a, U32 b, U32 c] : List Value).getD k undef = U32 (([a, b, c].getD k 0 : Nat) : Int) := by
        match k, hk with
        | 0, _ => rfl
        | 1, _ => rfl
        | 2, _ => rfl
      have h4 := Lib.hid (HL.out (k + 1))
      have HV := Lib.hid hv
      generalize [a, b, c].getD k 0 = x at *
      generalize val ([a, b, c].drop (k + 1)) = v at *
      have big1 : v < 4294967296 ^ 100 := Nat.lt_of_lt_of_le h4.out (Nat.le_trans (by decide : 79228162514264337593543950336 ≤ 4294967296 ^ 3) (Nat.pow_le_pow_right (by decide) (by decide)))
      have big2 : 4294967296 < 4294967296 ^ 100 := Nat.lt_of_lt_of_le (by decide : 4294967296 < 4294967296 ^ 2) (Nat.pow_le_pow_right (by decide) (by decide))
      have big3 : v * 4294967296 < 4294967296 ^ 100 := Nat.lt_of_lt_of_le (Nat.mul_lt_mul_of_pos_right h4.out (by decide)) (Nat.le_trans (by decide : 79228162514264337593543950336 * 4294967296 ≤ 4294967296 ^ 4) (Nat.pow_le_pow_right (by decide) (by decide)))
      have big4 : x < 4294967296 ^ 100 := Nat.lt_trans hw big2
      have N := Lib.hid (NewInt_nat 4294967296)
      have N2 := Lib.hid (fun W => NewInt_nat x W (by omega))
      have M := Lib.hid (fun y W hz hy => Mul_any (w.heap.size + 1) (w.heap.size + 1) y v v 4294967296 W hz hz hy big1 big2)
      have A := Lib.hid (fun y W hz hy => Add_any (w.heap.size + 1) (w.heap.size + 1) y (v * 4294967296) (v * 4294967296) x W hz hz hy big3 big4)
      clear big1 big2 big3 big4 hv
      go_wp2_with fail
      refine (N.out _ (by decide)).mono ?_
      rintro e w1 ⟨y, rfl, hY, hy, k1⟩
      have b1 := hB.below k1
      have o1 := hO.below k1
      go_wp2_with fail
      refine (M.out _ _ b1 hY).mono ?_
      rintro e w2 ⟨rfl, b2, c2⟩
      have o2 := o1.chg c2 (by omega)
      have kw := c2.below (hbw.trans (k1.mono hbw.size)) (by omega) (Nat.le_trans hbw.size k1.size)
      have e0 := o2.cell k (by simp; omega)
      rw [hcell, Nat.zero_add] at e0
      clear hB hO hbw hY b1 o1 c2 k1
      go_wp2_with fail
      refine (N2.out _).mono ?_
      rintro e w3 ⟨y3, rfl, hY3, hy3, k3⟩
      have b3 := b2.below k3
      have o3 := o2.below k3
      go_wp2_with fail
      refine (A.out _ _ b3 hY3).mono ?_
      rintro e w4 ⟨rfl, b4, c4⟩
      have o4 := o3.chg c4 (by omega)
      have kw4 := c4.below (kw.trans (k3.mono kw.size)) (by omega) (Nat.le_trans kw.size k3.size)
      have hfin : Hid (BigRel w a b c (w.heap.size + 1) k w4) := ⟨by rw [HV.out]; exact b4, o4, kw4⟩
      clear b2 o2 kw hY3 b3 o3 c4 k3 b4 o4 kw4 e0
      go_wp2
      exact ⟨⟨k, by omega, rfl, hfin⟩, by simp [intOf]; try omega⟩
theorem row_set {w : World} {g k : Nat} {cs : List Value} {t : TypeId} (h : w.heap[g]? = some (.cells cs.toArray t (0, 0))) (x : Value) : (w.setCell ⟨g, k, none⟩ x).heap[g]? = some (.cells (cs.set k x).toArray t (0, 0)) := by
  simp [World.setCell, Array.getElem?_modify, h]
/-- a number behind a store into a block of words that are noughts from there on: its own words lie elsewhere, for the last one is none -/
theorem BN.store {w : World} {z n g k : Nat} {cs : List Nat} {t : TypeId} (h : BN w z n) (hz : z ≠ g) (hg : w.heap[g]? = some (.cells (wcells cs).toArray t (0, 0))) (h0 : ∀ i, k ≤ i → cs.getD i 0 = 0) (x : Value) : BN (w.setCell ⟨g, k, none⟩ x) z n := by
  obtain ⟨v, hb, l, ⟨a, cap, rfl, hn, hl, hnil, hr⟩, hC⟩ := h
  have hc : Chg g w (w.setCell ⟨g, k, none⟩ x) := (Chg.refl g w).set k x
  refine ⟨_, hb.chg hc hz, l, ⟨a, cap, rfl, hn, hl, hnil, ?_⟩, hC⟩
  rcases hr with hr | ⟨b, off, rfl, hlt, hcell⟩
  · exact .inl hr
  · refine .inr ⟨b, off, rfl, Nat.lt_of_lt_of_le hlt hc.size, fun j hj => ?_⟩
    by_cases hbg : b = g
    · subst hbg
      by_cases hjk : off + j = k
      · exfalso
        rw [wcells_len] at hj
        obtain ⟨m, hm⟩ : ∃ m, l.length = m + 1 := ⟨l.length - 1, by omega⟩
        have h1 := hcell m (by rw [wcells_len]; omega)
        rw [wcells_at (by omega), cell_of_cells hg] at h1
        have h2 := hC.2.2 m hm
        have hlt2 : off + m < cs.length := by
          have := (Array.getElem?_eq_some_iff.1 h1).1
          simpa [wcells] using this
        have h3 := h0 (off + m) (by omega)
        simp only [wcells, List.getElem?_toArray, List.getElem?_map, List.getElem?_eq_getElem hlt2, Option.map_some, Option.some.injEq] at h1
        rw [List.getD_eq_getElem?_getD, List.getElem?_eq_getElem hlt2, Option.getD_some] at h3
        rw [h3] at h1
        injection h1 with _ h4
        omega
      · rw [← hcell j hj]
        exact set_off w b k (off + j) x (fun e => hjk e.symm)
    · rw [← hcell j hj]
      exact set_blk w g b k (off + j) x (fun e => hbg e.symm)
def wd (N k i : Nat) : Nat := if i < k then N / 4294967296 ^ i % 4294967296 else 0
def WideRel (W : World) (N rest base k : Nat) (wr : World) : Prop :=
  BN wr rest (N / 4294967296 ^ k) ∧ BN wr base 4294967296 ∧ wr.heap[W.heap.size + 1]? = some (.cells (wcells [wd N k 0, wd N k 1, wd N k 2]).toArray 24 (0, 0)) ∧ Own wr W.heap.size [U32 0, U32 0, U32 0] ∧ Below W.heap.size W wr
theorem WideRel.drewN {W : World} {N rest base k : Nat} {wr : World} (h : WideRel W N rest base k wr) (q : Nat) : WideRel W N rest base k (wr.drewN q) := ⟨h.1, h.2.1, h.2.2.1, h.2.2.2.1, drewN_below h.2.2.2.2 q⟩
def GrewW (a b c d : Nat) (w : World) (e : Ending) (w' : World) : Prop := e = .returned (T2 (wideV a b c) (U32 d)) ∧ Below w.heap.size w w'
set_option maxHeartbeats 4000000 in
theorem wide96_any (x N : Nat) (w : World) (hx : BN w x N) (hN : N < 340282366920938463463374607431768211456) :
    Calls Try.prog 42 #[.pointer (some ⟨x, 0, none⟩)] w (GrewW (N % 4294967296) (N / 4294967296 % 4294967296) (N / 18446744073709551616 % 4294967296) (N / 79228162514264337593543950336) w) := by
  have k0 := boxed_below w (.cells #[U32 0, U32 0, U32 0] 24)
  have k1 := k0.alloc k0.size (.cells #[U32 0, U32 0, U32 0] 24)
  have k2 := k1.alloc k1.size (.cells #[.bool false, .slice none 0 0] 64)
  have o0 := ((Own.new (w := w) rfl [U32 0, U32 0, U32 0] 24).alloc (.cells #[U32 0, U32 0, U32 0] 24)).alloc (.cells #[.bool false, .slice none 0 0] 64)
  have o1 : (((w.alloc (.cells #[U32 0, U32 0, U32 0] 24)).alloc (.cells #[U32 0, U32 0, U32 0] 24)).alloc (.cells #[.bool false, .slice none 0 0] 64)).heap[w.heap.size + 1]? = some (.cells (wcells [0, 0, 0]).toArray 24 (0, 0)) := by
    have h1 := heap_alloc_new (w.alloc (.cells #[U32 0, U32 0, U32 0] 24)) (.cells #[U32 0, U32 0, U32 0] 24)
    have h2 := (boxed_below ((w.alloc (.cells #[U32 0, U32 0, U32 0] 24)).alloc (.cells #[U32 0, U32 0, U32 0] 24)) (.cells #[.bool false, .slice none 0 0] 64)).block (w.heap.size + 1) (by simp)
    rw [h2, ← World.size_alloc w]; exact h1
  have hd0 : BN (((w.alloc (.cells #[U32 0, U32 0, U32 0] 24)).alloc (.cells #[U32 0, U32 0, U32 0] 24)).alloc (.cells #[.bool false, .slice none 0 0] 64)) ((w.alloc (.cells #[U32 0, U32 0, U32 0] 24)).alloc (.cells #[U32 0, U32 0, U32 0] 24)).heap.size 0 := ⟨_, zeroB _, [], Sl.nil _ _, rfl, by simp [allW], by simp⟩
  rw [World.size_alloc, World.size_alloc] at hd0
  have bigN : N < 4294967296 ^ 100 := Nat.lt_of_lt_of_le hN (Nat.le_trans (by decide : 340282366920938463463374607431768211456 ≤ 4294967296 ^ 4) (Nat.pow_le_pow_right (by decide) (by decide)))
  have hxl := hx.lt
  have St := Lib.hid (Set_any (w.heap.size + 1 + 1) x 0 N _ hd0 (hx.below k2) bigN)
  have HB := Lib.hid bigN
  have HN := Lib.hid hN
  clear hd0 hx bigN hN k0 k1
  go_enter Try.func42, Try.ntmps42
  go_wp2_with fail
  refine St.out.mono ?_
  rintro e w1 ⟨rfl, b1, c1⟩
  have o01 := o0.chg c1 (by omega)
  have o11 := (c1.block (w.heap.size + 1) (owns_lt1 o1) (by omega)).trans o1
  have kw1 := c1.below k2 (by omega) k2.size
  clear k2 o0 o1 c1 St
  have Nn := Lib.hid (NewInt_nat 4294967296)
  go_wp2_with fail
  refine (Nn.out _ (by decide)).mono ?_
  rintro e w2 ⟨bs, rfl, hbs, hbz, k2⟩
  have hr := b1.lt
  have hD : Hid (WideRel w N (w.heap.size + 1 + 1) bs 0 w2) := ⟨by simpa using b1.below k2, hbs, (k2.block _ (owns_lt1 o11)).trans o11, o01.below k2, kw1.trans (k2.mono kw1.size)⟩
  have hne1 : w.heap.size + 1 + 1 ≠ bs := by omega
  have hne2 : w.heap.size + 1 + 1 < bs := by omega
  clear b1 o01 o11 kw1 hbs k2 Nn hbz hr
  go_wp2
  go_loopw [7, 8] (fun i _ wr => ∃ k : Nat, k ≤ 3 ∧ i = I (k : Int) ∧ Hid (WideRel w N (w.heap.size + 1 + 1) bs k wr)) (fun i _ _ => (3 - intOf i).toNat)
  case atStart => exact ⟨0, by decide, rfl, hD⟩
  case round =>
    clear hD
    obtain ⟨k, hk, rfl, hD⟩ := hrel
    obtain ⟨hB, hbs, hW, hZ, hbw⟩ := hD.out
    have hsz := hbw.size
    have hr := hB.lt
    have hbl := hbs.lt
    by_cases hlt : k < 3
    · have hi0 : (0 : Int) ≤ (k : Int) := by omega
      have hi1 : (k : Int) < 3 := by omega
      have kz := boxed_below wr (.cells #[.bool false, .slice none 0 0] 64)
      have hz0 : BN (wr.alloc (.cells #[.bool false, .slice none 0 0] 64)) wr.heap.size 0 := ⟨_, zeroB _, [], Sl.nil _ _, rfl, by simp [allW], by simp⟩
      have hn8 : N / 4294967296 ^ k < 4294967296 ^ 100 := Nat.lt_of_le_of_lt (Nat.div_le_self _ _) HB.out
      have hn9 : N / 4294967296 ^ k < 4294967296 ^ 200 := Nat.lt_of_lt_of_le hn8 (Nat.pow_le_pow_right (by decide) (by decide))
      have h32 : DivOk 4294967296 := divOk_pow (e := 32) (by decide)
      have h33 : 4294967296 < 4294967296 ^ 100 := Nat.lt_of_lt_of_le (by decide : 4294967296 < 4294967296 ^ 2) (Nat.pow_le_pow_right (by decide) (by decide))
      have Md := Lib.hid (Mod_any wr.heap.size (w.heap.size + 1 + 1) bs 0 (N / 4294967296 ^ k) 4294967296 _ hz0 (hB.below kz) (hbs.below kz) hn9 h32 h33)
      have Dv := Lib.hid (fun W h1 h2 => Div_any (w.heap.size + 1 + 1) (w.heap.size + 1 + 1) bs (N / 4294967296 ^ k) (N / 4294967296 ^ k) 4294967296 W h1 h1 h2 hn9 h32 h33)
      have hml : N / 4294967296 ^ k % 4294967296 < 4294967296 := Nat.mod_lt _ (by decide)
      have U := Lib.hid (fun W h => Uint64_any wr.heap.size (N / 4294967296 ^ k % 4294967296) W h (by omega))
      have HE : Hid (N / 4294967296 ^ k / 4294967296 = N / 4294967296 ^ (k + 1)) := by unfold Hid; rw [Nat.div_div_eq_div_mul, Nat.pow_succ]
      have HZ : Hid (∀ i, k ≤ i → ([wd N k 0, wd N k 1, wd N k 2] : List Nat).getD i 0 = 0) := fun i hi => by
        match i, hi with
        | 0, hi => simp [wd]; omega
        | 1, hi => simp [wd]; omega
        | 2, hi => simp [wd]; omega
        | i + 3, _ => simp
      have HW : Hid ((wcells [wd N k 0, wd N k 1, wd N k 2]).set k (U32 ((N / 4294967296 ^ k % 4294967296 : Nat) : Int)) = wcells [wd N (k + 1) 0, wd N (k + 1) 1, wd N (k + 1) 2]) := by
        unfold Hid
        match k, hlt with
        | 0, _ => simp [wd, wcells]
        | 1, _ => simp [wd, wcells]
        | 2, _ => simp [wd, wcells]
      clear hz0 hn8 hn9 h32 h33
      generalize N / 4294967296 ^ k % 4294967296 = xx at *
      generalize N / 4294967296 ^ k = nn at *
      go_wp2_with fail
      refine Md.out.mono ?_
      rintro e w3 ⟨rfl, b3, c3⟩
      have hB3 := (hB.below kz).chg ⟨_, zeroB _, [], Sl.nil _ _, rfl, by simp [allW], by simp⟩ c3 (by omega)
      have hbs3 := (hbs.below kz).chg ⟨_, zeroB _, [], Sl.nil _ _, rfl, by simp [allW], by simp⟩ c3 (by omega)
      have hW2 := (kz.block _ (owns_lt1 hW)).trans hW
      have hW3 := (c3.block _ (owns_lt1 hW2) (by omega)).trans hW2
      have hZ3 := (hZ.below kz).chg c3 (by omega)
      have kw3 := c3.below (hbw.trans (kz.mono hsz)) hsz (Nat.le_trans hsz kz.size)
      clear hB hbs hW hZ hbw kz c3 Md hD
      go_wp2_with fail
      refine (U.out _ b3).mono ?_
      rintro e w' ⟨rfl, rfl⟩
      have oW3 := own_of_row hW3
      have cw := oW3.cell k (by simp [wcells]; omega)
      rw [Nat.zero_add] at cw
      have fw := oW3.frozen k
      have hsz3 := kw3.size
      have cx : Chg (w.heap.size + 1) w3 (w3.setCell ⟨w.heap.size + 1, k, none⟩ (U32 (xx : Int))) := (Chg.refl _ _).set k _
      have hB4 := hB3.store (by omega) hW3 HZ.out (U32 (xx : Int))
      have hbs4 := hbs3.store (by omega) hW3 HZ.out (U32 (xx : Int))
      have hW4 := row_set (k := k) hW3 (U32 (xx : Int))
      rw [HW.out] at hW4
      have hZ4 := hZ3.chg cx (by omega)
      have kw4 := cx.below kw3 (by omega) hsz3
      have hxx : (xx : Int) % 4294967296 = (xx : Int) := by omega
      have HXX := Lib.hid hxx
      clear hB3 hbs3 hW3 oW3 hZ3 kw3 cx hxx b3
      go_wp2_with fail
      clear cw fw HZ HW U hsz3
      refine (Dv.out _ hB4 hbs4).mono ?_
      rintro e w5 ⟨rfl, b5, c5⟩
      rw [HE.out] at b5
      have hD' : Hid (WideRel w N (w.heap.size + 1 + 1) bs (k + 1) w5) :=
        ⟨b5, hbs4.chg hB4 c5 (Ne.symm hne1), (c5.block _ (owns_lt1 hW4) (by omega)).trans hW4, hZ4.chg c5 (by omega), c5.below kw4 (by omega) (by have := kw4.size; omega)⟩
      clear b5 c5 hB4 hbs4 hW4 hZ4 kw4
      go_wp2
      exact ⟨⟨k + 1, by omega, by go_num, hD'⟩, by simp [intOf]; try omega⟩
    · have hk3 : k = 3 := by omega
      subst hk3
      have hge : ¬ (((3 : Nat) : Int) < 3) := by omega
      have hN3 : N / 4294967296 ^ 3 < 4294967296 := Nat.div_lt_of_lt_mul (Nat.lt_of_lt_of_le HN.out (by decide))
      have e3 : N / 79228162514264337593543950336 = N / 4294967296 ^ 3 := rfl
      have e2 : N / 18446744073709551616 % 4294967296 = wd N 3 2 := rfl
      have e1 : N / 4294967296 % 4294967296 = wd N 3 1 := by simp [wd]
      have e0 : N % 4294967296 = wd N 3 0 := by simp [wd]
      have EE := Lib.hid (And.intro e0 (And.intro e1 (And.intro e2 e3)))
      have hwr : ∀ q : Nat, q < 4294967296 → IntKind.u32.wrap (q : Int) = (q : Int) := fun q hq => by show (q : Int) % 4294967296 = _; omega
      have HWR := Lib.hid (hwr _ hN3)
      clear hwr
      have U := Lib.hid (fun q => Uint64_any (w.heap.size + 1 + 1) (N / 4294967296 ^ 3) (wr.drewN q) hB (by omega))
      have o1 : Own wr (w.heap.size + 1) [U32 (wd N 3 0), U32 (wd N 3 1), U32 (wd N 3 2)] := own_of_row hW
      have cO := o1
      have c0 := cO.cell 0 (by simp)
      have cf0 := cO.frozen 0
      have c1 := cO.cell 1 (by simp)
      have cf1 := cO.frozen 1
      have c2 := cO.cell 2 (by simp)
      have cf2 := cO.frozen 2
      simp only [Nat.zero_add, List.getD_cons_zero, List.getD_cons_succ] at c0 c1 c2
      clear cO
      have zO := hZ
      have z0 := zO.cell 0 (by simp)
      have zf0 := zO.frozen 0
      have z1 := zO.cell 1 (by simp)
      have zf1 := zO.frozen 1
      have z2 := zO.cell 2 (by simp)
      have zf2 := zO.frozen 2
      simp only [Nat.zero_add, List.getD_cons_zero, List.getD_cons_succ] at z0 z1 z2
      clear zO
      generalize N / 4294967296 ^ 3 = nn at *
      generalize wd N 3 0 = a0 at *
      generalize wd N 3 1 = a1 at *
      generalize wd N 3 2 = a2 at *
      have HX : Hid ((nn : Int) % 4294967296 = (nn : Int)) := by unfold Hid; omega
      clear hB hbs hW hZ o1 e0 e1 e2 e3 hD
      have r1 := set_same
      have r2 := set_off
      have r3 := set_blk
      go_wp2
      go_region_with (first | ((with_reducible refine (U.out 1).mono ?_); rintro e w' ⟨rfl, rfl⟩) | ((refine (U.out 1).mono ?_); rintro e w' ⟨rfl, rfl⟩))
      all_goals
        go_wp2
        have hwr := HWR.out
        refine bodyPost_ret (v := T2 (wideV a0 a1 a2) (U32 nn)) (by simp [results, Try.results42, go_sem, *]) rfl ⟨by rw [EE.out.1, EE.out.2.1, EE.out.2.2.1], (by repeat first | with_reducible assumption | with_reducible exact Below.refl _ _ | with_reducible refine Below.setCell ?_ (by first | exact Nat.le_refl _ | exact Below.size (by assumption) | (simp; done) | (simp; omega) | omega) _ | with_reducible refine Below.alloc ?_ (by first | exact Nat.le_refl _ | exact Below.size (by assumption) | (simp; done) | (simp; omega) | omega) _ | with_reducible refine drewN_below ?_ _ | with_reducible refine Below.drew ?_)⟩
end Go.Proofs.Ytgldppmkiieoaaa
