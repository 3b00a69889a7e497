/- words.Bits, ref.Field -/
import Derived.Test.YtgldppmkiieoaaaBitsLaw
import Derived.Test.YtgldppmkiieoaaaWordsDiv
import Derived.Test.YtgldppmkiieoaaaIn
namespace Go.Proofs.Ytgldppmkiieoaaa
open Go.RowKit
set_option maxRecDepth 20000

def fieldB (lo n : Int) : Bool := decide (0 ≤ lo ∧ 1 ≤ n ∧ n ≤ 64 ∧ lo + n ≤ 96)
theorem field_any (lo n : Int) (w : World) (hlo : I64 lo) (hn : I64 n) : Calls Try.prog 57 #[I lo, I n] w (Pure (.bool (fieldB lo n)) w) := by
  obtain ⟨l0, l1⟩ := hlo
  obtain ⟨n0, n1⟩ := hn
  go_enter Try.func57, Try.ntmps57
  go_wp2
  all_goals
    go_ret
    refine Pure.intro (eB ?_)
    unfold fieldB
    simp [*]
    try omega
theorem fieldMay_any (lo n : Int) (w : World) (hlo : I64 lo) (hn : I64 n) : Calls Try.prog 58 #[I lo, I n] w (Pure (.bool (fieldB lo n)) w) := by
  obtain ⟨l0, l1⟩ := hlo
  obtain ⟨n0, n1⟩ := hn
  cases h1 : inB lo 0 95
  · have hb : fieldB lo n = false := by
      rw [inB_false] at h1
      unfold fieldB; rw [decide_eq_false_iff_not]; omega
    rw [hb]
    clear hb
    go_enter Try.func58, Try.ntmps58
    go_wp2_with (go_at_call 83; refine (In_any _ _ _ _).mono ?_; rintro e w' ⟨rfl, rfl⟩)
    go_ret
    exact Pure.intro rfl
  · cases h2 : inB n 1 64
    · have hb : fieldB lo n = false := by
        rw [inB_false] at h2
        unfold fieldB; rw [decide_eq_false_iff_not]; omega
      rw [hb]
      clear hb
      go_enter Try.func58, Try.ntmps58
      go_wp2_with (go_at_call 83; refine (In_any _ _ _ _).mono ?_; rintro e w' ⟨rfl, rfl⟩)
      go_ret
      exact Pure.intro rfl
    · have hb : fieldB lo n = decide (lo + n ≤ 96) := by
        rw [inB_true] at h1 h2
        unfold fieldB; apply decide_eq_decide.2; omega
      have h1' := inB_true.1 h1
      have h2' := inB_true.1 h2
      rw [hb]
      clear hb
      go_enter Try.func58, Try.ntmps58
      go_wp2_with (go_at_call 83; refine (In_any _ _ _ _).mono ?_; rintro e w' ⟨rfl, rfl⟩)
      go_ret
      exact Pure.intro (by simp [*])
theorem bit32 (x s : Nat) (hx : x < 4294967296) : bits .and .u32 ((x : Int) / 2 ^ s) 1 = ((x / 2 ^ s % 2 : Nat) : Int) := by
  have e : (x : Int) / 2 ^ s = ((x / 2 ^ s : Nat) : Int) := by push_cast; rfl
  have := u32_and_nat (x / 2 ^ s) 1 (Nat.lt_of_le_of_lt (Nat.div_le_self _ _) hx) (by decide)
  rw [Nat.and_one_is_mod] at this
  rw [e]; exact this
theorem or_bit (v b : Nat) (hv : v < 9223372036854775808) (hb : b < 2) : bits .or .u64 ((v : Int) * 2) (b : Int) = ((2 * v + b : Nat) : Int) := by
  have e : (v : Int) * 2 = ((v * 2 : Nat) : Int) := by omega
  rw [e, u64_or_nat _ _ (by omega) (by omega)]
  have h3 := Nat.two_pow_add_eq_or_of_lt (i := 1) (b := b) (by omega) v
  rw [Nat.pow_one] at h3
  rw [Nat.mul_comm v, ← h3]
set_option maxHeartbeats 2000000 in
theorem Bits_any (a b c lo n : Nat) (w : World) (ha : a < 4294967296) (hb : b < 4294967296) (hc : c < 4294967296) (hn0 : 1 ≤ n) (hn : n ≤ 64) (hlo : lo + n ≤ 96) :
    Calls Try.prog 26 #[wideV a b c, I lo, I n] w (Grew (T2 (.int .u64 (fld (val [a, b, c]) lo n : Nat)) (I 0)) w) := by
  have hf : fieldB lo n = true := by unfold fieldB; rw [decide_eq_true_eq]; omega
  have F := Lib.hid (fun W => field_any lo n W (by constructor <;> omega) (by constructor <;> omega))
  rw [hf] at F
  have k0 := boxed_below w (.cells #[U32 a, U32 b, U32 c] 24)
  have HO := Lib.hid (Own.new (w := w) rfl [U32 a, U32 b, U32 c] 24)
  have hl : allW [a, b, c] := by intro d hd; simp at hd; omega
  have HL := Lib.hid (allW_at hl)
  have HB := Lib.hid (fun p hp => wide_bit2 a b c p ha hb hp)
  have HN := Lib.hid (fun p k => fld_lt (val [a, b, c]) p k)
  have HD := Lib.hid (fun p k => fld_down (val [a, b, c]) p k)
  have hn1 : ((n : Nat) : Int) ≤ 64 := by omega
  clear hl hf
  go_enter Try.func26, Try.ntmps26
  go_wp2_with fail
  refine (F.out _).mono ?_
  rintro e w' ⟨rfl, rfl⟩
  go_wp2
  have hw : ∀ j, j < 3 → (w.alloc (.cells #[U32 a, U32 b, U32 c] 24)).cell? ⟨w.heap.size, j, none⟩ = some (U32 ([a, b, c].getD j 0 : Nat)) := fun j hj => by
    have := HO.out.cell j (by simpa using hj)
    rw [Nat.zero_add] at this
    rw [this]
    match j, hj with
    | 0, _ => rfl
    | 1, _ => rfl
    | 2, _ => rfl
  generalize w.alloc (.cells #[U32 a, U32 b, U32 c] 24) = W at *
  have HW := Lib.hid hw
  clear hw
  go_loop [8, 9, 10] (fun v i _ => ∃ k : Nat, k ≤ n ∧ i = I ((k : Int) - 1) ∧ v = .int .u64 (fld (val [a, b, c]) (lo + k) (n - k) : Nat)) (fun _ i _ => (intOf i + 1).toNat)
  case atStart => exact ⟨n, Nat.le_refl _, rfl, by rw [Nat.sub_self, fld_zero]; rfl⟩
  case round =>
    obtain ⟨k, hk, rfl, rfl⟩ := hrel
    cases k with
    | zero =>
      go_wp2
      go_ret2
      exact ⟨rfl, k0⟩
    | succ k =>
      rw [show (((k + 1 : Nat) : Int) - 1) = (k : Int) by omega]
      have hk0 : (0 : Int) ≤ (k : Int) := by omega
      obtain ⟨p, hp⟩ : ∃ p, p = lo + k := ⟨_, rfl⟩
      have ep : (lo : Int) + (k : Int) = (p : Int) := by omega
      obtain ⟨q, hq⟩ : ∃ q, q = p / 32 := ⟨_, rfl⟩
      obtain ⟨s, hs⟩ : ∃ s, s = p % 32 := ⟨_, rfl⟩
      have eq : (p : Int).tdiv 32 = (q : Int) := by rw [hq]; rfl
      have es : (p : Int).tmod 32 = (s : Int) := by rw [hs]; rfl
      have q0 : (0 : Int) ≤ (q : Int) := by omega
      have q1 : (q : Int) < 3 := by omega
      have s0 : (0 : Int) ≤ (s : Int) := by omega
      have s1 : s < 32 := by omega
      have hcell := HW.out q (by omega)
      have hbit := HB.out p (by omega)
      rw [← hq, ← hs] at hbit
      have hdn := HD.out p (n - (k + 1))
      rw [show n - (k + 1) + 1 = n - k by omega, ← hbit, show p + 1 = lo + (k + 1) by omega] at hdn
      have hv := HN.out (lo + (k + 1)) (n - (k + 1))
      have hv2 : fld (val [a, b, c]) (lo + (k + 1)) (n - (k + 1)) < 9223372036854775808 := Nat.lt_of_lt_of_le hv (Nat.pow_le_pow_right (by decide) (by omega : n - (k + 1) ≤ 63))
      have hx := HL.out q
      have HDN := Lib.hid hdn
      have b32 := Lib.hid (bit32 ([a, b, c].getD q 0) s hx)
      have hb2 : [a, b, c].getD q 0 / 2 ^ s % 2 < 2 := Nat.mod_lt _ (by decide)
      have hor := Lib.hid (or_bit _ _ hv2 hb2)
      clear hv hdn hbit hp hq hs
      generalize fld (val [a, b, c]) (lo + (k + 1)) (n - (k + 1)) = vv at *
      generalize [a, b, c].getD q 0 = x at *
      go_wp2
      have hw2 : IntKind.u64.wrap ((x / 2 ^ s % 2 : Nat) : Int) = ((x / 2 ^ s % 2 : Nat) : Int) := by
        generalize x / 2 ^ s % 2 = bb at *
        show (bb : Int) % 18446744073709551616 = _
        omega
      refine ⟨⟨k, by omega, rfl, ?_⟩, by simp [intOf]; try omega⟩
      rw [b32.out, hw2, hor.out, ← HDN.out, show p = lo + k by omega]
theorem Bits_bad (a b c : Nat) (lo n : Int) (w : World) (hlo : I64 lo) (hn : I64 n) (hf : fieldB lo n = false) :
    Calls Try.prog 26 #[wideV a b c, I lo, I n] w (Grew (T2 (.int .u64 ((0 : Nat) : Int)) (I 2)) w) := by
  have F := Lib.hid (fun W => field_any lo n W hlo hn)
  rw [hf] at F
  clear hf
  go_enter Try.func26, Try.ntmps26
  go_wp2_with fail
  refine (F.out _).mono ?_
  rintro e w' ⟨rfl, rfl⟩
  go_wp2
  go_ret2
  exact ⟨rfl, (by repeat first | exact Below.refl _ _ | assumption | refine drewN_below ?_ _ | refine Below.alloc ?_ (by first | exact Nat.le_refl _ | exact Below.size (by assumption) | (simp; done) | (simp; omega) | omega) _ | refine Below.setCell ?_ (by first | exact Nat.le_refl _ | (simp; done) | (simp; omega) | omega) _)⟩
theorem Field_bad (a b c : Nat) (lo n : Int) (w : World) (hlo : I64 lo) (hn : I64 n) (hf : fieldB lo n = false) :
    Calls Try.prog 27 #[wideV a b c, I lo, I n] w (Grew (T2 (.int .u64 ((0 : Nat) : Int)) (I 2)) w) := by
  have F := Lib.hid (fun W => fieldMay_any lo n W hlo hn)
  rw [hf] at F
  clear hf
  go_enter Try.func27, Try.ntmps27
  go_wp2_with fail
  refine (F.out _).mono ?_
  rintro e w' ⟨rfl, rfl⟩
  go_wp2
  go_ret2
  exact ⟨rfl, (by repeat first | exact Below.refl _ _ | assumption | refine drewN_below ?_ _ | refine Below.alloc ?_ (by first | exact Nat.le_refl _ | exact Below.size (by assumption) | (simp; done) | (simp; omega) | omega) _ | refine Below.setCell ?_ (by first | exact Nat.le_refl _ | (simp; done) | (simp; omega) | omega) _)⟩
set_option maxHeartbeats 4000000 in
theorem Field_any (a b c lo n : Nat) (w : World) (ha : a < 4294967296) (hb : b < 4294967296) (hc : c < 4294967296) (hn0 : 1 ≤ n) (hn : n ≤ 64) (hlo : lo + n ≤ 96) :
    Calls Try.prog 27 #[wideV a b c, I lo, I n] w (Grew (T2 (.int .u64 (fld (val [a, b, c]) lo n : Nat)) (I 0)) w) := by
  have hf : fieldB lo n = true := by unfold fieldB; rw [decide_eq_true_eq]; omega
  have F := Lib.hid (fun W => fieldMay_any lo n W (by constructor <;> omega) (by constructor <;> omega))
  rw [hf] at F
  have hv := val3_lt ha hb hc
  have B := Lib.hid (fun W => big96_any a b c W ha hb hc)
  have big1 : val [a, b, c] < 4294967296 ^ 100 := Nat.lt_of_lt_of_le hv (Nat.le_trans (by decide : 79228162514264337593543950336 ≤ 4294967296 ^ 3) (Nat.pow_le_pow_right (by decide) (by decide)))
  have big2 : val [a, b, c] / 2 ^ lo < 4294967296 ^ 200 := Nat.lt_of_le_of_lt (Nat.div_le_self _ _) (Nat.lt_of_lt_of_le big1 (Nat.pow_le_pow_right (by decide) (by decide)))
  have big3 : 2 ^ n < 4294967296 ^ 100 := Nat.lt_of_le_of_lt (Nat.pow_le_pow_right (by decide) hn) (Nat.lt_of_lt_of_le (by decide : 2 ^ 64 < 4294967296 ^ 3) (Nat.pow_le_pow_right (by decide) (by decide)))
  have big4 : 1 < 4294967296 ^ 100 := Nat.lt_of_lt_of_le (by decide : 1 < 4294967296 ^ 1) (Nat.pow_le_pow_right (by decide) (by decide))
  have hu : val [a, b, c] / 2 ^ lo % 2 ^ n < 18446744073709551616 := Nat.lt_of_lt_of_le (Nat.mod_lt _ (Nat.two_pow_pos n)) (Nat.pow_le_pow_right (by decide) hn)
  have R := Lib.hid (fun W z x hz hx => Rsh_any z x 0 (val [a, b, c]) lo W hz hx big1 (by omega))
  have N1 := Lib.hid (fun W => NewInt_nat 1 W (by decide))
  have L := Lib.hid (fun W z x hz hx => Lsh_any z x 0 1 n W hz hx big4 (by omega))
  rw [Nat.one_mul] at L
  have M := Lib.hid (fun W z y hz hy => Mod_any z z y (val [a, b, c] / 2 ^ lo) (val [a, b, c] / 2 ^ lo) (2 ^ n) W hz hz hy big2 (divOk_pow (by omega)) big3)
  have U := Lib.hid (fun W z hz => Uint64_any z (val [a, b, c] / 2 ^ lo % 2 ^ n) W hz hu)
  have hlo2 : ((lo : Nat) : Int) ≤ 96 := by omega
  have hn2 : ((n : Nat) : Int) ≤ 64 := by omega
  rw [show fld (val [a, b, c]) lo n = val [a, b, c] / 2 ^ lo % 2 ^ n from rfl]
  clear hf big1 big2 big3 big4 hu hv
  generalize val [a, b, c] / 2 ^ lo % 2 ^ n = r at *
  generalize val [a, b, c] / 2 ^ lo = m at *
  generalize 2 ^ n = p at *
  generalize val [a, b, c] = N at *
  go_enter Try.func27, Try.ntmps27
  go_wp2_with fail
  refine (F.out _).mono ?_
  rintro e w' ⟨rfl, rfl⟩
  have kA := boxed_below w (.cells #[U32 a, U32 b, U32 c] 24)
  have kB := kA.alloc kA.size (.cells #[.bool false, .slice none 0 0] 64)
  have hz := zeroBN (w.alloc (.cells #[U32 a, U32 b, U32 c] 24))
  rw [World.size_alloc] at hz
  go_wp2_with fail
  refine (B.out _).mono ?_
  rintro e w1 ⟨z, rfl, hx, hxl, k1⟩
  have hz1 := hz.below k1
  have kk1 := kB.trans (k1.mono kB.size)
  clear hz k1 kA kB hxl
  go_wp2_with fail
  refine (R.out _ _ _ hz1 hx).mono ?_
  rintro e w2 ⟨rfl, hm, c2⟩
  have kk2 := c2.below kk1 (by omega) kk1.size
  have hg := hm.lt
  clear hz1 hx c2 kk1
  have k3 := boxed_below w2 (.cells #[.bool false, .slice none 0 0] 64)
  have ho := zeroBN w2
  have hm3 := hm.below k3
  have kk3 := kk2.trans (k3.mono kk2.size)
  go_wp2_with fail
  refine (N1.out _).mono ?_
  rintro e w4 ⟨y, rfl, hy, hyl, k4⟩
  have ho4 := ho.below k4
  have hm4 := hm3.below k4
  have kk4 := kk3.trans (k4.mono kk3.size)
  have hs2 := kk2.size
  clear ho k3 k4 hm3 kk3 hm kk2
  go_wp2_with fail
  refine (L.out _ _ _ ho4 hy).mono ?_
  rintro e w5 ⟨rfl, hp, c5⟩
  have hm5 := hm4.chg ho4 c5 (by omega)
  have kk5 := c5.below kk4 (by omega) kk4.size
  clear ho4 hm4 c5 kk4 hy
  go_wp2_with fail
  refine (M.out _ _ _ hm5 hp).mono ?_
  rintro e w6 ⟨rfl, hr, c6⟩
  have kk6 := c6.below kk5 (by omega) kk5.size
  clear hm5 hp c6 kk5
  go_wp2_with fail
  refine (U.out _ _ hr).mono ?_
  rintro e w' ⟨rfl, rfl⟩
  go_wp2
  go_ret2
  exact ⟨rfl, kk6⟩
end Go.Proofs.Ytgldppmkiieoaaa
