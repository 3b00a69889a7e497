/- ref.Divided, and the plain law · words.Bits, ref.Field · words.Put -/
import Derived.Test.YtmciccnmpoijdaaGreatDoorWordsOver
import Derived.Test.YtmciccnmpoijdaaGreatDoorPk40
import Derived.Test.YtmciccnmpoijdaaGreatDoorPk04
import Derived.Test.YtmciccnmpoijdaaGreatDoorShelf
import Derived.Test.YtmciccnmpoijdaaGreatDoorPk10
namespace Go.Proofs.YtmciccnmpoijdaaGreatDoor
open Go.RowKit
set_option maxRecDepth 20000

theorem over_digits (a b c d : Nat) : val [a, b, c] = d * (quoO d [a, b, c] 2 + 4294967296 * (quoO d [a, b, c] 1 + 4294967296 * quoO d [a, b, c] 0)) + remO d [a, b, c] 3 := by
  have e : ∀ s : Nat, s = d * (s / d) + s % d := fun s => (Nat.div_add_mod s d).symm
  have h0 := e c
  have h1 := e (4294967296 * (c % d) + b)
  have h2 := e (4294967296 * ((4294967296 * (c % d) + b) % d) + a)
  simp only [quoO, remO, List.getD_cons_zero, List.getD_cons_succ, val3, Nat.mul_zero, Nat.zero_add, Nat.sub_self, Nat.sub_zero, show 2 - 1 = 1 from rfl]
  generalize (4294967296 * ((4294967296 * (c % d) + b) % d) + a) / d = q0 at *
  generalize (4294967296 * ((4294967296 * (c % d) + b) % d) + a) % d = r0 at *
  generalize (4294967296 * (c % d) + b) / d = q1 at *
  generalize (4294967296 * (c % d) + b) % d = r1 at *
  generalize c / d = q2 at *
  generalize c % d = r2 at *
  rw [Nat.mul_add d, Nat.mul_left_comm d, Nat.mul_add d, Nat.mul_left_comm d]
  generalize d * q0 = x at *
  generalize d * q1 = y at *
  generalize d * q2 = z at *
  omega
theorem zeroBN (w : World) : BN (w.alloc (.cells #[.bool false, .slice none 0 0] 82)) w.heap.size 0 := ⟨_, zeroB w, [], Sl.nil _ _, rfl, by simp [allW], by simp⟩
end Go.Proofs.YtmciccnmpoijdaaGreatDoor
namespace Go.Proofs.YtmciccnmpoijdaaGreatDoor
open Go.RowKit
set_option maxRecDepth 20000

def fieldB (lo n : Int) : Bool := decide (0 ≤ lo ∧ 1 ≤ n ∧ n ≤ 64 ∧ lo + n ≤ 96)
theorem field_any (lo n : Int) (w : World) (hlo : I64 lo) (hn : I64 n) : Calls Tryz.prog 64 #[I lo, I n] w (Pure (.bool (fieldB lo n)) w) := by
  obtain ⟨l0, l1⟩ := hlo
  obtain ⟨n0, n1⟩ := hn
  go_enter Tryz.func64, Tryz.ntmps64
  go_wp2
  all_goals
    go_ret
    refine Pure.intro (eB ?_)
    unfold fieldB
    simp [*]
    try omega
theorem bit32 (x s : Nat) (hx : x < 4294967296) : bits .and .u32 ((x : Int) / 2 ^ s) 1 = ((x / 2 ^ s % 2 : Nat) : Int) := by
  have e : (x : Int) / 2 ^ s = ((x / 2 ^ s : Nat) : Int) := by push_cast; rfl
  have := u32_and_nat (x / 2 ^ s) 1 (Nat.lt_of_le_of_lt (Nat.div_le_self _ _) hx) (by decide)
  rw [Nat.and_one_is_mod] at this
  rw [e]; exact this
theorem or_bit (v b : Nat) (hv : v < 9223372036854775808) (hb : b < 2) : bits .or .u64 ((v : Int) * 2) (b : Int) = ((2 * v + b : Nat) : Int) := by
  have e : (v : Int) * 2 = ((v * 2 : Nat) : Int) := by omega
  rw [e, u64_or_nat _ _ (by omega) (by omega)]
  have h3 := Nat.two_pow_add_eq_or_of_lt (i := 1) (b := b) (by omega) v
  rw [Nat.pow_one] at h3
  rw [Nat.mul_comm v, ← h3]
set_option maxHeartbeats 2000000 in
theorem Bits_any (a b c lo n : Nat) (w : World) (ha : a < 4294967296) (hb : b < 4294967296) (hc : c < 4294967296) (hn0 : 1 ≤ n) (hn : n ≤ 64) (hlo : lo + n ≤ 96) :
    Calls Tryz.prog 26 #[wideV a b c, I lo, I n] w (Grew (T2 (.int .u64 (fld (val [a, b, c]) lo n : Nat)) (I 0)) w) := by
  have hf : fieldB lo n = true := by unfold fieldB; rw [decide_eq_true_eq]; omega
  have F := Lib.hid (fun W => field_any lo n W (by constructor <;> omega) (by constructor <;> omega))
  rw [hf] at F
  have k0 := boxed_below w (.cells #[U32 a, U32 b, U32 c] 60)
  have HO := Lib.hid (Own.new (w := w) rfl [U32 a, U32 b, U32 c] 60)
  have hl : allW [a, b, c] := by intro d hd; simp at hd; omega
  have HL := Lib.hid (allW_at hl)
  have HB := Lib.hid (fun p hp => wide_bit2 a b c p ha hb hp)
  have HN := Lib.hid (fun p k => fld_lt (val [a, b, c]) p k)
  have HD := Lib.hid (fun p k => fld_down (val [a, b, c]) p k)
  have hn1 : ((n : Nat) : Int) ≤ 64 := by omega
  clear hl hf
  go_enter Tryz.func26, Tryz.ntmps26
  go_wp2_with fail
  refine (F.out _).mono ?_
  rintro e w' ⟨rfl, rfl⟩
  go_wp2
  have hw : ∀ j, j < 3 → (w.alloc (.cells #[U32 a, U32 b, U32 c] 60)).cell? ⟨w.heap.size, j, none⟩ = some (U32 ([a, b, c].getD j 0 : Nat)) := fun j hj => by
    have := HO.out.cell j (by simpa using hj)
    rw [Nat.zero_add] at this
    rw [this]
    match j, hj with
    | 0, _ => rfl
    | 1, _ => rfl
    | 2, _ => rfl
  generalize w.alloc (.cells #[U32 a, U32 b, U32 c] 60) = W at *
  have HW := Lib.hid hw
  clear hw
  go_loop [8, 9, 10] (fun v i _ => ∃ k : Nat, k ≤ n ∧ i = I ((k : Int) - 1) ∧ v = .int .u64 (fld (val [a, b, c]) (lo + k) (n - k) : Nat)) (fun _ i _ => (intOf i + 1).toNat)
  case atStart => exact ⟨n, Nat.le_refl _, rfl, by rw [Nat.sub_self, fld_zero]; rfl⟩
  case round =>
    obtain ⟨k, hk, rfl, rfl⟩ := hrel
    cases k with
    | zero =>
      go_wp2
      go_ret2
      exact ⟨rfl, k0⟩
    | succ k =>
      rw [show (((k + 1 : Nat) : Int) - 1) = (k : Int) by omega]
      have hk0 : (0 : Int) ≤ (k : Int) := by omega
      obtain ⟨p, hp⟩ : ∃ p, p = lo + k := ⟨_, rfl⟩
      have ep : (lo : Int) + (k : Int) = (p : Int) := by omega
      obtain ⟨q, hq⟩ : ∃ q, q = p / 32 := ⟨_, rfl⟩
      obtain ⟨s, hs⟩ : ∃ s, s = p % 32 := ⟨_, rfl⟩
      have eq : (p : Int).tdiv 32 = (q : Int) := by rw [hq]; rfl
      have es : (p : Int).tmod 32 = (s : Int) := by rw [hs]; rfl
      have q0 : (0 : Int) ≤ (q : Int) := by omega
      have q1 : (q : Int) < 3 := by omega
      have s0 : (0 : Int) ≤ (s : Int) := by omega
      have s1 : s < 32 := by omega
      have hcell := HW.out q (by omega)
      have hbit := HB.out p (by omega)
      rw [← hq, ← hs] at hbit
      have hdn := HD.out p (n - (k + 1))
      rw [show n - (k + 1) + 1 = n - k by omega, ← hbit, show p + 1 = lo + (k + 1) by omega] at hdn
      have hv := HN.out (lo + (k + 1)) (n - (k + 1))
      have hv2 : fld (val [a, b, c]) (lo + (k + 1)) (n - (k + 1)) < 9223372036854775808 := Nat.lt_of_lt_of_le hv (Nat.pow_le_pow_right (by decide) (by omega : n - (k + 1) ≤ 63))
      have hx := HL.out q
      have HDN := Lib.hid hdn
      have b32 := Lib.hid (bit32 ([a, b, c].getD q 0) s hx)
      have hb2 : [a, b, c].getD q 0 / 2 ^ s % 2 < 2 := Nat.mod_lt _ (by decide)
      have hor := Lib.hid (or_bit _ _ hv2 hb2)
      clear hv hdn hbit hp hq hs
      generalize fld (val [a, b, c]) (lo + (k + 1)) (n - (k + 1)) = vv at *
      generalize [a, b, c].getD q 0 = x at *
      go_wp2
      have hw2 : IntKind.u64.wrap ((x / 2 ^ s % 2 : Nat) : Int) = ((x / 2 ^ s % 2 : Nat) : Int) := by
        generalize x / 2 ^ s % 2 = bb at *
        show (bb : Int) % 18446744073709551616 = _
        omega
      refine ⟨⟨k, by omega, rfl, ?_⟩, by simp [intOf]; try omega⟩
      rw [b32.out, hw2, hor.out, ← HDN.out, show p = lo + k by omega]
theorem Bits_bad (a b c : Nat) (lo n : Int) (w : World) (hlo : I64 lo) (hn : I64 n) (hf : fieldB lo n = false) :
    Calls Tryz.prog 26 #[wideV a b c, I lo, I n] w (Grew (T2 (.int .u64 ((0 : Nat) : Int)) (I 2)) w) := by
  have F := Lib.hid (fun W => field_any lo n W hlo hn)
  rw [hf] at F
  clear hf
  go_enter Tryz.func26, Tryz.ntmps26
  go_wp2_with fail
  refine (F.out _).mono ?_
  rintro e w' ⟨rfl, rfl⟩
  go_wp2
  go_ret2
  exact ⟨rfl, (by repeat first | exact Below.refl _ _ | assumption | refine drewN_below ?_ _ | refine Below.alloc ?_ (by first | exact Nat.le_refl _ | exact Below.size (by assumption) | (simp; done) | (simp; omega) | omega) _ | refine Below.setCell ?_ (by first | exact Nat.le_refl _ | (simp; done) | (simp; omega) | omega) _)⟩
end Go.Proofs.YtmciccnmpoijdaaGreatDoor
namespace Go.Proofs.YtmciccnmpoijdaaGreatDoor
open Go.RowKit
set_option maxRecDepth 20000

theorem clear_nat {x s : Nat} (hx : x < 4294967296) (hs : s < 32) : x &&& (4294967295 - 2 ^ s) = setB x s 0 := by
  have hp : 2 ^ s < 2 ^ 32 := Nat.pow_lt_pow_right (by decide) hs
  have hl := Nat.mod_lt x (Nat.two_pow_pos s)
  have e : setB x s 0 = 2 ^ s * (2 * (x / 2 ^ (s + 1))) + x % 2 ^ s := by
    have h := word_parts x s
    unfold setB
    rw [Nat.mul_add, Nat.mul_comm (2 ^ s) (x / 2 ^ s % 2)] at h
    rw [Nat.zero_mul]
    omega
  apply Nat.eq_of_testBit_eq
  intro i
  rw [e, Nat.testBit_two_pow_mul_add _ hl, Nat.testBit_and, show 4294967295 - 2 ^ s = 2 ^ 32 - (2 ^ s + 1) by omega, Nat.testBit_two_pow_sub_succ hp, Nat.testBit_two_pow]
  by_cases h32 : i < 32
  · rcases Nat.lt_trichotomy i s with h | h | h
    · rw [if_pos h, Nat.testBit_mod_two_pow]
      simp [h, h32]; omega
    · subst h; simp
    · obtain ⟨j, rfl⟩ : ∃ j, i = s + 1 + j := ⟨i - (s + 1), by omega⟩
      rw [if_neg (by omega), show s + 1 + j - s = j + 1 by omega, Nat.testBit_succ, Nat.mul_div_cancel_left _ (by decide), Nat.testBit_div_two_pow]
      have hne : ¬ s = s + 1 + j := by omega
      simp [h32, hne, Nat.add_comm j]
  · have hxi : x.testBit i = false := Nat.testBit_lt_two_pow (Nat.lt_of_lt_of_le hx (Nat.pow_le_pow_right (by decide) (by omega) : 2 ^ 32 ≤ 2 ^ i))
    obtain ⟨j, rfl⟩ : ∃ j, i = s + 1 + j := ⟨i - (s + 1), by omega⟩
    rw [if_neg (by omega), show s + 1 + j - s = j + 1 by omega, Nat.testBit_succ, Nat.mul_div_cancel_left _ (by decide), Nat.testBit_div_two_pow, Nat.add_comm j, hxi]
    rfl
theorem setB_lt {x s y : Nat} (hx : x < 4294967296) (hs : s < 32) (hy : y ≤ 1) : setB x s y < 4294967296 := by
  have hp : 2 ^ s < 2 ^ 32 := Nat.pow_lt_pow_right (by decide) hs
  have h0 : setB x s 0 < 4294967296 := by rw [← clear_nat hx hs]; exact Nat.lt_of_le_of_lt Nat.and_le_left hx
  by_cases h : y = 0
  · rw [h]; exact h0
  · have hy1 : y = 1 := by omega
    subst hy1
    rw [← clear_or]
    have h1 : x - x / 2 ^ s % 2 * 2 ^ s < 2 ^ 32 := by have := Nat.sub_le x (x / 2 ^ s % 2 * 2 ^ s); omega
    exact Nat.or_lt_two_pow h1 hp
theorem bl_le {v n : Nat} (hv : v < 18446744073709551616) : bl v ≤ n ↔ v < 2 ^ n := by
  by_cases h0 : v = 0
  · subst h0; rw [bl_zero]; simp [Nat.two_pow_pos]
  · obtain ⟨h1, h2, h3, h4⟩ := bl_bd hv h0
    constructor
    · exact fun h => Nat.lt_of_lt_of_le h4 (Nat.pow_le_pow_right (by decide) h)
    · intro h
      have := (Nat.pow_lt_pow_iff_right (show 1 < 2 by decide)).1 (Nat.lt_of_le_of_lt h3 h)
      omega

def PutRel (W : World) (N lo v k : Nat) (wr : World) : Prop :=
  ∃ x y z : Nat, (x < 4294967296 ∧ y < 4294967296 ∧ z < 4294967296) ∧ val [x, y, z] = putV N lo v k ∧ Own wr W.heap.size [U32 x, U32 y, U32 z] ∧ Own wr (W.heap.size + 1) [U32 0, U32 0, U32 0] ∧ Below W.heap.size W wr
/-- the three words with word q made other -/
theorem put3 (x y z q u : Nat) (hq : q < 3) : ∃ x' y' z' : Nat, [x, y, z].set q u = [x', y', z'] ∧ ([U32 x, U32 y, U32 z] : List Value).set q (U32 u) = [U32 x', U32 y', U32 z'] ∧ (x < 4294967296 → y < 4294967296 → z < 4294967296 → u < 4294967296 → x' < 4294967296 ∧ y' < 4294967296 ∧ z' < 4294967296) := by
  rcases (show q = 0 ∨ q = 1 ∨ q = 2 by omega) with rfl | rfl | rfl
  · exact ⟨u, y, z, rfl, rfl, fun _ b c d => ⟨d, b, c⟩⟩
  · exact ⟨x, u, z, rfl, rfl, fun a _ c d => ⟨a, d, c⟩⟩
  · exact ⟨x, y, u, rfl, rfl, fun a b _ d => ⟨a, b, d⟩⟩
/-- what a round of Put finds and leaves: word q of the number, xq; behind one store (the bit is 0), or two (it is 1) -/
theorem PutRel.round {W : World} {N lo v k p q s : Nat} {wr : World} (h : PutRel W N lo v k wr) (hp : p = lo + k) (hp96 : p < 96) (hq : q = p / 32) (hs : s = p % 32) :
    ∃ xq : Nat, xq < 4294967296 ∧ wr.cell? ⟨W.heap.size, q, none⟩ = some (U32 xq) ∧ wr.frozen? ⟨W.heap.size, q, none⟩ = false ∧
      (v / 2 ^ k % 2 = 0 → Hid (PutRel W N lo v (k + 1) (wr.setCell ⟨W.heap.size, q, none⟩ (U32 (setB xq s 0 : Nat))))) ∧
      (v / 2 ^ k % 2 = 1 → Hid (PutRel W N lo v (k + 1) ((wr.setCell ⟨W.heap.size, q, none⟩ (U32 (setB xq s 0 : Nat))).setCell ⟨W.heap.size, q, none⟩ (U32 (setB xq s 1 : Nat))))) := by
  obtain ⟨x, y, z, ⟨hx, hy, hz⟩, hv, o1, o2, hb⟩ := h
  have hq3 : q < 3 := by omega
  have hs32 : s < 32 := by omega
  have hxq : [x, y, z].getD q 0 < 4294967296 := by
    rcases (show q = 0 ∨ q = 1 ∨ q = 2 by omega) with rfl | rfl | rfl
    · exact hx
    · exact hy
    · exact hz
  have hstep := putV_succ N lo v k
  have hbit := putV_bit N lo v k
  have hwb := wide_bit2 x y z p hx hy hp96
  rw [← hq, ← hs] at hwb
  have hset : ∀ u, val ([x, y, z].set q (setB ([x, y, z].getD q 0) s u)) + (val [x, y, z] / 2 ^ p % 2) * 2 ^ p = val [x, y, z] + u * 2 ^ p := fun u => by
    have := val_put x y z p u hp96
    rw [← hq, ← hs, hwb] at this
    exact this
  rw [hv, hp, hbit] at hset
  refine ⟨[x, y, z].getD q 0, hxq, ?_, o1.frozen q, fun h0 => ?_, fun h1 => ?_⟩
  · have := o1.cell q (by simpa using hq3)
    rw [Nat.zero_add] at this
    rw [this]
    rcases (show q = 0 ∨ q = 1 ∨ q = 2 by omega) with rfl | rfl | rfl <;> rfl
  · rw [h0, Nat.zero_mul, Nat.add_zero] at hstep
    have h2 := hset 0
    rw [Nat.zero_mul, Nat.add_zero] at h2
    obtain ⟨x', y', z', e1, e2, e3⟩ := put3 x y z q (setB ([x, y, z].getD q 0) s 0) hq3
    have ho := o1.set q (U32 (setB ([x, y, z].getD q 0) s 0 : Nat))
    rw [e2] at ho
    rw [e1] at h2
    exact ⟨x', y', z', e3 hx hy hz (setB_lt hxq hs32 (by omega)), by omega, ho, o2.other (a := ⟨W.heap.size, q, none⟩) (by show W.heap.size ≠ W.heap.size + 1; omega) _, hb.setCell (p := ⟨W.heap.size, q, none⟩) (Nat.le_refl _) _⟩
  · rw [h1] at hstep
    have h2 := hset 1
    obtain ⟨x', y', z', e1, e2, e3⟩ := put3 x y z q (setB ([x, y, z].getD q 0) s 1) hq3
    have ho := (o1.set q (U32 (setB ([x, y, z].getD q 0) s 0 : Nat))).set q (U32 (setB ([x, y, z].getD q 0) s 1 : Nat))
    rw [List.set_set, e2] at ho
    rw [e1] at h2
    exact ⟨x', y', z', e3 hx hy hz (setB_lt hxq hs32 (by omega)), by omega, ho, (o2.other (a := ⟨W.heap.size, q, none⟩) (by show W.heap.size ≠ W.heap.size + 1; omega) _).other (a := ⟨W.heap.size, q, none⟩) (by show W.heap.size ≠ W.heap.size + 1; omega) _, (hb.setCell (p := ⟨W.heap.size, q, none⟩) (Nat.le_refl _) _).setCell (p := ⟨W.heap.size, q, none⟩) (Nat.le_refl _) _⟩
def GrewW2 (a b c : Nat) (er : Int) (w : World) (e : Ending) (w' : World) : Prop := e = .returned (T2 (wideV a b c) (I er)) ∧ Below w.heap.size w w'
theorem Len64_word (b : Nat) (w : World) (hb : b < 18446744073709551616) : Calls Tryz.prog 98 #[.int .u64 b] w (Pure (I (bl b)) w) := by
  refine (Tryz.bits_Len64 (b : Int) w (by omega) (by omega)).mono ?_
  rintro e w' ⟨rfl, rfl⟩
  exact Pure.intro rfl
theorem PutRel.start {W : World} {a b c lo v : Nat} (ha : a < 4294967296) (hb : b < 4294967296) (hc : c < 4294967296) : PutRel W (val [a, b, c]) lo v 0 ((W.alloc (.cells #[U32 a, U32 b, U32 c] 60)).alloc (.cells #[U32 0, U32 0, U32 0] 60)) :=
  ⟨a, b, c, ⟨ha, hb, hc⟩, (putV_zero _ _ _).symm, (Own.new (w := W) rfl [U32 a, U32 b, U32 c] 60).alloc _, Own.new (by simp) [U32 0, U32 0, U32 0] 60, (boxed_below W _).alloc (boxed_below W _).size _⟩
theorem vbit64 (v k : Nat) (hv : v < 18446744073709551616) : bits .and .u64 ((v : Int) / 2 ^ k) 1 = ((v / 2 ^ k % 2 : Nat) : Int) := by
  have e : (v : Int) / 2 ^ k = ((v / 2 ^ k : Nat) : Int) := by push_cast; rfl
  have := u64_and_nat (v / 2 ^ k) 1 (Nat.lt_of_le_of_lt (Nat.div_le_self _ _) hv) (by decide)
  rw [Nat.and_one_is_mod] at this
  rw [e]; exact this
theorem clear_op {x s : Nat} (hx : x < 4294967296) (hs : s < 32) : bits .andNot .u32 (x : Int) ((2 ^ s : Nat) : Int) = ((setB x s 0 : Nat) : Int) := by
  have hp : 2 ^ s < 2 ^ 32 := Nat.pow_lt_pow_right (by decide) hs
  rw [u32_andNot_nat x (2 ^ s) hx (by omega), clear_nat hx hs]
theorem set_op {x s : Nat} (hx : x < 4294967296) (hs : s < 32) : bits .or .u32 ((setB x s 0 : Nat) : Int) ((2 ^ s : Nat) : Int) = ((setB x s 1 : Nat) : Int) := by
  have hp : 2 ^ s < 2 ^ 32 := Nat.pow_lt_pow_right (by decide) hs
  rw [u32_or_nat _ _ (setB_lt hx hs (by omega)) (by omega)]
  congr 1
  rw [← clear_or]
  congr 1
  unfold setB; rw [Nat.zero_mul, Nat.add_zero]
end Go.Proofs.YtmciccnmpoijdaaGreatDoor
