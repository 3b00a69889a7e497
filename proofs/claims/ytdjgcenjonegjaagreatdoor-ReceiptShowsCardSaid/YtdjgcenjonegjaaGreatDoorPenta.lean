/- the pentagon: motions, ref.Moved -/
import Derived.Test.YtdjgcenjonegjaaGreatDoorPk05
set_option maxRecDepth 20000
set_option maxHeartbeats 8000000
set_option linter.unusedSimpArgs false
set_option linter.unusedVariables false
namespace Go.Proofs.YtdjgcenjonegjaaGreatDoor
open Go.RowKit

theorem all1 {p : Int → Prop} (h : ∀ a : Fin 10, p a.val) (a : Int) (ha : 0 ≤ a) (ha' : a ≤ 9) : p a := by
  obtain ⟨n, rfl⟩ := Int.eq_ofNat_of_zero_le ha; exact h ⟨n, by omega⟩
theorem all2 {p : Int → Int → Prop} (h : ∀ a b : Fin 10, p a.val b.val) (a b : Int) (ha : 0 ≤ a) (ha' : a ≤ 9) (hb : 0 ≤ b) (hb' : b ≤ 9) : p a b :=
  all1 (p := fun a => p a b) (fun a => all1 (p := fun b => p a.val b) (h a) b hb hb') a ha ha'
theorem all3 {p : Int → Int → Int → Prop} (h : ∀ a b c : Fin 10, p a.val b.val c.val) (a b c : Int) (ha : 0 ≤ a) (ha' : a ≤ 9) (hb : 0 ≤ b) (hb' : b ≤ 9) (hc : 0 ≤ c) (hc' : c ≤ 9) : p a b c :=
  all2 (p := fun a b => p a b c) (fun a b => all1 (p := fun c => p a.val b.val c) (h a b) c hc hc') a b ha ha' hb hb'

/-- one motion behind the other -/
def thenI (a b : Int) : Int := if 5 ≤ a then (if 5 ≤ b then (a - b) % 5 else 5 + (a - 5 - b) % 5) else (if 5 ≤ b then 5 + (a + b) % 5 else (a + b) % 5)
theorem thenI_bd (a b : Int) : 0 ≤ thenI a b ∧ thenI a b ≤ 9 := by unfold thenI; repeat' split <;> omega

theorem then_any (a b : Int) (ha : 0 ≤ a) (ha' : a ≤ 9) (hb : 0 ≤ b) (hb' : b ≤ 9) (w : World) : Calls Tryz.prog 94 #[I a, I b] w (Pure (I (thenI a b)) w) := by
  have k1 : Hid (5 ≤ a → (b / 5 == 1) = true → (wrap64 ((a - 5 - b % 5 + 5 * (b / 5)).tmod 5 + 5)).tmod 5 = thenI a b) := Lib.hid (all2 (p := fun a b => 5 ≤ a → (b / 5 == 1) = true → (wrap64 ((a - 5 - b % 5 + 5 * (b / 5)).tmod 5 + 5)).tmod 5 = thenI a b) (by decide +kernel) a b ha ha' hb hb'); have k2 : Hid (5 ≤ a → (b / 5 == 1) = false → wrap64 (5 + (wrap64 ((a - 5 - b % 5 + 5 * (b / 5)).tmod 5 + 5)).tmod 5) = thenI a b) := Lib.hid (all2 (p := fun a b => 5 ≤ a → (b / 5 == 1) = false → wrap64 (5 + (wrap64 ((a - 5 - b % 5 + 5 * (b / 5)).tmod 5 + 5)).tmod 5) = thenI a b) (by decide +kernel) a b ha ha' hb hb'); have k3 : Hid (a < 5 → 5 * (b / 5) + (a + b) % 5 = thenI a b) := Lib.hid (all2 (p := fun a b => a < 5 → 5 * (b / 5) + (a + b) % 5 = thenI a b) (by decide +kernel) a b ha ha' hb hb'); go_enter Tryz.func94, Tryz.ntmps94; go_wp2
  all_goals
    go_ret; refine Pure.intro (eI ?_)
    first
      | exact k1.out (by assumption) (by assumption)
      | exact k2.out (by assumption) (by assumption)
      | exact k3.out (by assumption)

/-- what undoes it -/
def backI (a : Int) : Int := if 5 ≤ a then a else (5 - a) % 5
theorem back_any (a : Int) (ha : 0 ≤ a) (ha' : a ≤ 9) (w : World) : Calls Tryz.prog 61 #[I a] w (Pure (I (backI a)) w) := by
  by_cases h : 5 ≤ a
  · go_enter Tryz.func61, Tryz.ntmps61
    go_wp2; go_ret; exact Pure.intro (eI (by simp [backI, h]))
  · go_enter Tryz.func61, Tryz.ntmps61
    go_wp2; go_ret; exact Pure.intro (eI (by unfold backI; rw [if_neg (by omega)]; omega))

def mulOk (a b : Int) : Bool := inB a 0 9 && inB b 0 9
def mulA (a b : Int) : Int := if mulOk a b then thenI a b else 0
def mulE (a b : Int) : Int := if mulOk a b then 0 else 2

def invA (a : Int) : Int := if inB a 0 9 then backI a else 0
def invE (a : Int) : Int := if inB a 0 9 then 0 else 2
/-- where the corner x comes to lie by the motion a -/
def cornerI (a x : Int) : Int := if a < 5 then (x + a).tmod 5 else (a - x).tmod 5

theorem corner_any (a x : Int) (ha : 0 ≤ a) (ha' : a ≤ 9) (hx : -9 ≤ x) (hx' : x ≤ 9) (w : World) : Calls Tryz.prog 145 #[I a, I x] w (Pure (I (cornerI a x)) w) := by
  by_cases h : a < 5
  · go_enter Tryz.func145, Tryz.ntmps145
    go_wp2; go_ret; exact Pure.intro (eI (by simp [cornerI, h]))
  · go_enter Tryz.func145, Tryz.ntmps145
    go_wp2; go_ret; exact Pure.intro (eI (by unfold cornerI; rw [if_neg (by omega)]))

theorem cornerI_bd (a x : Int) (ha : 0 ≤ a) (ha' : a ≤ 9) (hx : -9 ≤ x) (hx' : x ≤ 9) : -4 ≤ cornerI a x ∧ cornerI a x ≤ 4 := by
  have t : ∀ n : Int, -18 ≤ n → n ≤ 18 → -4 ≤ n.tmod 5 ∧ n.tmod 5 ≤ 4 := by
    intro n h1 h2; have : ∀ m : Fin 37, -4 ≤ ((m.val : Int) - 18).tmod 5 ∧ ((m.val : Int) - 18).tmod 5 ≤ 4 := by decide +kernel
    have := this ⟨(n + 18).toNat, by omega⟩; simp only at this
    rwa [show (((n + 18).toNat : Nat) : Int) - 18 = n by omega] at this
  unfold cornerI
  split
  · exact t _ (by omega) (by omega)
  · exact t _ (by omega) (by omega)

def hitB (a b c : Int) : Bool := (cornerI c 0 == cornerI a (cornerI b 0)) && (cornerI c 1 == cornerI a (cornerI b 1))
theorem hit_eq (a b c : Int) (ha : 0 ≤ a) (ha' : a ≤ 9) (hb : 0 ≤ b) (hb' : b ≤ 9) (hc : 0 ≤ c) (hc' : c ≤ 9) : hitB a b c = decide (c = thenI a b) :=
  all3 (p := fun a b c => hitB a b c = decide (c = thenI a b)) (by decide +kernel) a b c ha ha' hb hb' hc hc'

theorem Moved_any (a b : Int) (w : World) : Calls Tryz.prog 110 #[I a, I b] w (Pure (T2 (I (mulA a b)) (I (mulE a b))) w) := by
  by_cases ha : inB a 0 9 = true
  · by_cases hb : inB b 0 9 = true
    · obtain ⟨h0, h1⟩ := inB_true.1 ha
      obtain ⟨g0, g1⟩ := inB_true.1 hb; obtain ⟨t0, t1⟩ := thenI_bd a b; go_enter Tryz.func110, Tryz.ntmps110
      go_wp2_with (go_at_call 38; refine (In_any _ _ _ _).mono ?_; rintro e w' ⟨rfl, rfl⟩)
      go_loop [6] (fun k => ∃ c : Int, 0 ≤ c ∧ c ≤ thenI a b ∧ k = I c) (fun k => (10 - intOf k).toNat)
      case atStart => exact ⟨0, by omega, t0, rfl⟩
      case round =>
        obtain ⟨c, hc0, hc1, rfl⟩ := hrel; have hh : Hid (hitB a b c = decide (c = thenI a b)) := Lib.hid (hit_eq a b c h0 h1 g0 g1 hc0 (by omega)); obtain ⟨b00, b01⟩ := cornerI_bd b 0 g0 g1 (by omega) (by omega); obtain ⟨b10, b11⟩ := cornerI_bd b 1 g0 g1 (by omega) (by omega)
        go_wp2_with (go_at_call 145; refine (corner_any _ _ (by omega) (by omega) (by omega) (by omega) _).mono ?_; rintro e w' ⟨rfl, rfl⟩)
        · have h8 : cornerI c 0 = cornerI a (cornerI b 0) := by assumption
          have h9 : (cornerI c 1 == cornerI a (cornerI b 1)) = true := by assumption
          have hc : c = thenI a b := by have := hh.out; rw [hitB, h8, h9] at this; simpa using this
          subst hc; go_ret2; refine Pure.intro (eI2 ?_ ?_) <;> simp [mulA, mulE, mulOk, ha, hb]
        · have h8 : cornerI c 0 = cornerI a (cornerI b 0) := by assumption
          have h9 : (cornerI c 1 == cornerI a (cornerI b 1)) = false := by assumption
          have hc : c ≠ thenI a b := by have := hh.out; rw [hitB, h8, h9] at this; simpa using this
          exact ⟨⟨c + 1, by omega, by omega, rfl⟩, by simp [intOf]; omega⟩
        · have h8 : ¬ cornerI c 0 = cornerI a (cornerI b 0) := by assumption
          have hc : c ≠ thenI a b := by have := hh.out; rw [hitB, beq_eq_false_iff_ne.2 h8] at this; simpa using this
          exact ⟨⟨c + 1, by omega, by omega, rfl⟩, by simp [intOf]; omega⟩
    · simp only [Bool.not_eq_true] at hb
      go_enter Tryz.func110, Tryz.ntmps110
      go_wp2_with (go_at_call 38; refine (In_any _ _ _ _).mono ?_; rintro e w' ⟨rfl, rfl⟩)
      go_ret2; refine Pure.intro (eI2 ?_ ?_) <;> simp [mulA, mulE, mulOk, ha, hb]
  · simp only [Bool.not_eq_true] at ha
    go_enter Tryz.func110, Tryz.ntmps110
    go_wp2_with (go_at_call 38; refine (In_any _ _ _ _).mono ?_; rintro e w' ⟨rfl, rfl⟩)
    go_ret2; refine Pure.intro (eI2 ?_ ?_) <;> simp [mulA, mulE, mulOk, ha]

theorem backI_bd (a : Int) (ha : 0 ≤ a) (ha' : a ≤ 9) : 0 ≤ backI a ∧ backI a ≤ 9 := by unfold backI; split <;> omega

end Go.Proofs.YtdjgcenjonegjaaGreatDoor
