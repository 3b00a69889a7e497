/- cents.Part answers as the reference does, at every argument. No conditions. -/
import Derived.Test.YtckhdbppomicmaaLift
import Derived.Test.YtckhdbppomicmaaIn
namespace Go.Proofs.Ytckhdbppomicmaa.centsParts
open Go.ChangeShapes Go.WideShapes Go.ChangeAt Go.RowKit
set_option maxRecDepth 20000

theorem within_any (n low high : Int) (w : World) : Calls Try.prog 42 #[I n, I low, I high] w (Pure (.bool (inB n low high)) w) := by
  go_enter Try.func42, Try.ntmps42
  go_wp2
  all_goals
    go_ret
    refine Pure.intro ?_
    simp only [inB]
    simp [*]
    try omega

def ok (a b : Int) : Bool := inB a 0 1000000000000 && inB b 0 10000
def partA (a b : Int) : Int := if ok a b then a * b / 10000 else 0
def partE (a b : Int) : Int := if ok a b then 0 else 2

theorem mul_le (a b : Int) (h0 : 0 ≤ a) (h1 : a ≤ 1000000000000) (g0 : 0 ≤ b) (g1 : b ≤ 10000) : 0 ≤ a * b ∧ a * b ≤ 10000000000000000 := by
  refine ⟨Int.mul_nonneg h0 g0, ?_⟩
  calc a * b ≤ a * 10000 := Int.mul_le_mul_of_nonneg_left g1 h0
    _ ≤ 1000000000000 * 10000 := by omega

theorem part_any (a b : Int) (w : World) : Calls Try.prog 21 #[I a, I b] w (Pure (T2 (I (partA a b)) (I (partE a b))) w) := by
  by_cases ha : inB a 0 1000000000000 = true
  · by_cases hb : inB b 0 10000 = true
    · have ha' := inB_true.1 ha
      have hb' := inB_true.1 hb
      have hm := mul_le a b ha'.1 ha'.2 hb'.1 hb'.2
      have hm0 := hm.1
      have hm1 := hm.2
      go_enter Try.func21, Try.ntmps21
      go_wp2_with (go_at_call 42; refine (within_any _ _ _ _).mono ?_; rintro e w' ⟨rfl, rfl⟩)
      go_ret2
      refine Pure.intro (eI2 ?_ ?_) <;> simp [partA, partE, ok, ha, hb]
    · simp only [Bool.not_eq_true] at hb
      go_enter Try.func21, Try.ntmps21
      go_wp2_with (go_at_call 42; refine (within_any _ _ _ _).mono ?_; rintro e w' ⟨rfl, rfl⟩)
      go_ret2
      refine Pure.intro (eI2 ?_ ?_) <;> simp [partA, partE, ok, ha, hb]
  · simp only [Bool.not_eq_true] at ha
    go_enter Try.func21, Try.ntmps21
    go_wp2_with (go_at_call 42; refine (within_any _ _ _ _).mono ?_; rintro e w' ⟨rfl, rfl⟩)
    go_ret2
    refine Pure.intro (eI2 ?_ ?_) <;> simp [partA, partE, ok, ha]

theorem mul_eq (a b : Int) : a / 10000 * b + a % 10000 * b / 10000 = a * b / 10000 := by
  have h : a * b = 10000 * (a / 10000 * b) + a % 10000 * b := by
    conv => lhs; rw [← Int.mul_ediv_add_emod a 10000]
    rw [Int.add_mul, Int.mul_assoc]
  rw [h, Int.add_comm (10000 * _), Int.add_mul_ediv_left _ _ (by decide), Int.add_comm]

theorem parted_any (a b : Int) (w : World) : Calls Try.prog 22 #[I a, I b] w (Pure (T2 (I (partA a b)) (I (partE a b))) w) := by
  by_cases ha : inB a 0 1000000000000 = true
  · by_cases hb : inB b 0 10000 = true
    · have ha' := inB_true.1 ha
      have hb' := inB_true.1 hb
      obtain ⟨h0, h1⟩ := ha'
      have hm := mul_le (a / 10000) b (by omega) (by omega) hb'.1 hb'.2
      have hm0 := hm.1
      have hm1 := hm.2
      have hn := mul_le (a % 10000) b (by omega) (by omega) hb'.1 hb'.2
      have hn0 := hn.1
      have hn1 := hn.2
      go_enter Try.func22, Try.ntmps22
      go_wp2_with (go_at_call 41; refine (In_any _ _ _ _).mono ?_; rintro e w' ⟨rfl, rfl⟩)
      go_ret2
      refine Pure.intro (eI2 ?_ ?_)
      · rw [mul_eq]; simp [partA, ok, ha, hb]
      · simp [partE, ok, ha, hb]
    · simp only [Bool.not_eq_true] at hb
      go_enter Try.func22, Try.ntmps22
      go_wp2_with (go_at_call 41; refine (In_any _ _ _ _).mono ?_; rintro e w' ⟨rfl, rfl⟩)
      go_ret2
      refine Pure.intro (eI2 ?_ ?_) <;> simp [partA, partE, ok, ha, hb]
  · simp only [Bool.not_eq_true] at ha
    go_enter Try.func22, Try.ntmps22
    go_wp2_with (go_at_call 41; refine (In_any _ _ _ _).mono ?_; rintro e w' ⟨rfl, rfl⟩)
    go_ret2
    refine Pure.intro (eI2 ?_ ?_) <;> simp [partA, partE, ok, ha]

theorem walk (a b : Int) (w : World) : Calls Try.prog 6 #[I a, I b] w (Pure (.bool true) w) := by
  go_enter Try.func6, Try.ntmps6
  go_wp2_with (first | (go_at_call 21; refine (part_any _ _ _).mono ?_; rintro e w' ⟨rfl, rfl⟩) | (go_at_call 22; refine (parted_any _ _ _).mono ?_; rintro e w' ⟨rfl, rfl⟩))
  go_ret
  exact Pure.intro rfl

set_option maxRecDepth 100000 in
theorem lifted (os : Os) (started : os.Started) (H : Type) (enc : TypeId × Value → H) :
    ReturnsInHanded {} Try.checked os 6 .any (Rows.centsPartsSpec.pre6 enc Try.prog Try.f6 Rows.centsPartsRow.domain false) (Rows.centsPartsSpec.post enc Try.prog Try.f6 false true false false) := by
  refine returnsInHanded_of_change_sized (C := Try.checked) own started (by kernel_rfl) Try.func6
    (ChangeSpec.witness6 (enc := enc) (C := Try.checked) false ⟨#[], #[.int .i64 0, .int .i64 0], []⟩ 8 (by kernel_rfl) (by kernel_rfl) (by kernel_rfl) (by kernel_rfl)) ?_
  intro W base args ds gs before hval hW hcnd hsz _
  have hfin := fun W' => post_true (fn := Try.f6) (s := Rows.centsPartsSpec) (bt := 4) (W' := W') rfl laidOut (by kernel_rfl) Try.underlying4 rfl (fun ds h => by match ds, h with | [_, _], _ => rfl) hW
  obtain ⟨p, q, hA, hV, rfl, hfz, hnd⟩ := hW
  obtain ⟨rfl, rfl⟩ := trodVars_none hV
  rw [Try.params6] at hA hval
  obtain ⟨v0, vs0, d0, ds0, p0, q0, hargs, rfl, rfl, h0, r0⟩ := trodAll_cons hA
  obtain ⟨v1, vs1, d1, ds1, p1, q1, rfl, rfl, rfl, h1, r1⟩ := trodAll_cons r0
  obtain ⟨rfl, rfl, rfl⟩ := trodAll_nil r1
  obtain rfl : args = #[v0, v1] := by cases args; simp_all
  obtain ⟨a0, rfl, rfl, rfl, wf0⟩ := open_int Try.underlying3 (hval 0 3 v0 rfl rfl) h0
  obtain ⟨a1, rfl, rfl, rfl, wf1⟩ := open_int Try.underlying3 (hval 1 3 v1 rfl rfl) h1
  exact (walk a0 a1 W ).mono fun e W' h => by
    obtain ⟨rfl, hb⟩ := h.grew
    exact ⟨_, rfl, hfin W' hb⟩

theorem over : Rows.centsPartsRow.holds Try.pinned (OpenSpec.ofChange Rows.centsPartsSpec) :=
  OpenClaim.holds_of_wide 6 Try.f6 rfl rfl rfl rfl rfl rfl rfl ⟨rfl, rfl, rfl, rfl, rfl⟩ rfl rfl rfl rfl rfl (by kernel_rfl) Try.func6 (by kernel_rfl)
    (of_decide_eq_true (by kernel_rfl)) (by unfold Func.isWrapper; first | (rw [if_pos (by decide +kernel)]; kernel_rfl) | (rw [if_neg (by decide +kernel)]; exact ⟨rfl, rfl⟩))
    (fun os started H enc _ => lifted os started H enc)

theorem proved : Rows.CentsPartsSaid := over
#print axioms proved
end Go.Proofs.Ytckhdbppomicmaa.centsParts
