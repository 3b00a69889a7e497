/- calendar.Weekday answers as the reference does, at every argument. No conditions. -/
import Derived.Test.YtckhdbppomicmaaLift
import Derived.Test.YtckhdbppomicmaaIn
namespace Go.Proofs.Ytckhdbppomicmaa.calWeekdays
open Go.ChangeShapes Go.WideShapes Go.ChangeAt Go.RowKit

def wdA (d : Int) : Int := if 0 ≤ d ∧ d ≤ 73048 then (d + 5) % 7 else 0
def wdE (d : Int) : Int := if 0 ≤ d ∧ d ≤ 73048 then 0 else 2
abbrev weekdayV (d : Int) : Value := T2 (I (wdA d)) (I (wdE d))

theorem weekday_any (d : Int) (w : World) :
    Calls Try.prog 19 #[.int .i64 d] w (Pure (weekdayV d) w) := by
  go_enter Try.func19, Try.ntmps19
  go_wp2
  all_goals
    go_ret2
    refine Pure.intro ?_
    unfold weekdayV wdA wdE
    first | (rw [if_pos (by omega), if_pos (by omega)]; rfl) | (rw [if_neg (by omega), if_neg (by omega)]; rfl)

theorem weekdayof_any (d : Int) (w : World) :
    Calls Try.prog 20 #[.int .i64 d] w (Pure (weekdayV d) w) := by
  by_cases hd : 0 ≤ d ∧ d ≤ 73048
  · have hin : inB d 0 73048 = true := inB_true.2 hd
    obtain ⟨h0, h1⟩ := hd
    have hm : 0 ≤ d % 7 := by omega
    have hm2 : d % 7 ≤ 6 := by omega
    go_enter Try.func20, Try.ntmps20
    go_wp2_with (go_at_call 41; refine (In_any _ _ _ _).mono ?_; rintro e w' ⟨rfl, rfl⟩)
    go_loop [4, 5] (fun a k => ∃ n : Nat, (n : Int) ≤ d % 7 ∧ k = I n ∧ a = I ((5 + (n : Int)) % 7)) (fun _ k => (d % 7 - intOf k).toNat)
    case atStart => exact ⟨0, by omega, rfl, rfl⟩
    case round =>
      obtain ⟨n, hn, rfl, rfl⟩ := hrel
      by_cases hlt : (n : Int) < d % 7
      · by_cases h6 : (5 + (n : Int)) % 7 = 6
        · have e1 : (5 + (n : Int)) % 7 + 1 = 7 := by omega
          go_wp2
          go_round
          case rel => exact ⟨n + 1, by omega, by go_num, eI (by omega)⟩
          case measure => simp [intOf]; omega
        · have e1 : ((5 + (n : Int)) % 7 + 1 == 7) = false := by simp; omega
          go_wp2
          go_round
          case rel => exact ⟨n + 1, by omega, by go_num, eI (by omega)⟩
          case measure => simp [intOf]; omega
      · go_wp2
        go_ret2
        refine Pure.intro ?_
        unfold weekdayV wdA wdE
        rw [if_pos ⟨h0, h1⟩, if_pos ⟨h0, h1⟩]
        exact eI2 (by omega) rfl
  · have hin : inB d 0 73048 = false := inB_false.2 hd
    go_enter Try.func20, Try.ntmps20
    go_wp2_with (go_at_call 41; refine (In_any _ _ _ _).mono ?_; rintro e w' ⟨rfl, rfl⟩)
    go_ret2
    refine Pure.intro ?_
    unfold weekdayV wdA wdE
    rw [if_neg hd, if_neg hd]; rfl

theorem walk (d : Int) (w : World) :
    Calls Try.prog 5 #[.int .i64 d] w (Pure (.bool true) w) := by
  go_enter Try.func5, Try.ntmps5
  go_wp2_with (first | (go_at_call 19; refine (weekday_any _ _).mono ?_; rintro e w' ⟨rfl, rfl⟩) | (go_at_call 20; refine (weekdayof_any _ _).mono ?_; rintro e w' ⟨rfl, rfl⟩))
  go_ret
  exact Pure.intro rfl

set_option maxRecDepth 100000 in
theorem lifted (os : Os) (started : os.Started) (H : Type) (enc : TypeId × Value → H) :
    ReturnsInHanded {} Try.checked os 5 .any (Rows.calWeekdaysSpec.pre6 enc Try.prog Try.f5 Rows.calWeekdaysRow.domain false) (Rows.calWeekdaysSpec.post enc Try.prog Try.f5 false true false false) := by
  refine returnsInHanded_of_change_sized (C := Try.checked) own started (by kernel_rfl) Try.func5
    (ChangeSpec.witness6 (enc := enc) (C := Try.checked) false ⟨#[], #[.int .i64 0], []⟩ 8 (by kernel_rfl) (by kernel_rfl) (by kernel_rfl) (by kernel_rfl)) ?_
  intro W base args ds gs before hval hW hcnd hsz _
  have hfin := fun W' => post_true (fn := Try.f5) (s := Rows.calWeekdaysSpec) (bt := 4) (W' := W') rfl laidOut (by kernel_rfl) Try.underlying4 rfl (fun ds h => by match ds, h with | [_], _ => rfl) hW
  obtain ⟨p, q, hA, hV, rfl, hfz, hnd⟩ := hW
  rw [Try.params5] at hA hval
  obtain ⟨v0, vs0, d0, ds0, p0, q0, hargs, rfl, rfl, h0, r0⟩ := trodAll_cons hA
  obtain ⟨rfl, rfl, rfl⟩ := trodAll_nil r0
  obtain rfl : args = #[v0] := by cases args; simp_all
  obtain ⟨a0, rfl, rfl, rfl, w0⟩ := open_int Try.underlying3 (hval 0 3 v0 rfl rfl) h0
  exact (walk a0 W).mono fun e W' h => by
    obtain ⟨rfl, hb⟩ := h.grew
    exact ⟨_, rfl, hfin W' hb⟩

theorem over : Rows.calWeekdaysRow.holds Try.pinned (OpenSpec.ofChange Rows.calWeekdaysSpec) :=
  OpenClaim.holds_of_wide 5 Try.f5 rfl rfl rfl rfl rfl rfl rfl ⟨rfl, rfl, rfl, rfl, rfl⟩ rfl rfl rfl rfl rfl (by kernel_rfl) Try.func5 (by kernel_rfl)
    (of_decide_eq_true (by kernel_rfl)) (by unfold Func.isWrapper; first | (rw [if_pos (by decide +kernel)]; kernel_rfl) | (rw [if_neg (by decide +kernel)]; exact ⟨rfl, rfl⟩))
    (fun os started H enc _ => lifted os started H enc)

theorem proved : Rows.CalWeekdaysSaid := over
#print axioms proved
end Go.Proofs.Ytckhdbppomicmaa.calWeekdays
