/- two wide numbers held against each other -/
import Derived.Test.YtgldppmkiieoaaaApi
import Derived.ChangeKeysEq
namespace Go.Proofs.Ytgldppmkiieoaaa
open Go.RowKit
set_option maxRecDepth 20000
theorem cellsWide : Try.prog.cellsOf 22 = 1 := by kernel_rfl
theorem equalWide (a b c a' b' c' : Int) (w : World) : (Op.equalIn 10000 24 (.agg #[U32 a, U32 b, U32 c]) (.agg #[U32 a', U32 b', U32 c'])).run Try.prog w = .ok (decide (a = a' ∧ b = b' ∧ c = c')) w := by
  obtain ⟨i, hi⟩ : ∃ i, Try.prog.info? 22 = some i := by
    have h : (Try.prog.info? 22).isSome = true := by kernel_rfl
    exact Option.isSome_iff_exists.1 h
  have hu : Try.prog.underlying 24 = some (.array 3 22) := by kernel_rfl
  have hu2 : Try.prog.underlying 22 = some (.int .u32) := by kernel_rfl
  rw [run_equalIn_array w 9999 _ _ hu hi, cellsWide]
  simp [Op.eqItems, List.range, List.range.loop, go_sem, hu2]
  by_cases h1 : a = a' <;> by_cases h2 : b = b' <;> by_cases h3 : c = c' <;> simp [h1, h2, h3]
theorem equalWide_same (a b c : Int) (w : World) : (Op.equalIn 10000 24 (.agg #[U32 a, U32 b, U32 c]) (.agg #[U32 a, U32 b, U32 c])).run Try.prog w = .ok true w := by rw [equalWide]; simp
end Go.Proofs.Ytgldppmkiieoaaa
