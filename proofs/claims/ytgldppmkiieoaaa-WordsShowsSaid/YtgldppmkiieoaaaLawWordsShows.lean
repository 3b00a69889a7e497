/- words.Show answers as the reference does, at every argument. No conditions. -/
import Derived.Test.YtgldppmkiieoaaaLift
import Derived.Test.YtgldppmkiieoaaaDecode
import Derived.Test.YtgldppmkiieoaaaDecodeW
import Derived.Test.YtgldppmkiieoaaaShowProg
import Derived.Test.YtgldppmkiieoaaaShowRef
namespace Go.Proofs.Ytgldppmkiieoaaa.wordsShows
open Go.ChangeShapes Go.WideShapes Go.ChangeAt Go.RowKit
set_option maxRecDepth 20000
set_option maxHeartbeats 2000000 in
theorem walk (a b c : Int) (w : World) (ha : W32 a) (hb : W32 b) (hc : W32 c) : Calls Try.prog 7 #[.agg #[U32 a, U32 b, U32 c]] w (Grew (.bool true) w) := by
  obtain ⟨a0, a1⟩ := ha
  obtain ⟨b0, b1⟩ := hb
  obtain ⟨c0, c1⟩ := hc
  obtain ⟨a, rfl⟩ := Int.eq_ofNat_of_zero_le a0
  obtain ⟨b, rfl⟩ := Int.eq_ofNat_of_zero_le b0
  obtain ⟨c, rfl⟩ := Int.eq_ofNat_of_zero_le c0
  have P := Lib.hid (fun W => Show_any a b c W (by omega) (by omega) (by omega))
  have R := Lib.hid (fun W => WideShown_any a b c W (by omega) (by omega) (by omega))
  generalize val [a, b, c] = N at *
  clear a0 a1 b0 b1 c0 c1
  go_enter Try.func7, Try.ntmps7
  go_wp2_with fail
  refine (P.out _).mono ?_
  rintro e w1 ⟨L, hL, rfl, k1⟩
  have dO := (Own.new (w := w) rfl [U32 a, U32 b, U32 c] 24).below k1
  have d0 := dO.cell 0 (by simp)
  have df0 := dO.frozen 0
  have d1 := dO.cell 1 (by simp)
  have df1 := dO.frozen 1
  have d2 := dO.cell 2 (by simp)
  have df2 := dO.frozen 2
  simp only [Nat.zero_add, List.getD_cons_zero, List.getD_cons_succ] at d0 d1 d2
  clear dO
  have k := below_box k1
  clear k1
  go_wp2_with fail
  refine (R.out _).mono ?_
  rintro e w2 ⟨L', hL', rfl, k2⟩
  obtain rfl := hL.unique hL'
  have kk := k.trans (k2.mono k.size)
  clear k2 k d0 d1 d2 df0 df1 df2 hL hL'
  generalize showB N L = s at *
  go_wp2
  go_ret
  exact Grew.intro (by simp) kk

set_option maxRecDepth 100000 in
theorem lifted (os : Os) (started : os.Started) (H : Type) (enc : TypeId × Value → H) :
    ReturnsInHanded {} Try.checked os 7 .any (Rows.wordsShowsSpec.pre6 enc Try.prog Try.f7 Rows.wordsShowsRow.domain false) (Rows.wordsShowsSpec.post enc Try.prog Try.f7 false true false false) := by
  refine returnsInHanded_of_change_sized (C := Try.checked) own started (by kernel_rfl) Try.func7
    (ChangeSpec.witness6 (enc := enc) (C := Try.checked) false ⟨#[], #[.agg #[.int .u32 0, .int .u32 0, .int .u32 0]], []⟩ 8 (by kernel_rfl) (by kernel_rfl) (by kernel_rfl) (by kernel_rfl)) ?_
  intro W base args ds gs before hval hW hcnd hsz _
  have hfin := fun W' => post_true (fn := Try.f7) (s := Rows.wordsShowsSpec) (bt := 4) (W' := W') rfl laidOut (by kernel_rfl) Try.underlying4 rfl (fun ds h => by match ds, h with | [_], _ => rfl) hW
  have hsz : (DataW.weightsEach Try.prog (Try.f7.params.toList ++ []) (ds ++ gs)).all (· ≤ reachBytes) = true := hsz
  obtain ⟨p, q, hA, hV, rfl, hfz, hnd⟩ := hW
  obtain ⟨rfl, rfl⟩ := trodVars_none hV
  rw [Try.params7] at hA hval hsz
  obtain ⟨v0, vs0, d0, ds0, p0, q0, hargs, rfl, rfl, h0, r0⟩ := trodAll_cons hA
  obtain ⟨rfl, rfl, rfl⟩ := trodAll_nil r0
  obtain rfl : args = #[v0] := by cases args; simp_all
  simp only [List.append_nil] at hsz
  have pl0 := arg_plains (ks := (shape Try.prog 9 24).getD []) (by kernel_rfl) h0 (arg_weights (j := 0) hsz rfl rfl)
  obtain ⟨cs0, rfl, pl0⟩ := arg_array Try.underlying24 (hval 0 24 v0 rfl rfl) pl0
  obtain ⟨x0a, x0b, x0c, rfl, w0a, w0b, w0c⟩ := decodeWide _ pl0
  exact (walk x0a x0b x0c W w0a w0b w0c).mono fun e W' h => by
    obtain ⟨rfl, hb⟩ := h.grew
    exact ⟨_, rfl, hfin W' hb⟩

theorem over : Rows.wordsShowsRow.holds Try.pinned (OpenSpec.ofChange Rows.wordsShowsSpec) :=
  OpenClaim.holds_of_wide 7 Try.f7 rfl rfl rfl rfl rfl rfl rfl ⟨rfl, rfl, rfl, rfl, rfl⟩ rfl rfl rfl rfl rfl (by kernel_rfl) Try.func7 (by kernel_rfl)
    (of_decide_eq_true (by kernel_rfl)) (by unfold Func.isWrapper; first | (rw [if_pos (by decide +kernel)]; kernel_rfl) | (rw [if_neg (by decide +kernel)]; exact ⟨rfl, rfl⟩))
    (fun os started H enc _ => lifted os started H enc)

theorem proved : Rows.WordsShowsSaid := over
#print axioms proved
end Go.Proofs.Ytgldppmkiieoaaa.wordsShows
