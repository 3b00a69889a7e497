/- words.Bits answers as the reference does, at every argument. No conditions. -/
import Derived.Test.YtgldppmkiieoaaaLift
import Derived.Test.YtgldppmkiieoaaaDecode
import Derived.Test.YtgldppmkiieoaaaDecodeW
import Derived.Test.YtgldppmkiieoaaaWBits
namespace Go.Proofs.Ytgldppmkiieoaaa.wordsBits
open Go.ChangeShapes Go.WideShapes Go.ChangeAt Go.RowKit
set_option maxRecDepth 20000
set_option maxHeartbeats 2000000 in
theorem walkAt (a b c : Nat) (lo n : Int) (v : Nat) (er : Int) (w : World) (P : Hid (∀ W, Calls Try.prog 26 #[wideV a b c, I lo, I n] W (Grew (T2 (.int .u64 v) (I er)) W)))
    (R : Hid (∀ W, Calls Try.prog 27 #[wideV a b c, I lo, I n] W (Grew (T2 (.int .u64 v) (I er)) W))) : Calls Try.prog 9 #[.agg #[U32 a, U32 b, U32 c], I lo, I n] w (Grew (.bool true) w) := by
  go_enter Try.func9, Try.ntmps9
  go_wp2_with fail
  refine (P.out _).mono ?_
  rintro e w1 ⟨rfl, k1⟩
  have dO := (Own.new (w := w) rfl [U32 a, U32 b, U32 c] 24).below k1
  have d0 := dO.cell 0 (by simp)
  have df0 := dO.frozen 0
  have d1 := dO.cell 1 (by simp)
  have df1 := dO.frozen 1
  have d2 := dO.cell 2 (by simp)
  have df2 := dO.frozen 2
  simp only [Nat.zero_add, List.getD_cons_zero, List.getD_cons_succ] at d0 d1 d2
  clear dO
  have k := below_box k1
  clear k1
  go_wp2_with fail
  refine (R.out _).mono ?_
  rintro e w2 ⟨rfl, k2⟩
  have kk := k.trans (k2.mono k.size)
  clear k2 k d0 d1 d2 df0 df1 df2
  go_wp2
  go_ret
  exact Grew.intro (by simp) kk
theorem walk (a b c lo n : Int) (w : World) (ha : W32 a) (hb : W32 b) (hc : W32 c) (hlo : I64 lo) (hn : I64 n) : Calls Try.prog 9 #[.agg #[U32 a, U32 b, U32 c], I lo, I n] w (Grew (.bool true) w) := by
  obtain ⟨a0, a1⟩ := ha
  obtain ⟨b0, b1⟩ := hb
  obtain ⟨c0, c1⟩ := hc
  obtain ⟨a, rfl⟩ := Int.eq_ofNat_of_zero_le a0
  obtain ⟨b, rfl⟩ := Int.eq_ofNat_of_zero_le b0
  obtain ⟨c, rfl⟩ := Int.eq_ofNat_of_zero_le c0
  cases hf : fieldB lo n
  · exact walkAt a b c lo n 0 2 w (fun W => Bits_bad a b c lo n W hlo hn hf) (fun W => Field_bad a b c lo n W hlo hn hf)
  · unfold fieldB at hf
    rw [decide_eq_true_eq] at hf
    obtain ⟨f0, f1, f2, f3⟩ := hf
    obtain ⟨lo, rfl⟩ := Int.eq_ofNat_of_zero_le f0
    obtain ⟨n, rfl⟩ := Int.eq_ofNat_of_zero_le (show 0 ≤ n by omega)
    exact walkAt a b c lo n _ 0 w (fun W => Bits_any a b c lo n W (by omega) (by omega) (by omega) (by omega) (by omega) (by omega)) (fun W => Field_any a b c lo n W (by omega) (by omega) (by omega) (by omega) (by omega) (by omega))

set_option maxRecDepth 100000 in
theorem lifted (os : Os) (started : os.Started) (H : Type) (enc : TypeId × Value → H) :
    ReturnsInHanded {} Try.checked os 9 .any (Rows.wordsBitsSpec.pre6 enc Try.prog Try.f9 Rows.wordsBitsRow.domain false) (Rows.wordsBitsSpec.post enc Try.prog Try.f9 false true false false) := by
  refine returnsInHanded_of_change_sized (C := Try.checked) own started (by kernel_rfl) Try.func9
    (ChangeSpec.witness6 (enc := enc) (C := Try.checked) false ⟨#[], #[.agg #[.int .u32 0, .int .u32 0, .int .u32 0], .int .i64 0, .int .i64 0], []⟩ 8 (by kernel_rfl) (by kernel_rfl) (by kernel_rfl) (by kernel_rfl)) ?_
  intro W base args ds gs before hval hW hcnd hsz _
  have hfin := fun W' => post_true (fn := Try.f9) (s := Rows.wordsBitsSpec) (bt := 4) (W' := W') rfl laidOut (by kernel_rfl) Try.underlying4 rfl (fun ds h => by match ds, h with | [_, _, _], _ => rfl) hW
  have hsz : (DataW.weightsEach Try.prog (Try.f9.params.toList ++ []) (ds ++ gs)).all (· ≤ reachBytes) = true := hsz
  obtain ⟨p, q, hA, hV, rfl, hfz, hnd⟩ := hW
  obtain ⟨rfl, rfl⟩ := trodVars_none hV
  rw [Try.params9] at hA hval hsz
  obtain ⟨v0, vs0, d0, ds0, p0, q0, hargs, rfl, rfl, h0, r0⟩ := trodAll_cons hA
  obtain ⟨v1, vs1, d1, ds1, p1, q1, rfl, rfl, rfl, h1, r1⟩ := trodAll_cons r0
  obtain ⟨v2, vs2, d2, ds2, p2, q2, rfl, rfl, rfl, h2, r2⟩ := trodAll_cons r1
  obtain ⟨rfl, rfl, rfl⟩ := trodAll_nil r2
  obtain rfl : args = #[v0, v1, v2] := by cases args; simp_all
  simp only [List.append_nil] at hsz
  have pl0 := arg_plains (ks := (shape Try.prog 9 24).getD []) (by kernel_rfl) h0 (arg_weights (j := 0) hsz rfl rfl)
  obtain ⟨cs0, rfl, pl0⟩ := arg_array Try.underlying24 (hval 0 24 v0 rfl rfl) pl0
  obtain ⟨x0a, x0b, x0c, rfl, w0a, w0b, w0c⟩ := decodeWide _ pl0
  obtain ⟨a1, rfl, rfl, rfl, wf1⟩ := open_int Try.underlying3 (hval 1 3 v1 rfl rfl) h1
  obtain ⟨a2, rfl, rfl, rfl, wf2⟩ := open_int Try.underlying3 (hval 2 3 v2 rfl rfl) h2
  exact (walk x0a x0b x0c a1 a2 W w0a w0b w0c (wf_I64 wf1) (wf_I64 wf2)).mono fun e W' h => by
    obtain ⟨rfl, hb⟩ := h.grew
    exact ⟨_, rfl, hfin W' hb⟩

theorem over : Rows.wordsBitsRow.holds Try.pinned (OpenSpec.ofChange Rows.wordsBitsSpec) :=
  OpenClaim.holds_of_wide 9 Try.f9 rfl rfl rfl rfl rfl rfl rfl ⟨rfl, rfl, rfl, rfl, rfl⟩ rfl rfl rfl rfl rfl (by kernel_rfl) Try.func9 (by kernel_rfl)
    (of_decide_eq_true (by kernel_rfl)) (by unfold Func.isWrapper; first | (rw [if_pos (by decide +kernel)]; kernel_rfl) | (rw [if_neg (by decide +kernel)]; exact ⟨rfl, rfl⟩))
    (fun os started H enc _ => lifted os started H enc)

theorem proved : Rows.WordsBitsSaid := over
#print axioms proved
end Go.Proofs.Ytgldppmkiieoaaa.wordsBits
