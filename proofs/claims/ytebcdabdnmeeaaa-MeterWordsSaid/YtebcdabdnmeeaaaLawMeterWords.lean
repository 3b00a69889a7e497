/- meter.Words answers as the reference does, at every argument. No conditions. -/
import Derived.Test.YtebcdabdnmeeaaaLift
import Derived.Test.YtebcdabdnmeeaaaDecode
import Derived.Test.YtebcdabdnmeeaaaMeterWords
import Derived.Test.YtebcdabdnmeeaaaSameWords
namespace Go.Proofs.Ytebcdabdnmeeaaa.meterWords
open Go.ChangeShapes Go.WideShapes Go.ChangeAt Go.RowKit
set_option maxRecDepth 20000
theorem walk (x : AMeter) (w : World) (hx : x.wf) : Calls Try.prog 8 #[.agg x.cells.toArray] w (Grew (.bool true) w) := by
  obtain ⟨me, rev, cr, ⟨h, bi⟩, bad, lk⟩ := x
  have hb0 : W64 bi := by simp only [AMeter.wf, AWindow.wf] at hx; simp_all
  obtain ⟨b0, b1⟩ := hb0
  obtain ⟨b, rfl⟩ := Int.eq_ofNat_of_zero_le b0
  show Calls Try.prog 8 #[(MM.mk me rev cr h b bad lk).v] w (Grew (.bool true) w)
  have hb : b < 18446744073709551616 := by omega
  have U := Lib.hid (fun W => WordsM_any ⟨me, rev, cr, h, b, bad, lk⟩ W hb)
  have R := Lib.hid (fun W => MeterWorded_any ⟨me, rev, cr, h, b, bad, lk⟩ W hb)
  clear b0 b1 hx
  generalize wordsL ⟨me, rev, cr, h, b, bad, lk⟩ = L at *
  generalize wordsE ⟨me, rev, cr, h, b, bad, lk⟩ = E at *
  go_enter Try.func8, Try.ntmps8
  go_wp2_with fail
  refine (U.out _).mono ?_
  rintro e w1 ⟨v1, rfl, hS1, k1⟩
  obtain ⟨hc, _⟩ := bcell k1
  have k := below_box k1
  clear k1
  go_wp2_with fail
  refine (R.out _).mono ?_
  rintro e w2 ⟨v2, rfl, hS2, k2⟩
  have hS1 := hS1.below k2
  have k := k.trans (k2.mono k.size)
  clear k2 hc
  go_wp2_with fail
  refine (sameWords_any _ _ L L _ hS1 hS2).mono ?_
  rintro e w' ⟨rfl, kk⟩
  have k := k.trans (kk.mono k.size)
  clear kk
  go_wp2
  go_ret
  exact Grew.intro (by simp) k

set_option maxRecDepth 100000 in
theorem lifted (os : Os) (started : os.Started) (H : Type) (enc : TypeId × Value → H) :
    ReturnsInHanded {} Try.checked os 8 .any (Rows.meterWordsSpec.pre6 enc Try.prog Try.f8 Rows.meterWordsRow.domain false) (Rows.meterWordsSpec.post enc Try.prog Try.f8 false true false false) := by
  refine returnsInHanded_of_change_sized (C := Try.checked) own started (by kernel_rfl) Try.func8
    (ChangeSpec.witness6 (enc := enc) (C := Try.checked) false ⟨#[], #[.agg #[.int .i64 0, .int .i64 0, .int .i64 0, .int .i64 0, .int .u64 0, .int .i64 0, .int .i64 0]], []⟩ 8 (by kernel_rfl) (by kernel_rfl) (by kernel_rfl) (by kernel_rfl)) ?_
  intro W base args ds gs before hval hW hcnd hsz _
  have hfin := fun W' => post_true (fn := Try.f8) (s := Rows.meterWordsSpec) (bt := 4) (W' := W') rfl laidOut (by kernel_rfl) Try.underlying4 rfl (fun ds h => by match ds, h with | [_], _ => rfl) hW
  have hsz : (DataW.weightsEach Try.prog (Try.f8.params.toList ++ []) (ds ++ gs)).all (· ≤ reachBytes) = true := hsz
  obtain ⟨p, q, hA, hV, rfl, hfz, hnd⟩ := hW
  obtain ⟨rfl, rfl⟩ := trodVars_none hV
  rw [Try.params8] at hA hval hsz
  obtain ⟨v0, vs0, d0, ds0, p0, q0, hargs, rfl, rfl, h0, r0⟩ := trodAll_cons hA
  obtain ⟨rfl, rfl, rfl⟩ := trodAll_nil r0
  obtain rfl : args = #[v0] := by cases args; simp_all
  simp only [List.append_nil] at hsz
  have pl0 := arg_plains (ks := (shape Try.prog 9 36).getD []) (by kernel_rfl) h0 (arg_weights (j := 0) hsz rfl rfl)
  obtain ⟨cs0, rfl, pl0⟩ := arg_struct Try.underlying36 (hval 0 36 v0 rfl rfl) pl0
  obtain ⟨x0, rfl, hx0⟩ := decodeMeter _ pl0
  exact (walk x0 W hx0).mono fun e W' h => by
    obtain ⟨rfl, hb⟩ := h.grew
    exact ⟨_, rfl, hfin W' hb⟩

theorem over : Rows.meterWordsRow.holds Try.pinned (OpenSpec.ofChange Rows.meterWordsSpec) :=
  OpenClaim.holds_of_wide 8 Try.f8 rfl rfl rfl rfl rfl rfl rfl ⟨rfl, rfl, rfl, rfl, rfl⟩ rfl rfl rfl rfl rfl (by kernel_rfl) Try.func8 (by kernel_rfl)
    (of_decide_eq_true (by kernel_rfl)) (by unfold Func.isWrapper; first | (rw [if_pos (by decide +kernel)]; kernel_rfl) | (rw [if_neg (by decide +kernel)]; exact ⟨rfl, rfl⟩))
    (fun os started H enc _ => lifted os started H enc)

theorem proved : Rows.MeterWordsSaid := over
#print axioms proved
end Go.Proofs.Ytebcdabdnmeeaaa.meterWords
