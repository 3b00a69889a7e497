/- receipt.Number answers as the reference does, at every argument. No conditions. -/
import Derived.Test.YtmciccnmpoijdaaDoorLiftC
import Derived.Test.YtmciccnmpoijdaaDoorDecode
import Derived.Test.YtmciccnmpoijdaaDoorRecNum
import Derived.Test.YtmciccnmpoijdaaDoorTie
import Derived.Test.YtmciccnmpoijdaaDoorCards
import Derived.Stop.LaidErr
namespace Go.Proofs.YtmciccnmpoijdaaDoor.receiptNumbers
open Go.ChangeShapes Go.WideShapes Go.ChangeAt Go.RowKit
set_option maxRecDepth 20000
theorem powTab {w : World} (hL : laidMetH Tryd.prog Rows.receiptNumbersRow.laid w) : PowTab w := by
  rw [MakeChecks.laidMetH_plain _ _ _ (by kernel_rfl)] at hL
  exact Go.Lib.tabIs_of_head (g := 3) (t := 147) (n := 20) (e := 70) (by kernel_rfl) (by kernel_rfl) (by kernel_rfl) (by kernel_rfl) (by kernel_rfl) (by kernel_rfl) (show laidMet Tryd.prog (("internal/strconv.uint64pow10", Go.Lib.tabData .u64 Go.Lib.pow10Tab) :: []) w from laidMet.tail (laidMet.tail (show laidMet Tryd.prog Rows.receiptNumbersRow.laid w from hL)))
set_option maxHeartbeats 2000000 in
theorem walk (n : Int) (w : World) (hL : laidMetH Tryd.prog Rows.receiptNumbersRow.laid w) : Calls Tryd.prog 5 #[I n] w (Grew (.bool true) w) := by
  have P := Lib.hid (Number_any n w (powTab hL))
  have R := Lib.hid (fun W => NumberOf_any n W)
  unfold NumP at P R
  generalize numV n = v at *
  generalize numE n = r at *
  clear hL
  go_enter Tryd.func5, Tryd.ntmps5
  go_wp2_with fail
  refine P.out.mono ?_
  rintro e w1 ⟨rfl, k⟩
  go_wp2_with fail
  refine (R.out _).mono ?_
  rintro e w2 ⟨rfl, k2⟩
  have kk := k.trans (k2.mono k.size)
  clear k2 k P R
  go_wp2
  go_ret
  exact Grew.intro (by simp) kk

set_option maxRecDepth 100000 in
theorem lifted (os : Os) (started : os.Started) (H : Type) (enc : TypeId × Value → H) :
    ReturnsInHanded {} Tryd.checked os 5 .any (fun w args => (Rows.receiptNumbersSpec.pre enc Tryd.prog Tryd.f5 Rows.receiptNumbersRow.domain false w args ∧ laidMetH Tryd.prog Rows.receiptNumbersRow.laid w) ∧ sizedMet enc Tryd.prog Tryd.f5 (OpenSpec.ofChange Rows.receiptNumbersSpec) false w args)
      (Rows.receiptNumbersSpec.post enc Tryd.prog Tryd.f5 false true false false) := by
  refine handed_all (C := Tryd.checked) (X := fun w => laidMetH Tryd.prog Rows.receiptNumbersRow.laid w) (fun _ _ hh h => h.of_heap hh) own started (by kernel_rfl) Tryd.func5
    (ChangeSpec.witness_shaped (enc := enc) (C := Tryd.checked) (os := os) (X := fun w _ => laidMetH Tryd.prog Rows.receiptNumbersRow.laid w) false (World.laidAll Tryd.prog os Rows.receiptNumbersRow.laid) #[.int .i64 0] 8 (World.laidAll_os _ _ _)
      (World.shaped_of_ZipB (by kernel_rfl) (by kernel_rfl)) (by kernel_rfl) (by kernel_rfl) (by kernel_rfl)
      (by rw [MakeChecks.laidMetH_plain _ _ _ (by kernel_rfl)]; exact laidMet_laidAll _ (by kernel_rfl) (by kernel_rfl))) ?_
  intro W base args ds gs before hval hW hsz hL hsh
  have hfin := fun W' => post_true (fn := Tryd.f5) (s := Rows.receiptNumbersSpec) (bt := 4) (W' := W') rfl laidOut (by kernel_rfl) Tryd.underlying4 rfl (fun ds h => by match ds, h with | [_], _ => rfl) hW
  obtain ⟨p, q, hA, hV, rfl, hfz, hnd⟩ := hW
  obtain ⟨rfl, rfl⟩ := trodVars_none hV
  rw [Tryd.params5] at hA hval
  obtain ⟨v0, vs0, d0, ds0, p0, q0, hargs, rfl, rfl, h0, r0⟩ := trodAll_cons hA
  obtain ⟨rfl, rfl, rfl⟩ := trodAll_nil r0
  obtain rfl : args = #[v0] := by cases args; simp_all
  obtain ⟨a0, rfl, rfl, rfl, wf0⟩ := open_int Tryd.underlying3 (hval 0 3 v0 rfl rfl) h0
  exact (walk a0 W hL).mono fun e W' h => by
    obtain ⟨rfl, hb⟩ := h.grew
    exact ⟨_, rfl, hfin W' hb⟩

theorem over : Rows.ReceiptNumbersSaid :=
  OpenClaim.holds_of_wide 5 Tryd.f5 rfl rfl rfl rfl rfl rfl rfl ⟨rfl, rfl, rfl, rfl, rfl⟩ rfl rfl rfl rfl rfl (by kernel_rfl) Tryd.func5 (by kernel_rfl)
    (of_decide_eq_true (by kernel_rfl)) (by unfold Func.isWrapper; first | (rw [if_pos (by decide +kernel)]; kernel_rfl) | (rw [if_neg (by decide +kernel)]; exact ⟨rfl, rfl⟩))
    (fun os started H enc _ => lifted os started H enc)

theorem proved : Rows.ReceiptNumbersCardSaid :=
  Claim7.holds_tied_plain_at .later [] _ true _ false over (fun _ h => by cases h) (by kernel_rfl) (fun _ h => by cases h) receiptNumbers_row_tie rfl ⟨rfl, rfl⟩ (by kernel_rfl) rfl
    (fun f fn hf hfn => by
      obtain rfl : f = 5 := Option.some.inj ((show Tryd.prog.funcNamed "vendmeter/vendmeterlaw.ReceiptNumbers" = some 5 by kernel_rfl).symm.trans hf) |>.symm
      obtain rfl : fn = Tryd.f5 := (Option.some.inj (Tryd.func5.symm.trans hfn)).symm
      exact ⟨by kernel_rfl, fun j t ht => by
        have hm : t ∈ Tryd.f5.params.toList := by simpa using Array.mem_of_getElem? ht
        have hall : (Tryd.f5.params.toList.all fun u => !Tryd.prog.wantsStandIn u) = true := by kernel_rfl
        exact (show Tryd.prog.wantsStandIn t = false by simpa using List.all_eq_true.1 hall t hm)⟩)
    (by kernel_rfl)
#print axioms proved
end Go.Proofs.YtmciccnmpoijdaaDoor.receiptNumbers
