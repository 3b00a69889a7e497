/- receipt.Show answers as the reference does, at every argument. No conditions. -/
import Derived.Test.YtdjgcenjonegjaaGreatDoorPk01
import Derived.Test.YtdjgcenjonegjaaGreatDoorPk05
import Derived.Test.YtdjgcenjonegjaaGreatDoorRecShown
import Derived.Test.YtdjgcenjonegjaaGreatDoorTie
import Derived.Test.YtdjgcenjonegjaaGreatDoorCards
import Derived.Stop.LaidErr
set_option maxRecDepth 20000
set_option maxHeartbeats 8000000
set_option linter.unusedSimpArgs false
set_option linter.unusedVariables false
namespace Go.Proofs.YtdjgcenjonegjaaGreatDoor.receiptShows
open Go.ChangeShapes Go.WideShapes Go.ChangeAt Go.RowKit
theorem powTab {w : World} (hL : laidMetH Tryz.prog Rows.receiptShowsRow.laid w) : PowTab w := by
  rw [MakeChecks.laidMetH_plain _ _ _ (by kernel_rfl)] at hL; exact Go.Lib.tabIs_of_head (g := 4) (t := 168) (n := 20) (e := 92) (by kernel_rfl) (by kernel_rfl) (by kernel_rfl) (by kernel_rfl) (by kernel_rfl) (by kernel_rfl) (show laidMet Tryz.prog (("internal/strconv.uint64pow10", Go.Lib.tabData .u64 Go.Lib.pow10Tab) :: Rows.receiptShowsRow.laid.drop 3) w from laidMet.tail (laidMet.tail (show laidMet Tryz.prog Rows.receiptShowsRow.laid w from hL)))
theorem walk (x : AReceipt) (w : World) (_hx : x.wf) (hL : laidMetH Tryz.prog Rows.receiptShowsRow.laid w) : Calls Tryz.prog 3 #[.agg x.cells.toArray] w (Grew (.bool true) w) := by
  obtain ⟨me, ⟨id, te, de, fe, pr, ch, un⟩, s⟩ := x; have HP := Lib.hid (powTab hL); have P := Lib.hid (fun W hW => RShow_any me id te de fe pr ch un s W hW); have R := Lib.hid (fun W => Shown2_any me id te de fe pr ch un s W); unfold RecSP at P R; generalize recST me id te de fe pr ch un s = t at *; generalize recSE me id te de fe pr ch un s = r at *; have kB := boxed_below w (.cells #[I me, I id, I te, I de, I fe, I pr, I ch, I un, .string s] 25); have oR := Own.new (w := w) rfl [I me, I id, I te, I de, I fe, I pr, I ch, I un, .string s] 25; have PB := Lib.hid (HP.out.below kB); have KB := Lib.hid kB; have OR := Lib.hid oR; clear hL kB HP oR; show Calls Tryz.prog 3 #[recV me id te de fe pr ch un s] w _; go_enter Tryz.func3, Tryz.ntmps3; have dO := OR.out; have dA := dO.s9; clear dO
  go_wp2_with fail
  refine (P.out _ PB.out).mono ?_; rintro e w1 ⟨rfl, k1⟩; clear dA; have dO := OR.out.below k1; have dA := dO.s9; clear dO; have KK := Lib.hid (KB.out.trans (k1.mono KB.out.size)); clear k1
  go_wp2_with fail
  refine (R.out _).mono ?_; rintro e w2 ⟨rfl, k2⟩; have kk := KK.out.trans (k2.mono KK.out.size); clear k2 dA; go_wp2; go_ret; exact Grew.intro (by simp) kk

set_option maxRecDepth 100000 in
theorem lifted (os : Os) (started : os.Started) (H : Type) (enc : TypeId × Value → H) :
    ReturnsInHanded {} Tryz.checked os 3 .any (fun w args => (Rows.receiptShowsSpec.pre enc Tryz.prog Tryz.f3 Rows.receiptShowsRow.domain false w args ∧ laidMetH Tryz.prog Rows.receiptShowsRow.laid w) ∧ sizedMet enc Tryz.prog Tryz.f3 (OpenSpec.ofChange Rows.receiptShowsSpec) false w args)
      (Rows.receiptShowsSpec.post enc Tryz.prog Tryz.f3 false true false false) := by
  refine handed_all (C := Tryz.checked) (X := fun w => laidMetH Tryz.prog Rows.receiptShowsRow.laid w) (fun _ _ hh h => h.of_heap hh) own started (by kernel_rfl) Tryz.func3
    (ChangeSpec.witness_shaped (enc := enc) (C := Tryz.checked) (os := os) (X := fun w _ => laidMetH Tryz.prog Rows.receiptShowsRow.laid w) false (World.laidAll Tryz.prog os Rows.receiptShowsRow.laid) #[.agg #[.int .i64 0, .int .i64 0, .int .i64 0, .int .i64 0, .int .i64 0, .int .i64 0, .int .i64 0, .int .i64 0, .string ByteArray.empty]] 8 (World.laidAll_os _ _ _)
      (World.shaped_of_ZipB (by kernel_rfl) (by kernel_rfl)) (by kernel_rfl) (by kernel_rfl) (by kernel_rfl)
      (by rw [MakeChecks.laidMetH_plain _ _ _ (by kernel_rfl)]; exact laidMet_laidAll _ (by kernel_rfl) (by kernel_rfl))) ?_
  intro W base args ds gs before hval hW hsz hL hsh; have hfin := fun W' => post_true (fn := Tryz.f3) (s := Rows.receiptShowsSpec) (bt := 4) (W' := W') rfl laidOut (by kernel_rfl) Tryz.underlying4 rfl (fun ds h => by match ds, h with | [_], _ => rfl) hW; have hsz : (DataW.weightsEach Tryz.prog (Tryz.f3.params.toList ++ []) (ds ++ gs)).all (· ≤ reachBytes) = true := hsz; obtain ⟨p, q, hA, hV, rfl, hfz, hnd⟩ := hW; obtain ⟨rfl, rfl⟩ := trodVars_none hV; rw [Tryz.params3] at hA hval hsz; obtain ⟨v0, vs0, d0, ds0, p0, q0, hargs, rfl, rfl, h0, r0⟩ := trodAll_cons hA; obtain ⟨rfl, rfl, rfl⟩ := trodAll_nil r0; obtain rfl : args = #[v0] := by cases args; simp_all
  simp only [List.append_nil] at hsz; have pl0 := arg_plains (ks := (shape Tryz.prog 9 25).getD []) (by kernel_rfl) h0 (arg_weights (j := 0) hsz rfl rfl); obtain ⟨cs0, rfl, pl0⟩ := arg_struct Tryz.underlying25 (hval 0 25 v0 rfl rfl) pl0; obtain ⟨x0, rfl, hx0⟩ := decodeReceipt _ pl0
  exact (walk x0 W hx0 hL).mono fun e W' h => by
    obtain ⟨rfl, hb⟩ := h.grew; exact ⟨_, rfl, hfin W' hb⟩

theorem over : Rows.ReceiptShowsSaid :=
  OpenClaim.holds_of_wide 3 Tryz.f3 rfl rfl rfl rfl rfl rfl rfl ⟨rfl, rfl, rfl, rfl, rfl⟩ rfl rfl rfl rfl rfl (by kernel_rfl) Tryz.func3 (by kernel_rfl)
    (of_decide_eq_true (by kernel_rfl)) (by unfold Func.isWrapper; first | (rw [if_pos (by decide +kernel)]; kernel_rfl) | (rw [if_neg (by decide +kernel)]; exact ⟨rfl, rfl⟩))
    (fun os started H enc _ => lifted os started H enc)

theorem proved : Rows.ReceiptShowsCardSaid :=
  Claim7.holds_tied_plain_at .later [] _ true _ true over (fun _ h => by cases h) (by kernel_rfl) (fun _ h => by cases h) receiptShows_row_tie rfl ⟨rfl, rfl⟩ (by kernel_rfl) rfl
    (fun f fn hf hfn => by
      obtain rfl : f = 3 := Option.some.inj ((show Tryz.prog.funcNamed "vendmeter/vendmeterlaw.ReceiptShows" = some 3 by kernel_rfl).symm.trans hf) |>.symm
      obtain rfl : fn = Tryz.f3 := (Option.some.inj (Tryz.func3.symm.trans hfn)).symm
      exact ⟨by kernel_rfl, fun j t ht => by
        have hm : t ∈ Tryz.f3.params.toList := by simpa using Array.mem_of_getElem? ht
        have hall : (Tryz.f3.params.toList.all fun u => !Tryz.prog.wantsStandIn u) = true := by kernel_rfl
        exact (show Tryz.prog.wantsStandIn t = false by simpa using List.all_eq_true.1 hall t hm)⟩)
    (by kernel_rfl)
#print axioms proved
end Go.Proofs.YtdjgcenjonegjaaGreatDoor.receiptShows
