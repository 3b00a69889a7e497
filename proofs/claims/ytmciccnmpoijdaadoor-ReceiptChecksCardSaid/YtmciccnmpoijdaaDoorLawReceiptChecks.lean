/- receipt.Check answers as the reference does, at every argument. No conditions. -/
import Derived.Test.YtmciccnmpoijdaaDoorLiftC
import Derived.Test.YtmciccnmpoijdaaDoorDecode
import Derived.Test.YtmciccnmpoijdaaDoorRecFault
import Derived.Test.YtmciccnmpoijdaaDoorTie
import Derived.Test.YtmciccnmpoijdaaDoorCards
namespace Go.Proofs.YtmciccnmpoijdaaDoor.receiptChecks
open Go.ChangeShapes Go.WideShapes Go.ChangeAt Go.RowKit
set_option maxRecDepth 20000
set_option maxHeartbeats 2000000 in
theorem walk (x : AReceipt) (w : World) (_hx : x.wf) (_hL : laidMetH Tryd.prog Rows.receiptChecksRow.laid w) : Calls Tryd.prog 8 #[.agg x.cells.toArray] w (Grew (.bool true) w) := by
  obtain ⟨me, ⟨id, te, de, fe, pr, ch, un⟩, s⟩ := x
  have P := Lib.hid (fun W => Check_any me id te de fe pr ch un s W)
  have R := Lib.hid (fun W => ReceiptFault_any me id te de fe pr ch un s W)
  unfold RP at P R
  generalize recE me id te de fe pr ch un (parT s) (parE s) = r at *
  clear _hL
  show Calls Tryd.prog 8 #[recV me id te de fe pr ch un s] w _
  go_enter Tryd.func8, Tryd.ntmps8
  go_wp2_with fail
  refine (P.out _).mono ?_
  rintro e w1 ⟨rfl, k1⟩
  have dO := (Own.new (w := w) rfl [I me, I id, I te, I de, I fe, I pr, I ch, I un, .string s] 43).below k1
  have d0 := dO.cell 0 (by simp)
  have df0 := dO.frozen 0
  have d1 := dO.cell 1 (by simp)
  have df1 := dO.frozen 1
  have d2 := dO.cell 2 (by simp)
  have df2 := dO.frozen 2
  have d3 := dO.cell 3 (by simp)
  have df3 := dO.frozen 3
  have d4 := dO.cell 4 (by simp)
  have df4 := dO.frozen 4
  have d5 := dO.cell 5 (by simp)
  have df5 := dO.frozen 5
  have d6 := dO.cell 6 (by simp)
  have df6 := dO.frozen 6
  have d7 := dO.cell 7 (by simp)
  have df7 := dO.frozen 7
  have d8 := dO.cell 8 (by simp)
  have df8 := dO.frozen 8
  simp only [Nat.zero_add, List.getD_cons_zero, List.getD_cons_succ] at d0 d1 d2 d3 d4 d5 d6 d7 d8
  clear dO
  have k := below_box k1
  clear k1
  go_wp2_with fail
  refine (R.out _).mono ?_
  rintro e w2 ⟨rfl, k2⟩
  have kk := k.trans (k2.mono k.size)
  clear k2 k d0 d1 d2 d3 d4 d5 d6 d7 d8 df0 df1 df2 df3 df4 df5 df6 df7 df8
  go_wp2
  go_ret
  exact Grew.intro (by simp) kk

set_option maxRecDepth 100000 in
theorem lifted (os : Os) (started : os.Started) (H : Type) (enc : TypeId × Value → H) :
    ReturnsInHanded {} Tryd.checked os 8 .any (fun w args => (Rows.receiptChecksSpec.pre enc Tryd.prog Tryd.f8 Rows.receiptChecksRow.domain false w args ∧ laidMetH Tryd.prog Rows.receiptChecksRow.laid w) ∧ sizedMet enc Tryd.prog Tryd.f8 (OpenSpec.ofChange Rows.receiptChecksSpec) false w args)
      (Rows.receiptChecksSpec.post enc Tryd.prog Tryd.f8 false true false false) := by
  refine handed_all (C := Tryd.checked) (X := fun w => laidMetH Tryd.prog Rows.receiptChecksRow.laid w) (fun _ _ hh h => h.of_heap hh) own started (by kernel_rfl) Tryd.func8
    (ChangeSpec.witness_shaped (enc := enc) (C := Tryd.checked) (os := os) (X := fun w _ => laidMetH Tryd.prog Rows.receiptChecksRow.laid w) false (World.laidAll Tryd.prog os Rows.receiptChecksRow.laid) #[.agg #[.int .i64 0, .int .i64 0, .int .i64 0, .int .i64 0, .int .i64 0, .int .i64 0, .int .i64 0, .int .i64 0, .string ByteArray.empty]] 8 (World.laidAll_os _ _ _)
      (World.shaped_of_ZipB (by kernel_rfl) (by kernel_rfl)) (by kernel_rfl) (by kernel_rfl) (by kernel_rfl)
      (by rw [MakeChecks.laidMetH_plain _ _ _ (by kernel_rfl)]; exact laidMet_laidAll _ (by kernel_rfl) (by kernel_rfl))) ?_
  intro W base args ds gs before hval hW hsz hL hsh
  have hfin := fun W' => post_true (fn := Tryd.f8) (s := Rows.receiptChecksSpec) (bt := 4) (W' := W') rfl laidOut (by kernel_rfl) Tryd.underlying4 rfl (fun ds h => by match ds, h with | [_], _ => rfl) hW
  have hsz : (DataW.weightsEach Tryd.prog (Tryd.f8.params.toList ++ []) (ds ++ gs)).all (· ≤ reachBytes) = true := hsz
  obtain ⟨p, q, hA, hV, rfl, hfz, hnd⟩ := hW
  obtain ⟨rfl, rfl⟩ := trodVars_none hV
  rw [Tryd.params8] at hA hval hsz
  obtain ⟨v0, vs0, d0, ds0, p0, q0, hargs, rfl, rfl, h0, r0⟩ := trodAll_cons hA
  obtain ⟨rfl, rfl, rfl⟩ := trodAll_nil r0
  obtain rfl : args = #[v0] := by cases args; simp_all
  simp only [List.append_nil] at hsz
  have pl0 := arg_plains (ks := (shape Tryd.prog 9 43).getD []) (by kernel_rfl) h0 (arg_weights (j := 0) hsz rfl rfl)
  obtain ⟨cs0, rfl, pl0⟩ := arg_struct Tryd.underlying43 (hval 0 43 v0 rfl rfl) pl0
  obtain ⟨x0, rfl, hx0⟩ := decodeReceipt _ pl0
  exact (walk x0 W hx0 hL).mono fun e W' h => by
    obtain ⟨rfl, hb⟩ := h.grew
    exact ⟨_, rfl, hfin W' hb⟩

theorem over : Rows.ReceiptChecksSaid :=
  OpenClaim.holds_of_wide 8 Tryd.f8 rfl rfl rfl rfl rfl rfl rfl ⟨rfl, rfl, rfl, rfl, rfl⟩ rfl rfl rfl rfl rfl (by kernel_rfl) Tryd.func8 (by kernel_rfl)
    (of_decide_eq_true (by kernel_rfl)) (by unfold Func.isWrapper; first | (rw [if_pos (by decide +kernel)]; kernel_rfl) | (rw [if_neg (by decide +kernel)]; exact ⟨rfl, rfl⟩))
    (fun os started H enc _ => lifted os started H enc)

theorem proved : Rows.ReceiptChecksCardSaid :=
  Claim7.holds_tied_plain_at .later [] _ true _ false over (fun _ h => by cases h) (by kernel_rfl) (fun _ h => by cases h) receiptChecks_row_tie rfl ⟨rfl, rfl⟩ (by kernel_rfl) rfl
    (fun f fn hf hfn => by
      obtain rfl : f = 8 := Option.some.inj ((show Tryd.prog.funcNamed "vendmeter/vendmeterlaw.ReceiptChecks" = some 8 by kernel_rfl).symm.trans hf) |>.symm
      obtain rfl : fn = Tryd.f8 := (Option.some.inj (Tryd.func8.symm.trans hfn)).symm
      exact ⟨by kernel_rfl, fun j t ht => by
        have hm : t ∈ Tryd.f8.params.toList := by simpa using Array.mem_of_getElem? ht
        have hall : (Tryd.f8.params.toList.all fun u => !Tryd.prog.wantsStandIn u) = true := by kernel_rfl
        exact (show Tryd.prog.wantsStandIn t = false by simpa using List.all_eq_true.1 hall t hm)⟩)
    (by kernel_rfl)
#print axioms proved
end Go.Proofs.YtmciccnmpoijdaaDoor.receiptChecks
