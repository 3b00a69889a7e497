/- readback.Code answers as the reference does, at every argument. No conditions. -/
import Derived.Test.YtiiielccimchgaaDoorLiftC
import Derived.Test.YtiiielccimchgaaDoorDecode
import Derived.Test.YtiiielccimchgaaDoorCodeShow
import Derived.Test.YtiiielccimchgaaDoorTie
import Derived.Test.YtiiielccimchgaaDoorCards
import Derived.Stop.LaidErr
namespace Go.Proofs.YtiiielccimchgaaDoor.codeShows
open Go.ChangeShapes Go.WideShapes Go.ChangeAt Go.RowKit
set_option maxRecDepth 20000
theorem powTab {w : World} (hL : laidMetH Tryd.prog Rows.codeShowsRow.laid w) : PowTab w := by
  rw [MakeChecks.laidMetH_plain _ _ _ (by kernel_rfl)] at hL
  exact Go.Lib.tabIs_of_head (g := 2) (t := 102) (n := 20) (e := 22) (by kernel_rfl) (by kernel_rfl) (by kernel_rfl) (by kernel_rfl) (by kernel_rfl) (by kernel_rfl) (show laidMet Tryd.prog (("internal/strconv.uint64pow10", Go.Lib.tabData .u64 Go.Lib.pow10Tab) :: []) w from laidMet.tail (laidMet.tail (show laidMet Tryd.prog Rows.codeShowsRow.laid w from hL)))
set_option maxHeartbeats 2000000 in
theorem walk (x : AMeter) (w : World) (hx : x.wf) (hL : laidMetH Tryd.prog Rows.codeShowsRow.laid w) : Calls Tryd.prog 3 #[.agg x.cells.toArray] w (Grew (.bool true) w) := by
  obtain ⟨me, rev, cr, ⟨h, bi⟩, bad, lk⟩ := x
  have hb0 : W64 bi := by simp only [AMeter.wf, AWindow.wf] at hx; simp_all
  obtain ⟨b0, b1⟩ := hb0
  obtain ⟨b, rfl⟩ := Int.eq_ofNat_of_zero_le b0
  show Calls Tryd.prog 3 #[(MM.mk me rev cr h b bad lk).v] w (Grew (.bool true) w)
  have hb : b < 18446744073709551616 := by omega
  have HT := Lib.hid (powTab hL)
  have P := Lib.hid (fun W hW => Code_any ⟨me, rev, cr, h, b, bad, lk⟩ W hb hW)
  have R := Lib.hid (fun W => Coded_any ⟨me, rev, cr, h, b, bad, lk⟩ W hb)
  unfold CodeP at P R
  clear b0 b1 hx hL
  generalize codeV ⟨me, rev, cr, h, b, bad, lk⟩ = v at *
  generalize codeE ⟨me, rev, cr, h, b, bad, lk⟩ = r at *
  go_enter Tryd.func3, Tryd.ntmps3
  go_wp2_with fail
  refine (P.out _ (HT.out.below (boxed_below _ _))).mono ?_
  rintro e w1 ⟨rfl, k1⟩
  obtain ⟨hc, _⟩ := bcell k1
  have k := below_box k1
  clear k1
  go_wp2_with fail
  refine (R.out _).mono ?_
  rintro e w2 ⟨rfl, k2⟩
  have kk := k.trans (k2.mono k.size)
  clear k2 k P R
  go_wp2
  go_ret
  exact Grew.intro (by simp) kk

set_option maxRecDepth 100000 in
theorem lifted (os : Os) (started : os.Started) (H : Type) (enc : TypeId × Value → H) :
    ReturnsInHanded {} Tryd.checked os 3 .any (fun w args => (Rows.codeShowsSpec.pre enc Tryd.prog Tryd.f3 Rows.codeShowsRow.domain false w args ∧ laidMetH Tryd.prog Rows.codeShowsRow.laid w) ∧ sizedMet enc Tryd.prog Tryd.f3 (OpenSpec.ofChange Rows.codeShowsSpec) false w args)
      (Rows.codeShowsSpec.post enc Tryd.prog Tryd.f3 false true false false) := by
  refine handed_all (C := Tryd.checked) (X := fun w => laidMetH Tryd.prog Rows.codeShowsRow.laid w) (fun _ _ hh h => h.of_heap hh) own started (by kernel_rfl) Tryd.func3
    (ChangeSpec.witness_shaped (enc := enc) (C := Tryd.checked) (os := os) (X := fun w _ => laidMetH Tryd.prog Rows.codeShowsRow.laid w) false (World.laidAll Tryd.prog os Rows.codeShowsRow.laid) #[.agg #[.int .i64 0, .int .i64 0, .int .i64 0, .int .i64 0, .int .u64 0, .int .i64 0, .int .i64 0]] 8 (World.laidAll_os _ _ _)
      (World.shaped_of_ZipB (by kernel_rfl) (by kernel_rfl)) (by kernel_rfl) (by kernel_rfl) (by kernel_rfl)
      (by rw [MakeChecks.laidMetH_plain _ _ _ (by kernel_rfl)]; exact laidMet_laidAll _ (by kernel_rfl) (by kernel_rfl))) ?_
  intro W base args ds gs before hval hW hsz hL hsh
  have hfin := fun W' => post_true (fn := Tryd.f3) (s := Rows.codeShowsSpec) (bt := 4) (W' := W') rfl laidOut (by kernel_rfl) Tryd.underlying4 rfl (fun ds h => by match ds, h with | [_], _ => rfl) hW
  have hsz : (DataW.weightsEach Tryd.prog (Tryd.f3.params.toList ++ []) (ds ++ gs)).all (· ≤ reachBytes) = true := hsz
  obtain ⟨p, q, hA, hV, rfl, hfz, hnd⟩ := hW
  obtain ⟨rfl, rfl⟩ := trodVars_none hV
  rw [Tryd.params3] at hA hval hsz
  obtain ⟨v0, vs0, d0, ds0, p0, q0, hargs, rfl, rfl, h0, r0⟩ := trodAll_cons hA
  obtain ⟨rfl, rfl, rfl⟩ := trodAll_nil r0
  obtain rfl : args = #[v0] := by cases args; simp_all
  simp only [List.append_nil] at hsz
  have pl0 := arg_plains (ks := (shape Tryd.prog 9 26).getD []) (by kernel_rfl) h0 (arg_weights (j := 0) hsz rfl rfl)
  obtain ⟨cs0, rfl, pl0⟩ := arg_struct Tryd.underlying26 (hval 0 26 v0 rfl rfl) pl0
  obtain ⟨x0, rfl, hx0⟩ := decodeMeter _ pl0
  exact (walk x0 W hx0 hL).mono fun e W' h => by
    obtain ⟨rfl, hb⟩ := h.grew
    exact ⟨_, rfl, hfin W' hb⟩

theorem over : Rows.CodeShowsSaid :=
  OpenClaim.holds_of_wide 3 Tryd.f3 rfl rfl rfl rfl rfl rfl rfl ⟨rfl, rfl, rfl, rfl, rfl⟩ rfl rfl rfl rfl rfl (by kernel_rfl) Tryd.func3 (by kernel_rfl)
    (of_decide_eq_true (by kernel_rfl)) (by unfold Func.isWrapper; first | (rw [if_pos (by decide +kernel)]; kernel_rfl) | (rw [if_neg (by decide +kernel)]; exact ⟨rfl, rfl⟩))
    (fun os started H enc _ => lifted os started H enc)

theorem proved : Rows.CodeShowsCardSaid :=
  Claim7.holds_tied_plain_at .later [] _ true _ true over (fun _ h => by cases h) (by kernel_rfl) (fun _ h => by cases h) codeShows_row_tie rfl ⟨rfl, rfl⟩ (by kernel_rfl) rfl
    (fun f fn hf hfn => by
      obtain rfl : f = 3 := Option.some.inj ((show Tryd.prog.funcNamed "vendmeter/vendmeterlaw.CodeShows" = some 3 by kernel_rfl).symm.trans hf) |>.symm
      obtain rfl : fn = Tryd.f3 := (Option.some.inj (Tryd.func3.symm.trans hfn)).symm
      exact ⟨by kernel_rfl, fun j t ht => by
        have hm : t ∈ Tryd.f3.params.toList := by simpa using Array.mem_of_getElem? ht
        have hall : (Tryd.f3.params.toList.all fun u => !Tryd.prog.wantsStandIn u) = true := by kernel_rfl
        exact (show Tryd.prog.wantsStandIn t = false by simpa using List.all_eq_true.1 hall t hm)⟩)
    (by kernel_rfl)
#print axioms proved
end Go.Proofs.YtiiielccimchgaaDoor.codeShows
