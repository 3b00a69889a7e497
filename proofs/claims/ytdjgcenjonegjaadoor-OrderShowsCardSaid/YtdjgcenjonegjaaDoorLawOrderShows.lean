/- order.Show answers as the reference does, at every argument. No conditions. -/
import Derived.Test.YtdjgcenjonegjaaDoorLiftC
import Derived.Test.YtdjgcenjonegjaaDoorDecode
import Derived.Test.YtdjgcenjonegjaaDoorOrdShowC
import Derived.Test.YtdjgcenjonegjaaDoorActRfff
import Derived.Test.YtdjgcenjonegjaaDoorActRttt
import Derived.Test.YtdjgcenjonegjaaDoorActRtft
import Derived.Test.YtdjgcenjonegjaaDoorActRfft
import Derived.Test.YtdjgcenjonegjaaDoorActRttf
import Derived.Test.YtdjgcenjonegjaaDoorActRtff
import Derived.Test.YtdjgcenjonegjaaDoorOrdTab
import Derived.Test.YtdjgcenjonegjaaDoorTie
import Derived.Test.YtdjgcenjonegjaaDoorCards
import Derived.Stop.LaidErr
namespace Go.Proofs.YtdjgcenjonegjaaDoor.orderShows
set_option linter.unusedSimpArgs false
set_option linter.unusedVariables false
open Go.ChangeShapes Go.WideShapes Go.ChangeAt Go.RowKit
set_option maxRecDepth 20000
theorem powTab {w : World} (hL : laidMetH Tryd.prog Rows.orderShowsRow.laid w) : PowTab w := by
  rw [MakeChecks.laidMetH_plain _ _ _ (by kernel_rfl)] at hL
  exact Go.Lib.tabIs_of_head (g := 2) (t := 96) (n := 20) (e := 78) (by kernel_rfl) (by kernel_rfl) (by kernel_rfl) (by kernel_rfl) (by kernel_rfl) (by kernel_rfl) (show laidMet Tryd.prog (("internal/strconv.uint64pow10", Go.Lib.tabData .u64 Go.Lib.pow10Tab) :: Rows.orderShowsRow.laid.drop 3) w from laidMet.tail (laidMet.tail (show laidMet Tryd.prog Rows.orderShowsRow.laid w from hL)))
theorem forms {w : World} (hL : laidMetH Tryd.prog Rows.orderShowsRow.laid w) : FormT w := by
  rw [MakeChecks.laidMetH_plain _ _ _ (by kernel_rfl)] at hL
  exact formT_of (Lib.laidMet.reads (show laidMet Tryd.prog Rows.orderShowsRow.laid w from hL) (.tail _ (.tail _ (.tail _ (.head _)))))
theorem Show_any (ki me a b c cu : Int) (te : ByteArray) (w : World) (hF : FormT w) (hT : PowTab w) (hs : te.size ≤ 140737488351232) :
    Calls Tryd.prog 5 #[.agg #[I ki, I me, I a, I b, I c, .string te, I cu]] w (AcP ki me a b c te cu w) := by
  by_cases h : cu < 0
  · exact ShowN_any ki me a b c cu te w hF hT hs h
  · exact ShowC_any ki me a b c cu te w hF hT hs (by omega)
theorem ActShown_any (ki me a b c cu : Int) (te : ByteArray) (w : World) (hs : te.size ≤ 9223372036854770000) :
    Calls Tryd.prog 6 #[.agg #[I ki, I me, I a, I b, I c, .string te, I cu]] w (AcP ki me a b c te cu w) := by
  by_cases h2 : ki = 2
  · exact ActShown_ttt ki me a b c cu te w hs (by subst h2; rfl) (by subst h2; rfl) (by subst h2; rfl)
  · by_cases h3 : ki = 3
    · exact ActShown_tft ki me a b c cu te w hs (by subst h3; rfl) (by subst h3; rfl) (by subst h3; rfl)
    · by_cases h4 : ki = 4
      · exact ActShown_fft ki me a b c cu te w hs (by subst h4; rfl) (by subst h4; rfl) (by subst h4; rfl)
      · by_cases h5 : ki = 5
        · exact ActShown_ttf ki me a b c cu te w hs (by subst h5; rfl) (by subst h5; rfl) (by subst h5; rfl)
        · by_cases h7 : ki = 7
          · exact ActShown_tff ki me a b c cu te w hs (by subst h7; rfl) (by subst h7; rfl) (by subst h7; rfl)
          · exact ActShown_fff ki me a b c cu te w hs (by simp [actA, h2, h3, h5, h7]) (by simp [actB, h2, h5]) (by simp [actC, h2, h3, h4])
set_option maxHeartbeats 2000000 in
theorem walk (x : AAct) (w : World) (hx : x.wf) (hL : laidMetH Tryd.prog Rows.orderShowsRow.laid w) : Calls Tryd.prog 3 #[.agg x.cells.toArray] w (Grew (.bool true) w) := by
  obtain ⟨ki, me, a, b, c, te, cu⟩ := x
  have hs : te.size ≤ 140737488351232 := hx.2.2.2.2.2.1
  have HP := Lib.hid (powTab hL)
  have HQ := Lib.hid (forms hL)
  have P := Lib.hid (fun W h1 h2 => Show_any ki me a b c cu te W h1 h2 hs)
  have R := Lib.hid (fun W => ActShown_any ki me a b c cu te W (by omega))
  unfold AcP at P R
  generalize acT ki me a b c te cu = t at *
  generalize acE ki me a b c te cu = r at *
  have kB := boxed_below w (.cells #[I ki, I me, I a, I b, I c, .string te, I cu] 23)
  have oR := Own.new (w := w) rfl [I ki, I me, I a, I b, I c, .string te, I cu] 23
  have PB := Lib.hid (PowTab.below HP.out kB)
  have FB := Lib.hid (HQ.out.below kB)
  have KB := Lib.hid kB
  have OR := Lib.hid oR
  clear hL kB HP HQ oR hx hs
  show Calls Tryd.prog 3 #[.agg #[I ki, I me, I a, I b, I c, .string te, I cu]] w _
  go_enter Tryd.func3, Tryd.ntmps3
  have dO := OR.out
  have dfA := dO.f; have d0 := dO.c0; have d1 := dO.c1; have d2 := dO.c2; have d3 := dO.c3; have d4 := dO.c4; have d5 := dO.c5; have d6 := dO.c6
  clear dO
  go_wp2_with fail
  refine (P.out _ FB.out PB.out).mono ?_
  rintro e w1 ⟨rfl, k1⟩
  clear d0 d1 d2 d3 d4 d5 d6 dfA
  have dO := OR.out.below k1
  have dfA := dO.f; have d0 := dO.c0; have d1 := dO.c1; have d2 := dO.c2; have d3 := dO.c3; have d4 := dO.c4; have d5 := dO.c5; have d6 := dO.c6
  clear dO
  have KK := Lib.hid (KB.out.trans (k1.mono KB.out.size))
  clear k1
  go_wp2_with fail
  refine (R.out _).mono ?_
  rintro e w2 ⟨rfl, k2⟩
  have kk := KK.out.trans (k2.mono KK.out.size)
  clear k2 d0 d1 d2 d3 d4 d5 d6 dfA
  go_wp2
  go_ret
  exact Grew.intro (by simp) kk

set_option maxRecDepth 100000 in
theorem lifted (os : Os) (started : os.Started) (H : Type) (enc : TypeId × Value → H) :
    ReturnsInHanded {} Tryd.checked os 3 .any (fun w args => (Rows.orderShowsSpec.pre enc Tryd.prog Tryd.f3 Rows.orderShowsRow.domain false w args ∧ laidMetH Tryd.prog Rows.orderShowsRow.laid w) ∧ sizedMet enc Tryd.prog Tryd.f3 (OpenSpec.ofChange Rows.orderShowsSpec) false w args)
      (Rows.orderShowsSpec.post enc Tryd.prog Tryd.f3 false true false false) := by
  refine handed_all (C := Tryd.checked) (X := fun w => laidMetH Tryd.prog Rows.orderShowsRow.laid w) (fun _ _ hh h => h.of_heap hh) own started (by kernel_rfl) Tryd.func3
    (ChangeSpec.witness_shaped (enc := enc) (C := Tryd.checked) (os := os) (X := fun w _ => laidMetH Tryd.prog Rows.orderShowsRow.laid w) false (World.laidAll Tryd.prog os Rows.orderShowsRow.laid) #[.agg #[.int .i64 0, .int .i64 0, .int .i64 0, .int .i64 0, .int .i64 0, .string ByteArray.empty, .int .i64 0]] 8 (World.laidAll_os _ _ _)
      (World.shaped_of_ZipB (by kernel_rfl) (by kernel_rfl)) (by kernel_rfl) (by kernel_rfl) (by kernel_rfl)
      (by rw [MakeChecks.laidMetH_plain _ _ _ (by kernel_rfl)]; exact laidMet_laidAll _ (by kernel_rfl) (by kernel_rfl))) ?_
  intro W base args ds gs before hval hW hsz hL hsh
  have hfin := fun W' => post_true (fn := Tryd.f3) (s := Rows.orderShowsSpec) (bt := 4) (W' := W') rfl laidOut (by kernel_rfl) Tryd.underlying4 rfl (fun ds h => by match ds, h with | [_], _ => rfl) hW
  have hsz : (DataW.weightsEach Tryd.prog (Tryd.f3.params.toList ++ []) (ds ++ gs)).all (· ≤ reachBytes) = true := hsz
  obtain ⟨p, q, hA, hV, rfl, hfz, hnd⟩ := hW
  obtain ⟨rfl, rfl⟩ := trodVars_none hV
  rw [Tryd.params3] at hA hval hsz
  obtain ⟨v0, vs0, d0, ds0, p0, q0, hargs, rfl, rfl, h0, r0⟩ := trodAll_cons hA
  obtain ⟨rfl, rfl, rfl⟩ := trodAll_nil r0
  obtain rfl : args = #[v0] := by cases args; simp_all
  simp only [List.append_nil] at hsz
  have pl0 := arg_plains (ks := (shape Tryd.prog 9 23).getD []) (by kernel_rfl) h0 (arg_weights (j := 0) hsz rfl rfl)
  obtain ⟨cs0, rfl, pl0⟩ := arg_struct Tryd.underlying23 (hval 0 23 v0 rfl rfl) pl0
  obtain ⟨x0, rfl, hx0⟩ := decodeAct _ pl0
  exact (walk x0 W hx0 hL).mono fun e W' h => by
    obtain ⟨rfl, hb⟩ := h.grew
    exact ⟨_, rfl, hfin W' hb⟩

theorem over : Rows.OrderShowsSaid :=
  OpenClaim.holds_of_wide 3 Tryd.f3 rfl rfl rfl rfl rfl rfl rfl ⟨rfl, rfl, rfl, rfl, rfl⟩ rfl rfl rfl rfl rfl (by kernel_rfl) Tryd.func3 (by kernel_rfl)
    (of_decide_eq_true (by kernel_rfl)) (by unfold Func.isWrapper; first | (rw [if_pos (by decide +kernel)]; kernel_rfl) | (rw [if_neg (by decide +kernel)]; exact ⟨rfl, rfl⟩))
    (fun os started H enc _ => lifted os started H enc)

theorem proved : Rows.OrderShowsCardSaid :=
  Claim7.holds_tied_plain_at .later [] _ true _ true over (fun _ h => by cases h) (by kernel_rfl) (fun _ h => by cases h) orderShows_row_tie rfl ⟨rfl, rfl⟩ (by kernel_rfl) rfl
    (fun f fn hf hfn => by
      obtain rfl : f = 3 := Option.some.inj ((show Tryd.prog.funcNamed "vendmeter/vendmeterlaw.OrderShows" = some 3 by kernel_rfl).symm.trans hf) |>.symm
      obtain rfl : fn = Tryd.f3 := (Option.some.inj (Tryd.func3.symm.trans hfn)).symm
      exact ⟨by kernel_rfl, fun j t ht => by
        have hm : t ∈ Tryd.f3.params.toList := by simpa using Array.mem_of_getElem? ht
        have hall : (Tryd.f3.params.toList.all fun u => !Tryd.prog.wantsStandIn u) = true := by kernel_rfl
        exact (show Tryd.prog.wantsStandIn t = false by simpa using List.all_eq_true.1 hall t hm)⟩)
    (by kernel_rfl)
#print axioms proved
end Go.Proofs.YtdjgcenjonegjaaDoor.orderShows
