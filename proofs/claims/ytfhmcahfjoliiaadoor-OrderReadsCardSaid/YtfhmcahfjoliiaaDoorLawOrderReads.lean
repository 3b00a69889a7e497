/- order.Read answers as the reference does, at every argument. No conditions. -/
import Derived.Test.YtfhmcahfjoliiaaDoorLiftC
import Derived.Test.YtfhmcahfjoliiaaDoorDecode
import Derived.Test.YtfhmcahfjoliiaaDoorOrdReadJ
import Derived.Test.YtfhmcahfjoliiaaDoorOrdTab
import Derived.Test.YtfhmcahfjoliiaaDoorTie
import Derived.Test.YtfhmcahfjoliiaaDoorCards
import Derived.Stop.LaidErr
import Derived.HandedShaped
import Derived.Shelf.Vars
namespace Go.Proofs.YtfhmcahfjoliiaaDoor.orderReads
set_option linter.unusedSimpArgs false
set_option linter.unusedVariables false
open Go.ChangeShapes Go.WideShapes Go.ChangeAt Go.RowKit
set_option maxRecDepth 20000
theorem powTab {w : World} (hL : laidMetH Tryd.prog Rows.orderReadsRow.laid w) : PowTab w := by
  rw [MakeChecks.laidMetH_plain _ _ _ (by kernel_rfl)] at hL
  exact Go.Lib.tabIs_of_head (g := 4) (t := 108) (n := 20) (e := 85) (by kernel_rfl) (by kernel_rfl) (by kernel_rfl) (by kernel_rfl) (by kernel_rfl) (by kernel_rfl) (show laidMet Tryd.prog (("internal/strconv.uint64pow10", Go.Lib.tabData .u64 Go.Lib.pow10Tab) :: Rows.orderReadsRow.laid.drop 3) w from laidMet.tail (laidMet.tail (show laidMet Tryd.prog Rows.orderReadsRow.laid w from hL)))
theorem forms {w : World} (hL : laidMetH Tryd.prog Rows.orderReadsRow.laid w) : FormT w := by
  rw [MakeChecks.laidMetH_plain _ _ _ (by kernel_rfl)] at hL
  exact formT_of (Lib.laidMet.reads (show laidMet Tryd.prog Rows.orderReadsRow.laid w from hL) (.tail _ (.tail _ (.tail _ (.tail _ (.tail _ (.head _)))))))
theorem star : "*" ++ "errors.errorString" = "*errors.errorString" := by decide
theorem rowE (u : TypeId) (h : Tryd.prog.typeName? 3 u = some "*errors.errorString") : u = 104 :=
  typeName_ptr_named (nm := "errors.errorString") (by rw [star]; kernel_rfl) (by kernel_rfl) (by decide) u (by rw [star]; exact h)
theorem cellsE : Tryd.prog.cellsOf 106 = 1 := by kernel_rfl
theorem cellsS : Tryd.prog.cellsOf 9 = 1 := by kernel_rfl
theorem gS : Tryd.prog.globalNamed "strconv.ErrSyntax" = some 2 := by kernel_rfl
theorem gR : Tryd.prog.globalNamed "strconv.ErrRange" = some 3 := by kernel_rfl
theorem tS : (Tryd.prog.globals[2]?).map (·.type) = some 51 := by kernel_rfl
theorem tR : (Tryd.prog.globals[3]?).map (·.type) = some 51 := by kernel_rfl
theorem envN {w : World} (hL : laidMetH Tryd.prog Rows.orderReadsRow.laid w) (hsh : w.ShapedOpen Tryd.prog) : EnvN w := by
  rw [MakeChecks.laidMetH_plain _ _ _ (by kernel_rfl)] at hL
  have hL2 : laidMet Tryd.prog Rows.orderReadsRow.laid w := hL
  have h3 : laidMet Tryd.prog (("strconv.ErrRange", Rows.laid_strconv_ErrRange) :: Rows.orderReadsRow.laid.drop 4) w := laidMet.tail (laidMet.tail (laidMet.tail hL2))
  have h4 : laidMet Tryd.prog (("strconv.ErrSyntax", Rows.laid_strconv_ErrSyntax) :: Rows.orderReadsRow.laid.drop 5) w := laidMet.tail h3
  obtain ⟨m, hm⟩ := cell_of_shapedOpen_int (P := Tryd.prog) (g := 1) (t := 3) (zero := #[.int .i64 0]) hsh (of_decide_eq_true (by kernel_rfl)) (by kernel_rfl) rfl (by kernel_rfl) (by kernel_rfl) Tryd.underlying3
  obtain ⟨a0, s0, hv0, _, _, _⟩ := laid_sentinel h3 gR tR Tryd.underlying51 rowE Tryd.underlying104 Tryd.underlying106 rfl rfl Tryd.underlying9 cellsE cellsS
  obtain ⟨a1, s1, hv1, _, _, _⟩ := laid_sentinel h4 gS tS Tryd.underlying51 rowE Tryd.underlying104 Tryd.underlying106 rfl rfl Tryd.underlying9 cellsE cellsS
  exact ⟨⟨m, hm⟩, ⟨_, by simpa using World.var?_cell gS hv1 0, .inr ⟨_, _, rfl⟩⟩, ⟨_, by simpa using World.var?_cell gR hv0 0, .inr ⟨_, _, rfl⟩⟩⟩
theorem FormT.belowJ {w W : World} (h : FormT w) (k : Below w.heap.size w W) : FormT W := h.below k
set_option maxHeartbeats 2000000 in
theorem walk (s : ByteArray) (w : World) (_hs : Str s) (hL : laidMetH Tryd.prog Rows.orderReadsRow.laid w) (hsh : w.ShapedOpen Tryd.prog) : Calls Tryd.prog 3 #[.string s] w (Grew (.bool true) w) := by
  obtain ⟨x, er, P0, R0⟩ := Reads_both s
  have P := Lib.hid (P0 w (forms hL) (powTab hL) (envN hL hsh))
  have R := Lib.hid R0
  have EQ := fun W => eqlAct_run x x W
  obtain ⟨x0, x1, x2, x3, x4, x5, x6⟩ := x
  simp only [decide_true] at EQ
  clear P0 R0 hL hsh
  go_enter Tryd.func3, Tryd.ntmps3
  go_wp2_with fail
  refine P.out.mono ?_
  rintro e w1 ⟨rfl, k1⟩
  have kz := boxed_below w1 (.cells #[I x0, I x1, I x2, I x3, I x4, .string x5, I x6] 23)
  have k := k1.trans (kz.mono k1.size)
  have oA := Own.new (w := w1) rfl [I x0, I x1, I x2, I x3, I x4, .string x5, I x6] 23
  have hs1 := k1.size
  clear k1 kz P
  go_wp2_with fail
  refine (R.out _).mono ?_
  rintro e w2 ⟨rfl, k2⟩
  have hz : w1.heap.size < w2.heap.size := by have := k2.size; simp at this; omega
  have kk := (k.trans (k2.mono k.size)).alloc (by omega) (.cells #[I x0, I x1, I x2, I x3, I x4, .string x5, I x6] 23)
  have aO := (oA.below k2).alloc (.cells #[I x0, I x1, I x2, I x3, I x4, .string x5, I x6] 23)
  have afA := aO.f; have a0 := aO.c0; have a1 := aO.c1; have a2 := aO.c2; have a3 := aO.c3; have a4 := aO.c4; have a5 := aO.c5; have a6 := aO.c6
  clear aO
  have bO := Own.new (w := w2) rfl [I x0, I x1, I x2, I x3, I x4, .string x5, I x6] 23
  have bfA := bO.f; have b0 := bO.c0; have b1 := bO.c1; have b2 := bO.c2; have b3 := bO.c3; have b4 := bO.c4; have b5 := bO.c5; have b6 := bO.c6
  clear bO
  have n1 : ¬ w1.heap.size = w2.heap.size := by omega
  have n2 : ¬ w2.heap.size = w1.heap.size := by omega
  clear k k2 R oA
  go_wp2
  go_ret
  exact Grew.intro (by simp) kk

set_option maxRecDepth 100000 in
theorem lifted (os : Os) (started : os.Started) (H : Type) (enc : TypeId × Value → H) :
    ReturnsInHanded {} Tryd.checked os 3 .any (fun w args => (Rows.orderReadsSpec.pre enc Tryd.prog Tryd.f3 Rows.orderReadsRow.domain false w args ∧ laidMetH Tryd.prog Rows.orderReadsRow.laid w) ∧ sizedMet enc Tryd.prog Tryd.f3 (OpenSpec.ofChange Rows.orderReadsSpec) false w args)
      (Rows.orderReadsSpec.post enc Tryd.prog Tryd.f3 false true false false) := by
  refine handed_all (C := Tryd.checked) (X := fun w => laidMetH Tryd.prog Rows.orderReadsRow.laid w) (fun _ _ hh h => h.of_heap hh) own started (by kernel_rfl) Tryd.func3
    (ChangeSpec.witness_shaped (enc := enc) (C := Tryd.checked) (os := os) (X := fun w _ => laidMetH Tryd.prog Rows.orderReadsRow.laid w) false (World.laidAll Tryd.prog os Rows.orderReadsRow.laid) #[.string ByteArray.empty] 8 (World.laidAll_os _ _ _)
      (World.shaped_of_ZipB (by kernel_rfl) (by kernel_rfl)) (by kernel_rfl) (by kernel_rfl) (by kernel_rfl)
      (by rw [MakeChecks.laidMetH_plain _ _ _ (by kernel_rfl)]; exact laidMet_laidAll _ (by kernel_rfl) (by kernel_rfl))) ?_
  intro W base args ds gs before hval hW hsz hL hsh
  have hfin := fun W' => post_true (fn := Tryd.f3) (s := Rows.orderReadsSpec) (bt := 4) (W' := W') rfl laidOut (by kernel_rfl) Tryd.underlying4 rfl (fun ds h => by match ds, h with | [_], _ => rfl) hW
  have hsz : (DataW.weightsEach Tryd.prog (Tryd.f3.params.toList ++ []) (ds ++ gs)).all (· ≤ reachBytes) = true := hsz
  obtain ⟨p, q, hA, hV, rfl, hfz, hnd⟩ := hW
  obtain ⟨rfl, rfl⟩ := trodVars_none hV
  rw [Tryd.params3] at hA hval hsz
  obtain ⟨v0, vs0, d0, ds0, p0, q0, hargs, rfl, rfl, h0, r0⟩ := trodAll_cons hA
  obtain ⟨rfl, rfl, rfl⟩ := trodAll_nil r0
  obtain rfl : args = #[v0] := by cases args; simp_all
  simp only [List.append_nil] at hsz
  have pl0 := arg_plains (ks := (shape Tryd.prog 9 9).getD []) (by kernel_rfl) h0 (arg_weights (j := 0) hsz rfl rfl)
  obtain ⟨s0, rfl, hs0⟩ := arg_string Tryd.underlying9 (hval 0 9 v0 rfl rfl) h0 pl0
  exact (walk s0 W hs0 hL hsh).mono fun e W' h => by
    obtain ⟨rfl, hb⟩ := h.grew
    exact ⟨_, rfl, hfin W' hb⟩

theorem over : Rows.OrderReadsSaid :=
  OpenClaim.holds_of_wide 3 Tryd.f3 rfl rfl rfl rfl rfl rfl rfl ⟨rfl, rfl, rfl, rfl, rfl⟩ rfl rfl rfl rfl rfl (by kernel_rfl) Tryd.func3 (by kernel_rfl)
    (of_decide_eq_true (by kernel_rfl)) (by unfold Func.isWrapper; first | (rw [if_pos (by decide +kernel)]; kernel_rfl) | (rw [if_neg (by decide +kernel)]; exact ⟨rfl, rfl⟩))
    (fun os started H enc _ => lifted os started H enc)

theorem proved : Rows.OrderReadsCardSaid :=
  Claim7.holds_tied_plain_at .later [] _ true _ true over (fun _ h => by cases h) (by kernel_rfl) (fun _ h => by cases h) orderReads_row_tie rfl ⟨rfl, rfl⟩ (by kernel_rfl) rfl
    (fun f fn hf hfn => by
      obtain rfl : f = 3 := Option.some.inj ((show Tryd.prog.funcNamed "vendmeter/vendmeterlaw.OrderReads" = some 3 by kernel_rfl).symm.trans hf) |>.symm
      obtain rfl : fn = Tryd.f3 := (Option.some.inj (Tryd.func3.symm.trans hfn)).symm
      exact ⟨by kernel_rfl, fun j t ht => by
        have hm : t ∈ Tryd.f3.params.toList := by simpa using Array.mem_of_getElem? ht
        have hall : (Tryd.f3.params.toList.all fun u => !Tryd.prog.wantsStandIn u) = true := by kernel_rfl
        exact (show Tryd.prog.wantsStandIn t = false by simpa using List.all_eq_true.1 hall t hm)⟩)
    (by kernel_rfl)
#print axioms proved
end Go.Proofs.YtfhmcahfjoliiaaDoor.orderReads
