/- keypad.Keys answers as the reference does, at every argument. No conditions. -/
import Derived.Test.YtmciccnmpoijdaaDoorLiftC
import Derived.Test.YtmciccnmpoijdaaDoorDecode
import Derived.Test.YtmciccnmpoijdaaDoorTyped
import Derived.Test.YtmciccnmpoijdaaDoorEqPad
import Derived.Test.YtmciccnmpoijdaaDoorSameEntry
import Derived.Test.YtmciccnmpoijdaaDoorTie
import Derived.Test.YtmciccnmpoijdaaDoorCards
import Derived.Lib.LaidU8
namespace Go.Proofs.YtmciccnmpoijdaaDoor.padKeys
open Go.ChangeShapes Go.WideShapes Go.ChangeAt Go.RowKit
set_option maxRecDepth 20000
theorem tabs {w : World} (hL : laidMetH Tryd.prog Rows.padKeysRow.laid w) : Lib.Utf8Tabs (0) (1) w := by
  rw [MakeChecks.laidMetH_plain _ _ _ (by kernel_rfl)] at hL
  have h2 : laidMet Tryd.prog [("unicode/utf8.acceptRanges", Rows.laid_unicode_utf8_acceptRanges), ("unicode/utf8.first", Rows.laid_unicode_utf8_first)] w := hL
  have hf := Lib.laidMet.reads h2 (.tail _ (.head _))
  have ha := Lib.laidMet.reads h2 (.head _)
  have e1 : Rows.laid_unicode_utf8_first = Lib.firstData := by kernel_rfl
  have e2 : (Rows.laid_unicode_utf8_acceptRanges : DataW Unit) = Lib.acceptData := by kernel_rfl
  rw [e1] at hf
  rw [e2] at ha
  exact utf8Tabs_of_reads Tryd.lays260 ⟨by kernel_rfl, by kernel_rfl, by kernel_rfl, by kernel_rfl, by kernel_rfl, by kernel_rfl, by kernel_rfl⟩ hf ha
set_option maxHeartbeats 2000000 in
theorem walk (s : ByteArray) (w : World) (_hs : Str s) (hL : laidMetH Tryd.prog Rows.padKeysRow.laid w) : Calls Tryd.prog 3 #[.string s] w (Grew (.bool true) w) := by
  have P := Lib.hid (fun W => Keys_any s W)
  have R := Lib.hid (fun W (h : Below w.heap.size w W) => Typed_any s W (Utf8Tabs_below (tabs hL) h))
  unfold KeysP at P R
  generalize keysE s = er at *
  generalize keysR s = y at *
  obtain ⟨D, b, L⟩ := y
  simp only at P R
  have EQ := fun W => eqlPad_run ⟨D, b⟩ ⟨D, b⟩ W
  simp only [decide_true] at EQ
  clear hL
  go_enter Tryd.func3, Tryd.ntmps3
  go_wp2_with fail
  refine (P.out _).mono ?_
  rintro e w1 ⟨v1, rfl, hS1, k1⟩
  have k := k1.trans ((boxed_below w1 (.cells #[.string D, .bool b] 24)).mono k1.size)
  go_wp2_with fail
  refine (R.out _ k).mono ?_
  rintro e w2 ⟨v2, rfl, hS2, k2⟩
  have hz1 := k1.size
  have hz : w1.heap.size < w2.heap.size := by have := k2.size; simp at this; omega
  have m1 : ¬ w2.heap.size = w1.heap.size := by omega
  have m2 : ¬ w1.heap.size = w2.heap.size := by omega
  have dO := ((Own.new (w := w1) rfl [.string D, .bool b] 24).below k2).alloc (.cells #[.string D, .bool b] 24)
  have d0 := dO.cell 0 (by simp)
  have df0 := dO.frozen 0
  have d1 := dO.cell 1 (by simp)
  have df1 := dO.frozen 1
  simp only [Nat.zero_add, List.getD_cons_zero, List.getD_cons_succ] at d0 d1
  clear dO
  have pO := Own.new (w := w2) rfl [.string D, .bool b] 24
  have p0 := pO.cell 0 (by simp)
  have pf0 := pO.frozen 0
  have p1 := pO.cell 1 (by simp)
  have pf1 := pO.frozen 1
  simp only [Nat.zero_add, List.getD_cons_zero, List.getD_cons_succ] at p0 p1
  clear pO
  have hS1 := ((hS1.below (boxed_below w1 (.cells #[.string D, .bool b] 24))).below k2).below (boxed_below _ (.cells #[.string D, .bool b] 24))
  have hS2 := hS2.below (boxed_below _ (.cells #[.string D, .bool b] 24))
  have k := (k.trans (k2.mono k.size)).alloc (by omega) (.cells #[.string D, .bool b] 24)
  clear k1 k2 P R
  go_wp2_with fail
  refine (sameEntries_any _ _ L L _ hS1 hS2).mono ?_
  rintro e w' ⟨rfl, kk⟩
  have k := k.trans (kk.mono k.size)
  clear kk
  go_wp2
  go_ret
  exact Grew.intro (by simp) k

set_option maxRecDepth 100000 in
theorem lifted (os : Os) (started : os.Started) (H : Type) (enc : TypeId × Value → H) :
    ReturnsInHanded {} Tryd.checked os 3 .any (fun w args => (Rows.padKeysSpec.pre enc Tryd.prog Tryd.f3 Rows.padKeysRow.domain false w args ∧ laidMetH Tryd.prog Rows.padKeysRow.laid w) ∧ sizedMet enc Tryd.prog Tryd.f3 (OpenSpec.ofChange Rows.padKeysSpec) false w args)
      (Rows.padKeysSpec.post enc Tryd.prog Tryd.f3 false true false false) := by
  refine handed_all (C := Tryd.checked) (X := fun w => laidMetH Tryd.prog Rows.padKeysRow.laid w) (fun _ _ hh h => h.of_heap hh) own started (by kernel_rfl) Tryd.func3
    (ChangeSpec.witness_shaped (enc := enc) (C := Tryd.checked) (os := os) (X := fun w _ => laidMetH Tryd.prog Rows.padKeysRow.laid w) false (World.laidAll Tryd.prog os Rows.padKeysRow.laid) #[.string ByteArray.empty] 8 (World.laidAll_os _ _ _)
      (World.shaped_of_ZipB (by kernel_rfl) (by kernel_rfl)) (by kernel_rfl) (by kernel_rfl) (by kernel_rfl)
      (by rw [MakeChecks.laidMetH_plain _ _ _ (by kernel_rfl)]; exact laidMet_laidAll _ (by kernel_rfl) (by kernel_rfl))) ?_
  intro W base args ds gs before hval hW hsz hL hsh
  have hfin := fun W' => post_true (fn := Tryd.f3) (s := Rows.padKeysSpec) (bt := 4) (W' := W') rfl laidOut (by kernel_rfl) Tryd.underlying4 rfl (fun ds h => by match ds, h with | [_], _ => rfl) hW
  have hsz : (DataW.weightsEach Tryd.prog (Tryd.f3.params.toList ++ []) (ds ++ gs)).all (· ≤ reachBytes) = true := hsz
  obtain ⟨p, q, hA, hV, rfl, hfz, hnd⟩ := hW
  obtain ⟨rfl, rfl⟩ := trodVars_none hV
  rw [Tryd.params3] at hA hval hsz
  obtain ⟨v0, vs0, d0, ds0, p0, q0, hargs, rfl, rfl, h0, r0⟩ := trodAll_cons hA
  obtain ⟨rfl, rfl, rfl⟩ := trodAll_nil r0
  obtain rfl : args = #[v0] := by cases args; simp_all
  simp only [List.append_nil] at hsz
  have pl0 := arg_plains (ks := (shape Tryd.prog 9 9).getD []) (by kernel_rfl) h0 (arg_weights (j := 0) hsz rfl rfl)
  obtain ⟨s0, rfl, hs0⟩ := arg_string Tryd.underlying9 (hval 0 9 v0 rfl rfl) h0 pl0
  exact (walk s0 W hs0 hL).mono fun e W' h => by
    obtain ⟨rfl, hb⟩ := h.grew
    exact ⟨_, rfl, hfin W' hb⟩

theorem over : Rows.PadKeysSaid :=
  OpenClaim.holds_of_wide 3 Tryd.f3 rfl rfl rfl rfl rfl rfl rfl ⟨rfl, rfl, rfl, rfl, rfl⟩ rfl rfl rfl rfl rfl (by kernel_rfl) Tryd.func3 (by kernel_rfl)
    (of_decide_eq_true (by kernel_rfl)) (by unfold Func.isWrapper; first | (rw [if_pos (by decide +kernel)]; kernel_rfl) | (rw [if_neg (by decide +kernel)]; exact ⟨rfl, rfl⟩))
    (fun os started H enc _ => lifted os started H enc)

theorem proved : Rows.PadKeysCardSaid :=
  Claim7.holds_tied_plain_at .later [] _ true _ false over (fun _ h => by cases h) (by kernel_rfl) (fun _ h => by cases h) padKeys_row_tie rfl ⟨rfl, rfl⟩ (by kernel_rfl) rfl
    (fun f fn hf hfn => by
      obtain rfl : f = 3 := Option.some.inj ((show Tryd.prog.funcNamed "vendmeter/vendmeterlaw.PadKeys" = some 3 by kernel_rfl).symm.trans hf) |>.symm
      obtain rfl : fn = Tryd.f3 := (Option.some.inj (Tryd.func3.symm.trans hfn)).symm
      exact ⟨by kernel_rfl, fun j t ht => by
        have hm : t ∈ Tryd.f3.params.toList := by simpa using Array.mem_of_getElem? ht
        have hall : (Tryd.f3.params.toList.all fun u => !Tryd.prog.wantsStandIn u) = true := by kernel_rfl
        exact (show Tryd.prog.wantsStandIn t = false by simpa using List.all_eq_true.1 hall t hm)⟩)
    (by kernel_rfl)
#print axioms proved
end Go.Proofs.YtmciccnmpoijdaaDoor.padKeys
