/- keypad.Press answers as the reference does, at every argument. No conditions. -/
import Derived.Test.YtmciccnmpoijdaaDoorLiftC
import Derived.Test.YtmciccnmpoijdaaDoorDecode
import Derived.Test.YtmciccnmpoijdaaDoorPressed
import Derived.Test.YtmciccnmpoijdaaDoorEqPad
import Derived.Test.YtmciccnmpoijdaaDoorSameEntry
import Derived.Test.YtmciccnmpoijdaaDoorTie
import Derived.Test.YtmciccnmpoijdaaDoorCards
namespace Go.Proofs.YtmciccnmpoijdaaDoor.padPresses
open Go.ChangeShapes Go.WideShapes Go.ChangeAt Go.RowKit
set_option maxRecDepth 20000
set_option maxHeartbeats 2000000 in
theorem walk (x : APad) (r : Int) (w : World) (_hx : x.wf) (_hL : laidMetH Tryd.prog Rows.padPressesRow.laid w) : Calls Tryd.prog 4 #[.agg x.cells.toArray, .int .i32 r] w (Grew (.bool true) w) := by
  obtain ⟨D, b⟩ := x
  have P := Lib.hid (fun W => Press_any D b r W)
  have R := Lib.hid (fun W => Pressed_any D b r W)
  unfold KeyP EntP at P R
  generalize keyE D = er at *
  generalize keyX D b r = y at *
  obtain ⟨D', b', ent⟩ := y
  simp only at P R
  generalize entL ent = L at *
  have EQ := fun W => eqlPad_run ⟨D', b'⟩ ⟨D', b'⟩ W
  simp only [decide_true] at EQ
  clear _hL
  show Calls Tryd.prog 4 #[padV D b, .int .i32 r] w _
  go_enter Tryd.func4, Tryd.ntmps4
  go_wp2_with fail
  refine (P.out _).mono ?_
  rintro e w1 ⟨v1, rfl, hS1, k1⟩
  have dO := (Own.new (w := w) rfl [.string D, .bool b] 24).below k1
  have d0 := dO.cell 0 (by simp)
  have df0 := dO.frozen 0
  have d1 := dO.cell 1 (by simp)
  have df1 := dO.frozen 1
  simp only [Nat.zero_add, List.getD_cons_zero, List.getD_cons_succ] at d0 d1
  clear dO
  have k := below_box k1
  have hz : w.heap.size < w1.heap.size := by have := k1.size; simp at this; omega
  have m0 : ¬ w1.heap.size = w.heap.size := by omega
  have m00 : ¬ w.heap.size = w1.heap.size := by omega
  clear k1
  go_wp2_with fail
  refine (R.out _).mono ?_
  rintro e w2 ⟨v2, rfl, hS2, k2⟩
  have pO := (Own.new (w := w1) rfl [.string D', .bool b'] 24).below k2
  have p0 := pO.cell 0 (by simp)
  have pf0 := pO.frozen 0
  have p1 := pO.cell 1 (by simp)
  have pf1 := pO.frozen 1
  simp only [Nat.zero_add, List.getD_cons_zero, List.getD_cons_succ] at p0 p1
  clear pO
  have n1 : w1.heap.size < w2.heap.size := by have := k2.size; simp at this; omega
  have m1 : ¬ w1.heap.size = w2.heap.size := by omega
  have hS1 := (hS1.below (below_box k2)).below (boxed_below _ (.cells #[.string D', .bool b'] 24))
  have hS2 := hS2.below (boxed_below _ (.cells #[.string D', .bool b'] 24))
  have k := k.trans ((below_box k2).mono k.size)
  have k := k.alloc k.size (.cells #[.string D', .bool b'] 24)
  clear k2 d0 d1 df0 df1 P R
  go_wp2_with fail
  refine (sameEntries_any _ _ L L _ hS1 hS2).mono ?_
  rintro e w' ⟨rfl, kk⟩
  have k := k.trans (kk.mono k.size)
  clear kk
  go_wp2
  go_ret
  exact Grew.intro (by simp) k

set_option maxRecDepth 100000 in
theorem lifted (os : Os) (started : os.Started) (H : Type) (enc : TypeId × Value → H) :
    ReturnsInHanded {} Tryd.checked os 4 .any (fun w args => (Rows.padPressesSpec.pre enc Tryd.prog Tryd.f4 Rows.padPressesRow.domain false w args ∧ laidMetH Tryd.prog Rows.padPressesRow.laid w) ∧ sizedMet enc Tryd.prog Tryd.f4 (OpenSpec.ofChange Rows.padPressesSpec) false w args)
      (Rows.padPressesSpec.post enc Tryd.prog Tryd.f4 false true false false) := by
  refine handed_all (C := Tryd.checked) (X := fun w => laidMetH Tryd.prog Rows.padPressesRow.laid w) (fun _ _ hh h => h.of_heap hh) own started (by kernel_rfl) Tryd.func4
    (ChangeSpec.witness_shaped (enc := enc) (C := Tryd.checked) (os := os) (X := fun w _ => laidMetH Tryd.prog Rows.padPressesRow.laid w) false (World.laidAll Tryd.prog os Rows.padPressesRow.laid) #[.agg #[.string ByteArray.empty, .bool false], .int .i32 0] 8 (World.laidAll_os _ _ _)
      (World.shaped_of_ZipB (by kernel_rfl) (by kernel_rfl)) (by kernel_rfl) (by kernel_rfl) (by kernel_rfl)
      (by rw [MakeChecks.laidMetH_plain _ _ _ (by kernel_rfl)]; exact laidMet_laidAll _ (by kernel_rfl) (by kernel_rfl))) ?_
  intro W base args ds gs before hval hW hsz hL hsh
  have hfin := fun W' => post_true (fn := Tryd.f4) (s := Rows.padPressesSpec) (bt := 4) (W' := W') rfl laidOut (by kernel_rfl) Tryd.underlying4 rfl (fun ds h => by match ds, h with | [_, _], _ => rfl) hW
  have hsz : (DataW.weightsEach Tryd.prog (Tryd.f4.params.toList ++ []) (ds ++ gs)).all (· ≤ reachBytes) = true := hsz
  obtain ⟨p, q, hA, hV, rfl, hfz, hnd⟩ := hW
  obtain ⟨rfl, rfl⟩ := trodVars_none hV
  rw [Tryd.params4] at hA hval hsz
  obtain ⟨v0, vs0, d0, ds0, p0, q0, hargs, rfl, rfl, h0, r0⟩ := trodAll_cons hA
  obtain ⟨v1, vs1, d1, ds1, p1, q1, rfl, rfl, rfl, h1, r1⟩ := trodAll_cons r0
  obtain ⟨rfl, rfl, rfl⟩ := trodAll_nil r1
  obtain rfl : args = #[v0, v1] := by cases args; simp_all
  simp only [List.append_nil] at hsz
  have pl0 := arg_plains (ks := (shape Tryd.prog 9 24).getD []) (by kernel_rfl) h0 (arg_weights (j := 0) hsz rfl rfl)
  obtain ⟨cs0, rfl, pl0⟩ := arg_struct Tryd.underlying24 (hval 0 24 v0 rfl rfl) pl0
  obtain ⟨x0, rfl, hx0⟩ := decodePad _ pl0
  obtain ⟨a1, rfl, rfl, rfl, wf1⟩ := open_int Tryd.underlying21 (hval 1 21 v1 rfl rfl) h1
  exact (walk x0 a1 W hx0 hL).mono fun e W' h => by
    obtain ⟨rfl, hb⟩ := h.grew
    exact ⟨_, rfl, hfin W' hb⟩

theorem over : Rows.PadPressesSaid :=
  OpenClaim.holds_of_wide 4 Tryd.f4 rfl rfl rfl rfl rfl rfl rfl ⟨rfl, rfl, rfl, rfl, rfl⟩ rfl rfl rfl rfl rfl (by kernel_rfl) Tryd.func4 (by kernel_rfl)
    (of_decide_eq_true (by kernel_rfl)) (by unfold Func.isWrapper; first | (rw [if_pos (by decide +kernel)]; kernel_rfl) | (rw [if_neg (by decide +kernel)]; exact ⟨rfl, rfl⟩))
    (fun os started H enc _ => lifted os started H enc)

theorem proved : Rows.PadPressesCardSaid :=
  Claim7.holds_tied_plain_at .later [] _ true _ false over (fun _ h => by cases h) (by kernel_rfl) (fun _ h => by cases h) padPresses_row_tie rfl ⟨rfl, rfl⟩ (by kernel_rfl) rfl
    (fun f fn hf hfn => by
      obtain rfl : f = 4 := Option.some.inj ((show Tryd.prog.funcNamed "vendmeter/vendmeterlaw.PadPresses" = some 4 by kernel_rfl).symm.trans hf) |>.symm
      obtain rfl : fn = Tryd.f4 := (Option.some.inj (Tryd.func4.symm.trans hfn)).symm
      exact ⟨by kernel_rfl, fun j t ht => by
        have hm : t ∈ Tryd.f4.params.toList := by simpa using Array.mem_of_getElem? ht
        have hall : (Tryd.f4.params.toList.all fun u => !Tryd.prog.wantsStandIn u) = true := by kernel_rfl
        exact (show Tryd.prog.wantsStandIn t = false by simpa using List.all_eq_true.1 hall t hm)⟩)
    (by kernel_rfl)
#print axioms proved
end Go.Proofs.YtmciccnmpoijdaaDoor.padPresses
