/- token.Parse answers as the reference does, at every argument. No conditions. -/
import Derived.Test.YtmciccnmpoijdaaDoorLiftC
import Derived.Test.YtmciccnmpoijdaaDoorDecode
import Derived.Test.YtmciccnmpoijdaaDoorParseGood
import Derived.Test.YtmciccnmpoijdaaDoorParseRef
import Derived.Test.YtmciccnmpoijdaaDoorEqToken
import Derived.Test.YtmciccnmpoijdaaDoorTie
import Derived.Test.YtmciccnmpoijdaaDoorCards
namespace Go.Proofs.YtmciccnmpoijdaaDoor.tokenParses
open Go.ChangeShapes Go.WideShapes Go.ChangeAt Go.RowKit
set_option maxRecDepth 20000
theorem Parse_any (s : ByteArray) (w : World) : Calls Tryd.prog 18 #[.string s] w (ParP s w) := by
  by_cases h : s.size = 20
  · cases hd : allDig s 20
    · exact Parse_bad s w h hd
    · exact Parse_good s w h hd
  · exact Parse_len s w h
theorem Parsed_any (s : ByteArray) (w : World) : Calls Tryd.prog 19 #[.string s] w (ParP s w) := by
  by_cases h : s.size = 20
  · exact Parsed_on s w h
  · exact Parsed_len s w h
set_option maxHeartbeats 2000000 in
theorem walk (s : ByteArray) (w : World) (_hs : Str s) (_hL : laidMetH Tryd.prog Rows.tokenParsesRow.laid w) : Calls Tryd.prog 7 #[.string s] w (Grew (.bool true) w) := by
  have P := Lib.hid (fun W => Parse_any s W)
  have R := Lib.hid (fun W => Parsed_any s W)
  unfold ParP at P R
  obtain ⟨x, hx⟩ : ∃ x, parT s = x := ⟨_, rfl⟩
  rw [hx] at P R
  have EQ := fun W => eqlToken_run x x W
  obtain ⟨c, i, m, t⟩ := x
  generalize parE s = er at *
  clear hx _hL
  simp only [decide_true] at EQ
  go_enter Tryd.func7, Tryd.ntmps7
  go_wp2_with fail
  refine (P.out _).mono ?_
  rintro e w1 ⟨rfl, k⟩
  have n0 : w.heap.size ≤ w1.heap.size := k.size
  go_wp2_with fail
  refine (R.out _).mono ?_
  rintro e w2 ⟨rfl, k2⟩
  have pO := (Own.new (w := w1) rfl [I c, I i, I m, I t] 37).below k2
  have p0 := pO.cell 0 (by simp)
  have pf0 := pO.frozen 0
  have p1 := pO.cell 1 (by simp)
  have pf1 := pO.frozen 1
  have p2 := pO.cell 2 (by simp)
  have pf2 := pO.frozen 2
  have p3 := pO.cell 3 (by simp)
  have pf3 := pO.frozen 3
  simp only [Nat.zero_add, List.getD_cons_zero, List.getD_cons_succ] at p0 p1 p2 p3
  clear pO
  have kk := k.trans ((below_box k2).mono k.size)
  have n1 : w1.heap.size < w2.heap.size := by have := k2.size; simp at this; omega
  have m1 : ¬ w1.heap.size = w2.heap.size := by omega
  clear k2 k
  go_wp2
  go_ret
  exact Grew.intro (by simp) (kk.alloc kk.size _)

set_option maxRecDepth 100000 in
theorem lifted (os : Os) (started : os.Started) (H : Type) (enc : TypeId × Value → H) :
    ReturnsInHanded {} Tryd.checked os 7 .any (fun w args => (Rows.tokenParsesSpec.pre enc Tryd.prog Tryd.f7 Rows.tokenParsesRow.domain false w args ∧ laidMetH Tryd.prog Rows.tokenParsesRow.laid w) ∧ sizedMet enc Tryd.prog Tryd.f7 (OpenSpec.ofChange Rows.tokenParsesSpec) false w args)
      (Rows.tokenParsesSpec.post enc Tryd.prog Tryd.f7 false true false false) := by
  refine handed_all (C := Tryd.checked) (X := fun w => laidMetH Tryd.prog Rows.tokenParsesRow.laid w) (fun _ _ hh h => h.of_heap hh) own started (by kernel_rfl) Tryd.func7
    (ChangeSpec.witness_shaped (enc := enc) (C := Tryd.checked) (os := os) (X := fun w _ => laidMetH Tryd.prog Rows.tokenParsesRow.laid w) false (World.laidAll Tryd.prog os Rows.tokenParsesRow.laid) #[.string ByteArray.empty] 8 (World.laidAll_os _ _ _)
      (World.shaped_of_ZipB (by kernel_rfl) (by kernel_rfl)) (by kernel_rfl) (by kernel_rfl) (by kernel_rfl)
      (by rw [MakeChecks.laidMetH_plain _ _ _ (by kernel_rfl)]; exact laidMet_laidAll _ (by kernel_rfl) (by kernel_rfl))) ?_
  intro W base args ds gs before hval hW hsz hL hsh
  have hfin := fun W' => post_true (fn := Tryd.f7) (s := Rows.tokenParsesSpec) (bt := 4) (W' := W') rfl laidOut (by kernel_rfl) Tryd.underlying4 rfl (fun ds h => by match ds, h with | [_], _ => rfl) hW
  have hsz : (DataW.weightsEach Tryd.prog (Tryd.f7.params.toList ++ []) (ds ++ gs)).all (· ≤ reachBytes) = true := hsz
  obtain ⟨p, q, hA, hV, rfl, hfz, hnd⟩ := hW
  obtain ⟨rfl, rfl⟩ := trodVars_none hV
  rw [Tryd.params7] at hA hval hsz
  obtain ⟨v0, vs0, d0, ds0, p0, q0, hargs, rfl, rfl, h0, r0⟩ := trodAll_cons hA
  obtain ⟨rfl, rfl, rfl⟩ := trodAll_nil r0
  obtain rfl : args = #[v0] := by cases args; simp_all
  simp only [List.append_nil] at hsz
  have pl0 := arg_plains (ks := (shape Tryd.prog 9 9).getD []) (by kernel_rfl) h0 (arg_weights (j := 0) hsz rfl rfl)
  obtain ⟨s0, rfl, hs0⟩ := arg_string Tryd.underlying9 (hval 0 9 v0 rfl rfl) h0 pl0
  exact (walk s0 W hs0 hL).mono fun e W' h => by
    obtain ⟨rfl, hb⟩ := h.grew
    exact ⟨_, rfl, hfin W' hb⟩

theorem over : Rows.TokenParsesSaid :=
  OpenClaim.holds_of_wide 7 Tryd.f7 rfl rfl rfl rfl rfl rfl rfl ⟨rfl, rfl, rfl, rfl, rfl⟩ rfl rfl rfl rfl rfl (by kernel_rfl) Tryd.func7 (by kernel_rfl)
    (of_decide_eq_true (by kernel_rfl)) (by unfold Func.isWrapper; first | (rw [if_pos (by decide +kernel)]; kernel_rfl) | (rw [if_neg (by decide +kernel)]; exact ⟨rfl, rfl⟩))
    (fun os started H enc _ => lifted os started H enc)

theorem proved : Rows.TokenParsesCardSaid :=
  Claim7.holds_tied_plain_at .later [] _ true _ false over (fun _ h => by cases h) (by kernel_rfl) (fun _ h => by cases h) tokenParses_row_tie rfl ⟨rfl, rfl⟩ (by kernel_rfl) rfl
    (fun f fn hf hfn => by
      obtain rfl : f = 7 := Option.some.inj ((show Tryd.prog.funcNamed "vendmeter/vendmeterlaw.TokenParses" = some 7 by kernel_rfl).symm.trans hf) |>.symm
      obtain rfl : fn = Tryd.f7 := (Option.some.inj (Tryd.func7.symm.trans hfn)).symm
      exact ⟨by kernel_rfl, fun j t ht => by
        have hm : t ∈ Tryd.f7.params.toList := by simpa using Array.mem_of_getElem? ht
        have hall : (Tryd.f7.params.toList.all fun u => !Tryd.prog.wantsStandIn u) = true := by kernel_rfl
        exact (show Tryd.prog.wantsStandIn t = false by simpa using List.all_eq_true.1 hall t hm)⟩)
    (by kernel_rfl)
#print axioms proved
end Go.Proofs.YtmciccnmpoijdaaDoor.tokenParses
