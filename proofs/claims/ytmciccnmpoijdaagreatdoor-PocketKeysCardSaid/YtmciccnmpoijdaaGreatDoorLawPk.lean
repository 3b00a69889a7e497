/- pocket.Keyed answers as the reference does, at every argument, and changes none of them. No conditions. -/
import Derived.Test.YtmciccnmpoijdaaGreatDoorPk00
import Derived.Test.YtmciccnmpoijdaaGreatDoorDecode
import Derived.Test.YtmciccnmpoijdaaGreatDoorPk04
import Derived.Test.YtmciccnmpoijdaaGreatDoorKeyed
import Derived.Test.YtmciccnmpoijdaaGreatDoorPk51
import Derived.Test.YtmciccnmpoijdaaGreatDoorPk10
import Derived.Test.YtmciccnmpoijdaaGreatDoorTie
import Derived.Test.YtmciccnmpoijdaaGreatDoorCards
namespace Go.Proofs.YtmciccnmpoijdaaGreatDoor.pocketKeys
open Go.ChangeShapes Go.WideShapes Go.ChangeAt Go.RowKit
set_option maxRecDepth 20000
set_option maxHeartbeats 4000000 in
theorem walk (v1 : Value) (xs : List Int) (v2 : Value) (ps : List APair) (s : ByteArray) (w : World) (h1 : Sl w v1 1 xs.length (xs.map U32)) (hw : ∀ x ∈ xs, W32 x) (hb1 : xs.length * 4 ≤ 140737488351232) (h2 : Sl w v2 4 ps.length (ps.flatMap APair.cells)) (hp : ∀ p ∈ ps, p.wf) (hb2 : ps.length * 32 ≤ 140737488351232) (_hs : Str s) (_hL : laidMetH Tryz.prog Rows.pocketKeysRow.laid w) :
    Calls Tryz.prog 3 #[v1, .agg #[v2], .string s] w (Grew (.bool true) w) := by
  have C := Lib.hid (fun W hW => words_any v1 xs W hW (by omega))
  have A := Lib.hid (fun W hW => oracles_any v2 ps W hW (by omega))
  have T := Lib.hid (fun v u W h h2 => Keyed_any v xs u ps s W h hw h2 hp)
  have R := Lib.hid (fun W h h2 => PKeyed_any v1 xs v2 ps s W h hw h2)
  unfold KdP at T R
  generalize kdL xs ps s = L at *
  generalize kdN xs ps s = N at *
  generalize kdE xs ps s = E at *
  obtain ⟨a, cap, rfl, -⟩ := id h2
  have kb := boxed_below w (.cells #[.slice a ps.length cap] 25)
  have oo := Own.new (w := w) rfl [.slice a ps.length cap] 25
  have h1 := h1.below kb
  have h2 := h2.below kb
  clear _hL
  go_enter Tryz.func3, Tryz.ntmps3
  go_wp2_with fail
  refine (C.out _ h1).mono ?_
  rintro e w1 ⟨c, rfl, sc, k1⟩
  have oo := oo.below k1
  have h1 := h1.below k1
  have h2 := h2.below k1
  have kb := kb.trans (k1.mono kb.size)
  clear k1
  have oO := oo
  have o0 := oO.cell 0 (by simp)
  have of0 := oO.frozen 0
  simp only [Nat.zero_add, List.getD_cons_zero] at o0
  clear oO
  go_wp2_with fail
  refine (A.out _ h2).mono ?_
  rintro e w2 ⟨u, rfl, su, k2⟩
  obtain ⟨a1, p1, rfl, -⟩ := id su
  have kv := boxed_below w2 (.cells #[.slice a1 ps.length p1] 25)
  have op := Own.new (w := w2) rfl [.slice a1 ps.length p1] 25
  have oo := (oo.below k2).below kv
  have h1 := (h1.below k2).below kv
  have h2 := (h2.below k2).below kv
  have sc := (sc.below k2).below kv
  have su := su.below kv
  have kb := kb.trans (k2.mono kb.size)
  have kb := kb.trans (kv.mono kb.size)
  clear k2 kv A C o0 of0
  have pO := op
  have p0 := pO.cell 0 (by simp)
  have pf0 := pO.frozen 0
  simp only [Nat.zero_add, List.getD_cons_zero] at p0
  clear pO
  go_wp2_with fail
  refine (T.out _ _ _ sc su).mono ?_
  rintro e w3 ⟨x, rfl, sx, k3⟩
  have oo := oo.below k3
  have op := op.below k3
  have h1 := h1.below k3
  have h2 := h2.below k3
  have sc := sc.below k3
  have su := su.below k3
  have kb := kb.trans (k3.mono kb.size)
  clear k3 T p0 pf0
  have oO := oo
  have o0 := oO.cell 0 (by simp)
  have of0 := oO.frozen 0
  simp only [Nat.zero_add, List.getD_cons_zero] at o0
  clear oO
  go_wp2_with fail
  refine (R.out _ h1 h2).mono ?_
  rintro e w4 ⟨y, rfl, sy, k4⟩
  have oo := oo.below k4
  have op := op.below k4
  have h1 := h1.below k4
  have h2 := h2.below k4
  have sc := sc.below k4
  have su := su.below k4
  have sx := sx.below k4
  have kb := kb.trans (k4.mono kb.size)
  clear k4 R o0 of0
  go_wp2_with fail
  refine (sameWrites_any _ _ L L _ sx sy).mono ?_
  rintro e w5 ⟨rfl, k5⟩
  have oo := oo.below k5
  have op := op.below k5
  have h1 := h1.below k5
  have h2 := h2.below k5
  have sc := sc.below k5
  have su := su.below k5
  have kb := kb.trans (k5.mono kb.size)
  clear k5 sx sy
  simp only [decide_true]
  go_wp2_with fail
  refine (sameWords_any _ _ xs xs _ h1 sc).mono ?_
  rintro e w6 ⟨rfl, k6⟩
  have oo := oo.below k6
  have op := op.below k6
  have h2 := h2.below k6
  have su := su.below k6
  have kb := kb.trans (k6.mono kb.size)
  clear k6 h1 sc
  simp only [decide_true]
  have oO := oo
  have o0 := oO.cell 0 (by simp)
  have of0 := oO.frozen 0
  simp only [Nat.zero_add, List.getD_cons_zero] at o0
  clear oO
  have pO := op
  have p0 := pO.cell 0 (by simp)
  have pf0 := pO.frozen 0
  simp only [Nat.zero_add, List.getD_cons_zero] at p0
  clear pO
  go_wp2_with fail
  refine (sameOracle_any _ _ ps _ h2 su).mono ?_
  rintro e w7 ⟨rfl, k7⟩
  have kb := kb.trans (k7.mono kb.size)
  clear k7 o0 of0 p0 pf0
  go_wp2
  go_ret
  exact Grew.intro (by simp) kb

set_option maxRecDepth 100000 in
theorem lifted (os : Os) (started : os.Started) (H : Type) (enc : TypeId × Value → H) :
    ReturnsInHanded {} Tryz.checked os 3 .any (fun w args => (Rows.pocketKeysSpec.pre enc Tryz.prog Tryz.f3 Rows.pocketKeysRow.domain false w args ∧ laidMetH Tryz.prog Rows.pocketKeysRow.laid w) ∧ sizedMet enc Tryz.prog Tryz.f3 (OpenSpec.ofChange Rows.pocketKeysSpec) false w args)
      (Rows.pocketKeysSpec.post enc Tryz.prog Tryz.f3 false true false false) := by
  refine handed_all (C := Tryz.checked) (X := fun w => laidMetH Tryz.prog Rows.pocketKeysRow.laid w) (fun _ _ hh h => h.of_heap hh) own started (by kernel_rfl) Tryz.func3
    (ChangeSpec.witness_shaped (enc := enc) (C := Tryz.checked) (os := os) (X := fun w _ => laidMetH Tryz.prog Rows.pocketKeysRow.laid w) false (World.laidAll Tryz.prog os Rows.pocketKeysRow.laid) #[.slice none 0 0, .agg #[.slice none 0 0], .string ByteArray.empty] 8 (World.laidAll_os _ _ _)
      (World.shaped_of_ZipB (by kernel_rfl) (by kernel_rfl)) (by kernel_rfl) (by kernel_rfl) (by kernel_rfl)
      (by rw [MakeChecks.laidMetH_plain _ _ _ (by kernel_rfl)]; exact laidMet_laidAll _ (by kernel_rfl) (by kernel_rfl))) ?_
  intro W base args ds gs before hval hW hsz hL hsh
  have hfin := fun W' => post_true (fn := Tryz.f3) (s := Rows.pocketKeysSpec) (bt := 4) (W' := W') rfl laidOut (by kernel_rfl) Tryz.underlying4 rfl (fun ds h => by match ds, h with | [_, _, _], _ => rfl) hW
  have hsz : (DataW.weightsEach Tryz.prog (Tryz.f3.params.toList ++ []) (ds ++ gs)).all (· ≤ reachBytes) = true := hsz
  obtain ⟨p, q, hA, hV, rfl, hfz, hnd⟩ := hW
  obtain ⟨rfl, rfl⟩ := trodVars_none hV
  rw [Tryz.params3] at hA hval hsz
  obtain ⟨v0, vs0, d0, ds0, p0, q0, hargs, rfl, rfl, h0, r0⟩ := trodAll_cons hA
  obtain ⟨v1, vs1, d1, ds1, p1, q1, rfl, rfl, rfl, h1, r1⟩ := trodAll_cons r0
  obtain ⟨v2, vs2, d2, ds2, p2, q2, rfl, rfl, rfl, h2, r2⟩ := trodAll_cons r1
  obtain ⟨rfl, rfl, rfl⟩ := trodAll_nil r2
  obtain rfl : args = #[v0, v1, v2] := by cases args; simp_all
  simp only [List.append_nil] at hsz
  have pl0 := arg_plains (ks := (shape Tryz.prog 9 22).getD []) (by kernel_rfl) h0 (arg_weights (j := 0) hsz rfl rfl)
  obtain ⟨xs0, hS0, hw0, hb0⟩ := plain_words (arg_slice Tryz.underlying22 (hval 0 22 v0 rfl rfl) pl0)
  have pl1 := arg_plains (ks := (shape Tryz.prog 9 25).getD []) (by kernel_rfl) h1 (arg_weights (j := 1) hsz rfl rfl)
  obtain ⟨cs1, rfl, pl1⟩ := arg_struct Tryz.underlying25 (hval 1 25 v1 rfl rfl) pl1
  obtain ⟨u1, xs1, rfl, hS1, hw1, hb1⟩ := decodeOracle _ pl1
  have pl2 := arg_plains (ks := (shape Tryz.prog 9 9).getD []) (by kernel_rfl) h2 (arg_weights (j := 2) hsz rfl rfl)
  obtain ⟨s2, rfl, hs2⟩ := arg_string Tryz.underlying9 (hval 2 9 v2 rfl rfl) h2 pl2
  exact (walk v0 xs0 u1 xs1 s2 W hS0 hw0 hb0 hS1 hw1 hb1 hs2 hL).mono fun e W' h => by
    obtain ⟨rfl, hb⟩ := h.grew
    exact ⟨_, rfl, hfin W' hb⟩

theorem over : Rows.PocketKeysSaid :=
  OpenClaim.holds_of_wide 3 Tryz.f3 rfl rfl rfl rfl rfl rfl rfl ⟨rfl, rfl, rfl, rfl, rfl⟩ rfl rfl rfl rfl rfl (by kernel_rfl) Tryz.func3 (by kernel_rfl)
    (of_decide_eq_true (by kernel_rfl)) (by unfold Func.isWrapper; first | (rw [if_pos (by decide +kernel)]; kernel_rfl) | (rw [if_neg (by decide +kernel)]; exact ⟨rfl, rfl⟩))
    (fun os started H enc _ => lifted os started H enc)

theorem proved : Rows.PocketKeysCardSaid :=
  Claim7.holds_tied_plain_at .later [] _ true _ false over (fun _ h => by cases h) (by kernel_rfl) (fun _ h => by cases h) pocketKeys_row_tie rfl ⟨rfl, rfl⟩ (by kernel_rfl) rfl
    (fun f fn hf hfn => by
      obtain rfl : f = 3 := Option.some.inj ((show Tryz.prog.funcNamed "vendmeter/vendmeterlaw.PocketKeys" = some 3 by kernel_rfl).symm.trans hf) |>.symm
      obtain rfl : fn = Tryz.f3 := (Option.some.inj (Tryz.func3.symm.trans hfn)).symm
      exact ⟨by kernel_rfl, fun j t ht => by
        have hm : t ∈ Tryz.f3.params.toList := by simpa using Array.mem_of_getElem? ht
        have hall : (Tryz.f3.params.toList.all fun u => !Tryz.prog.wantsStandIn u) = true := by kernel_rfl
        exact (show Tryz.prog.wantsStandIn t = false by simpa using List.all_eq_true.1 hall t hm)⟩)
    (by kernel_rfl)
#print axioms proved
end Go.Proofs.YtmciccnmpoijdaaGreatDoor.pocketKeys
