/- cell.Apply answers as the reference does, at every argument, and changes none of them. No conditions. -/
import Derived.Test.YtebcdabdnmeeaaaLift
import Derived.Test.YtebcdabdnmeeaaaDecode
import Derived.Test.YtebcdabdnmeeaaaApplyMain
import Derived.Test.YtebcdabdnmeeaaaApplied
import Derived.Test.YtebcdabdnmeeaaaSameWords
import Derived.Test.YtebcdabdnmeeaaaSameWrite
import Derived.Test.YtebcdabdnmeeaaaCopyWords
import Derived.Test.YtebcdabdnmeeaaaCopyWrites
namespace Go.Proofs.Ytebcdabdnmeeaaa.cellApplies
open Go.ChangeShapes Go.WideShapes Go.ChangeAt Go.RowKit
set_option maxRecDepth 20000

theorem walk (v1 : Value) (xs : List Int) (v2 : Value) (ws : List AWrite) (m : Int) (w : World) (h1 : Sl w v1 1 xs.length (xs.map U32)) (_ : ∀ x ∈ xs, W32 x) (hb1 : xs.length * 4 ≤ 140737488351232)
    (h2 : Sl w v2 2 ws.length (ws.flatMap AWrite.cells)) (_ : ∀ x ∈ ws, x.wf) (hb2 : ws.length * 16 ≤ 140737488351232) : Calls Try.prog 12 #[v1, v2, I m] w (Grew (.bool true) w) := by
  have k := Below.refl w.heap.size w
  go_enter Try.func12, Try.ntmps12
  go_wp2_with fail
  refine (words_any _ xs _ h1 (by omega)).mono ?_
  rintro e w' ⟨c, rfl, hc, kk⟩
  have h1 := h1.below kk
  have h2 := h2.below kk
  have k := k.trans (kk.mono k.size)
  clear kk
  go_wp2_with fail
  refine (writes_any _ ws _ h2 (by omega)).mono ?_
  rintro e w' ⟨d, rfl, hd, kk⟩
  have h1 := h1.below kk
  have h2 := h2.below kk
  have hc := hc.below kk
  have k := k.trans (kk.mono k.size)
  clear kk
  go_wp2_with fail
  refine (Apply_any _ xs _ ws m _ hc hd).mono ?_
  rintro e w' ⟨x, rfl, hx, kk⟩
  have h1 := h1.below kk
  have h2 := h2.below kk
  have hc := hc.below kk
  have hd := hd.below kk
  have k := k.trans (kk.mono k.size)
  clear kk
  go_wp2_with fail
  refine (Applied_any _ xs _ ws m _ h1 h2).mono ?_
  rintro e w' ⟨y, rfl, hy, kk⟩
  have h1 := h1.below kk
  have h2 := h2.below kk
  have hc := hc.below kk
  have hd := hd.below kk
  have hx := hx.below kk
  have k := k.trans (kk.mono k.size)
  clear kk
  go_wp2_with fail
  refine (sameWords_any _ _ (applyL xs ws m) (applyL xs ws m) _ hx hy).mono ?_
  rintro e w' ⟨rfl, kk⟩
  have h1 := h1.below kk
  have h2 := h2.below kk
  have hc := hc.below kk
  have hd := hd.below kk
  have k := k.trans (kk.mono k.size)
  clear kk
  go_wp2_with fail
  refine (sameWords_any _ _ xs xs _ h1 hc).mono ?_
  rintro e w' ⟨rfl, kk⟩
  have h2 := h2.below kk
  have hd := hd.below kk
  have k := k.trans (kk.mono k.size)
  clear kk
  go_wp2_with fail
  refine (sameWrites_any _ _ ws ws _ h2 hd).mono ?_
  rintro e w' ⟨rfl, kk⟩
  have k := k.trans (kk.mono k.size)
  clear kk
  go_wp2
  go_ret
  exact Grew.intro (by simp) k

set_option maxRecDepth 100000 in
theorem lifted (os : Os) (started : os.Started) (H : Type) (enc : TypeId × Value → H) :
    ReturnsInHanded {} Try.checked os 12 .any (Rows.cellAppliesSpec.pre6 enc Try.prog Try.f12 Rows.cellAppliesRow.domain false) (Rows.cellAppliesSpec.post enc Try.prog Try.f12 false true false false) := by
  refine returnsInHanded_of_change_sized (C := Try.checked) own started (by kernel_rfl) Try.func12
    (ChangeSpec.witness6 (enc := enc) (C := Try.checked) false ⟨#[], #[.slice none 0 0, .slice none 0 0, .int .i64 0], []⟩ 8 (by kernel_rfl) (by kernel_rfl) (by kernel_rfl) (by kernel_rfl)) ?_
  intro W base args ds gs before hval hW hcnd hsz _
  have hfin := fun W' => post_true (fn := Try.f12) (s := Rows.cellAppliesSpec) (bt := 4) (W' := W') rfl laidOut (by kernel_rfl) Try.underlying4 rfl (fun ds h => by match ds, h with | [_, _, _], _ => rfl) hW
  have hsz : (DataW.weightsEach Try.prog (Try.f12.params.toList ++ []) (ds ++ gs)).all (· ≤ reachBytes) = true := hsz
  obtain ⟨p, q, hA, hV, rfl, hfz, hnd⟩ := hW
  obtain ⟨rfl, rfl⟩ := trodVars_none hV
  rw [Try.params12] at hA hval hsz
  obtain ⟨v0, vs0, d0, ds0, p0, q0, hargs, rfl, rfl, h0, r0⟩ := trodAll_cons hA
  obtain ⟨v1, vs1, d1, ds1, p1, q1, rfl, rfl, rfl, h1, r1⟩ := trodAll_cons r0
  obtain ⟨v2, vs2, d2, ds2, p2, q2, rfl, rfl, rfl, h2, r2⟩ := trodAll_cons r1
  obtain ⟨rfl, rfl, rfl⟩ := trodAll_nil r2
  obtain rfl : args = #[v0, v1, v2] := by cases args; simp_all
  simp only [List.append_nil] at hsz
  have pl0 := arg_plains (ks := (shape Try.prog 9 43).getD []) (by kernel_rfl) h0 (arg_weights (j := 0) hsz rfl rfl)
  obtain ⟨xs0, hS0, hw0, hb0⟩ := plain_words (arg_slice Try.underlying43 (hval 0 43 v0 rfl rfl) pl0)
  have pl1 := arg_plains (ks := (shape Try.prog 9 53).getD []) (by kernel_rfl) h1 (arg_weights (j := 1) hsz rfl rfl)
  obtain ⟨xs1, hS1, hw1, hb1⟩ := plainWrites (arg_slice Try.underlying53 (hval 1 53 v1 rfl rfl) pl1)
  obtain ⟨a2, rfl, rfl, rfl, wf2⟩ := open_int Try.underlying3 (hval 2 3 v2 rfl rfl) h2
  exact (walk v0 xs0 v1 xs1 a2 W hS0 hw0 hb0 hS1 hw1 hb1).mono fun e W' h => by
    obtain ⟨rfl, hb⟩ := h.grew
    exact ⟨_, rfl, hfin W' hb⟩

theorem over : Rows.cellAppliesRow.holds Try.pinned (OpenSpec.ofChange Rows.cellAppliesSpec) :=
  OpenClaim.holds_of_wide 12 Try.f12 rfl rfl rfl rfl rfl rfl rfl ⟨rfl, rfl, rfl, rfl, rfl⟩ rfl rfl rfl rfl rfl (by kernel_rfl) Try.func12 (by kernel_rfl)
    (of_decide_eq_true (by kernel_rfl)) (by unfold Func.isWrapper; first | (rw [if_pos (by decide +kernel)]; kernel_rfl) | (rw [if_neg (by decide +kernel)]; exact ⟨rfl, rfl⟩))
    (fun os started H enc _ => lifted os started H enc)

theorem proved : Rows.CellAppliesSaid := over
#print axioms proved
end Go.Proofs.Ytebcdabdnmeeaaa.cellApplies
