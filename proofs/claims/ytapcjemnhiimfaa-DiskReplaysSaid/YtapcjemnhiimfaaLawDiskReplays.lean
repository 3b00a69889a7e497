/- disk.Replay answers as the reference does, at every argument, and changes none of them. No conditions. -/
import Derived.Test.YtapcjemnhiimfaaLift
import Derived.Test.YtapcjemnhiimfaaDecode
import Derived.Test.YtapcjemnhiimfaaDiskReplay
import Derived.Test.YtapcjemnhiimfaaSameRecs
import Derived.Test.YtapcjemnhiimfaaSameWords
import Derived.Test.YtapcjemnhiimfaaCopyWords
namespace Go.Proofs.Ytapcjemnhiimfaa.diskReplays
open Go.ChangeShapes Go.WideShapes Go.ChangeAt Go.RowKit
set_option maxRecDepth 20000

theorem recT_length (xs : List Int) : ∀ f p, (recT xs f p).length ≤ f
  | 0, p => by simp [recT]
  | f + 1, p => by
    rw [recT]
    split
    · have := recT_length xs f (p + (stepI xs p).toNat + 1)
      simp; omega
    · simp
theorem recs_length (xs : List Int) : (recsOf xs).length ≤ 4096 := by
  unfold recsOf tapeE
  cases h : inB xs.length 1 2048
  · simp
  · have := inB_true.1 h
    have h2 := recT_length xs (xs.length + 1) 0
    simp only [if_true]
    repeat' split
    all_goals first | (unfold recR; omega) | simp
set_option maxHeartbeats 2000000 in
theorem walk (v1 : Value) (xs : List Int) (w : World) (h1 : Sl w v1 1 xs.length (xs.map U32)) (hw : ∀ x ∈ xs, W32 x) (hb1 : xs.length * 4 ≤ 140737488351232) :
    Calls Try.prog 3 #[v1] w (Grew (.bool true) w) := by
  have k := Below.refl w.heap.size w
  have T := Lib.hid (fun v W h => Replay_any v xs W h hw)
  have R := Lib.hid (fun v W h => Replayed_recs v xs W h hw)
  have HL := Lib.hid (recs_length xs)
  generalize tapeA xs = A at *
  generalize tapeE xs = E at *
  generalize recsOf xs = L at *
  clear hw
  go_enter Try.func3, Try.ntmps3
  go_wp2_with fail
  refine (words_any _ xs _ h1 (by omega)).mono ?_
  rintro e w' ⟨c, rfl, hc, kk⟩
  have h1 := h1.below kk
  have k := k.trans (kk.mono k.size)
  clear kk
  go_wp2_with fail
  refine (T.out _ _ hc).mono ?_
  rintro e wA ⟨va, ua, rfl, ra, ka⟩
  have h1 := h1.below ka
  have hc := hc.below ka
  have k := k.trans (ka.mono k.size)
  clear ka
  go_wp2_with fail
  refine (R.out _ _ h1).mono ?_
  rintro e wB ⟨vb, ub, rfl, rb, kb⟩
  have h1 := h1.below kb
  have hc := hc.below kb
  have ra := ra.below (kb.mono (Nat.le_refl _))
  have k := k.trans (kb.mono k.size)
  have RA := Lib.hid ra
  have RB := Lib.hid rb
  clear kb ra rb
  go_wp2_with fail
  refine (sameRecs_any _ _ _ _ L ua ub _ RA.out RB.out HL.out).mono ?_
  rintro e wC ⟨rfl, kk⟩
  have h1 := h1.below kk
  have hc := hc.below kk
  have k := k.trans (kk.mono k.size)
  clear kk
  go_wp2_with fail
  refine (sameWords_any _ _ xs xs _ h1 hc).mono ?_
  rintro e w' ⟨rfl, kk⟩
  have k := k.trans (kk.mono k.size)
  clear kk
  go_wp2
  go_ret
  exact Grew.intro (by simp) k

set_option maxRecDepth 100000 in
theorem lifted (os : Os) (started : os.Started) (H : Type) (enc : TypeId × Value → H) :
    ReturnsInHanded {} Try.checked os 3 .any (Rows.diskReplaysSpec.pre6 enc Try.prog Try.f3 Rows.diskReplaysRow.domain false) (Rows.diskReplaysSpec.post enc Try.prog Try.f3 false true false false) := by
  refine returnsInHanded_of_change_sized (C := Try.checked) own started (by kernel_rfl) Try.func3
    (ChangeSpec.witness6 (enc := enc) (C := Try.checked) false ⟨#[], #[.slice none 0 0], []⟩ 8 (by kernel_rfl) (by kernel_rfl) (by kernel_rfl) (by kernel_rfl)) ?_
  intro W base args ds gs before hval hW hcnd hsz _
  have hfin := fun W' => post_true (fn := Try.f3) (s := Rows.diskReplaysSpec) (bt := 4) (W' := W') rfl laidOut (by kernel_rfl) Try.underlying4 rfl (fun ds h => by match ds, h with | [_], _ => rfl) hW
  have hsz : (DataW.weightsEach Try.prog (Try.f3.params.toList ++ []) (ds ++ gs)).all (· ≤ reachBytes) = true := hsz
  obtain ⟨p, q, hA, hV, rfl, hfz, hnd⟩ := hW
  obtain ⟨rfl, rfl⟩ := trodVars_none hV
  rw [Try.params3] at hA hval hsz
  obtain ⟨v0, vs0, d0, ds0, p0, q0, hargs, rfl, rfl, h0, r0⟩ := trodAll_cons hA
  obtain ⟨rfl, rfl, rfl⟩ := trodAll_nil r0
  obtain rfl : args = #[v0] := by cases args; simp_all
  simp only [List.append_nil] at hsz
  have pl0 := arg_plains (ks := (shape Try.prog 9 22).getD []) (by kernel_rfl) h0 (arg_weights (j := 0) hsz rfl rfl)
  obtain ⟨xs0, hS0, hw0, hb0⟩ := plain_words (arg_slice Try.underlying22 (hval 0 22 v0 rfl rfl) pl0)
  exact (walk v0 xs0 W hS0 hw0 hb0).mono fun e W' h => by
    obtain ⟨rfl, hb⟩ := h.grew
    exact ⟨_, rfl, hfin W' hb⟩

theorem over : Rows.diskReplaysRow.holds Try.pinned (OpenSpec.ofChange Rows.diskReplaysSpec) :=
  OpenClaim.holds_of_wide 3 Try.f3 rfl rfl rfl rfl rfl rfl rfl ⟨rfl, rfl, rfl, rfl, rfl⟩ rfl rfl rfl rfl rfl (by kernel_rfl) Try.func3 (by kernel_rfl)
    (of_decide_eq_true (by kernel_rfl)) (by unfold Func.isWrapper; first | (rw [if_pos (by decide +kernel)]; kernel_rfl) | (rw [if_neg (by decide +kernel)]; exact ⟨rfl, rfl⟩))
    (fun os started H enc _ => lifted os started H enc)

theorem proved : Rows.DiskReplaysSaid := over
#print axioms proved
end Go.Proofs.Ytapcjemnhiimfaa.diskReplays
