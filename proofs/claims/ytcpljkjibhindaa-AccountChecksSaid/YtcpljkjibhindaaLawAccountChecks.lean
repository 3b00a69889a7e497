/- account.Check answers as the reference does, at every argument, and changes none of them. No conditions. -/
import Derived.Test.YtcpljkjibhindaaLift
import Derived.Test.YtcpljkjibhindaaDecodeB
import Derived.Test.YtcpljkjibhindaaTerms
namespace Go.Proofs.Ytcpljkjibhindaa.accountChecks
open Go.ChangeShapes Go.WideShapes Go.ChangeAt Go.RowKit
set_option maxRecDepth 20000
set_option maxHeartbeats 2000000 in
theorem walk (x : ATerms) (v : Value) (xs : List AStep) (w : World) (_hx : x.wf) (h : Sl w v 2 xs.length (xs.flatMap AStep.cells)) (_hw : ∀ x ∈ xs, x.wf) (hb : xs.length * 16 ≤ 140737488351232) :
    Calls Try.prog 10 #[.agg #[v, I x.feeFix, I x.feeBp, I x.debtBp, I x.allow]] w (Grew (.bool true) w) := by
  obtain ⟨f, b, d, al⟩ := x
  simp only
  have hS := h
  obtain ⟨a, cap, rfl, -⟩ := h
  have k0 := boxed_below w (.cells #[.slice a xs.length cap, I f, I b, I d, I al] 55)
  have T := Lib.hid (terms_any _ xs f b d al _ (hS.below k0) (by omega))
  have C := Lib.hid (fun u W g => CheckTerms_any u xs f b d al W g)
  have F := Lib.hid (fun W g => TermsFault_any (.slice a xs.length cap) xs f b d al W g)
  have S := Lib.hid (fun u W g1 g2 => sameTerms_any u (.slice a xs.length cap) xs f b d al W g1 g2)
  generalize termsE xs f b d al = r at *
  have o1 := Own.new (w := w) rfl [.slice a xs.length cap, I f, I b, I d, I al] 55
  go_enter Try.func10, Try.ntmps10
  go_wp2_with fail
  refine T.out.mono ?_
  rintro e w1 ⟨v', rfl, h1, k1⟩
  have h1' := h1
  obtain ⟨a', cap', rfl, -⟩ := h1'
  have hs1 := (o1.below k1).lt
  have kA := boxed_below w1 (.cells #[.slice a' xs.length cap', I f, I b, I d, I al] 55)
  have oc := (o1.below k1).below kA
  have od := Own.new (w := w1) rfl [.slice a' xs.length cap', I f, I b, I d, I al] 55
  have g1 := h1.below kA
  have kk1 := k0.trans (k1.mono k0.size)
  have kk2 := kk1.trans (kA.mono kk1.size)
  have g2 := hS.below kk2
  clear o1 k0 k1 kA kk1 h1 hS T
  go_wp2_with fail
  refine (C.out _ _ g1).mono ?_
  rintro e w2 ⟨rfl, k2⟩
  have oc2 := oc.below k2
  have od2 := od.below k2
  have g1' := g1.below k2
  have g2' := g2.below k2
  have kk3 := kk2.trans (k2.mono kk2.size)
  clear k2 kk2 oc od g1 g2
  have cO := oc2
  have c0 := cO.cell 0 (by simp)
  have cf0 := cO.frozen 0
  have c1 := cO.cell 1 (by simp)
  have cf1 := cO.frozen 1
  have c2 := cO.cell 2 (by simp)
  have cf2 := cO.frozen 2
  have c3 := cO.cell 3 (by simp)
  have cf3 := cO.frozen 3
  have c4 := cO.cell 4 (by simp)
  have cf4 := cO.frozen 4
  simp only [Nat.zero_add, List.getD_cons_zero, List.getD_cons_succ] at c0 c1 c2 c3 c4
  clear cO
  have dO := od2
  have d0 := dO.cell 0 (by simp)
  have df0 := dO.frozen 0
  have d1 := dO.cell 1 (by simp)
  have df1 := dO.frozen 1
  have d2 := dO.cell 2 (by simp)
  have df2 := dO.frozen 2
  have d3 := dO.cell 3 (by simp)
  have df3 := dO.frozen 3
  have d4 := dO.cell 4 (by simp)
  have df4 := dO.frozen 4
  simp only [Nat.zero_add, List.getD_cons_zero, List.getD_cons_succ] at d0 d1 d2 d3 d4
  clear dO
  go_wp2_with fail
  refine (F.out _ g2').mono ?_
  rintro e w3 ⟨rfl, k3⟩
  have pO := oc2.below k3
  have p0 := pO.cell 0 (by simp)
  have pf0 := pO.frozen 0
  have p1 := pO.cell 1 (by simp)
  have pf1 := pO.frozen 1
  have p2 := pO.cell 2 (by simp)
  have pf2 := pO.frozen 2
  have p3 := pO.cell 3 (by simp)
  have pf3 := pO.frozen 3
  have p4 := pO.cell 4 (by simp)
  have pf4 := pO.frozen 4
  simp only [Nat.zero_add, List.getD_cons_zero, List.getD_cons_succ] at p0 p1 p2 p3 p4
  clear pO
  have qO := od2.below k3
  have q0 := qO.cell 0 (by simp)
  have qf0 := qO.frozen 0
  have q1 := qO.cell 1 (by simp)
  have qf1 := qO.frozen 1
  have q2 := qO.cell 2 (by simp)
  have qf2 := qO.frozen 2
  have q3 := qO.cell 3 (by simp)
  have qf3 := qO.frozen 3
  have q4 := qO.cell 4 (by simp)
  have qf4 := qO.frozen 4
  simp only [Nat.zero_add, List.getD_cons_zero, List.getD_cons_succ] at q0 q1 q2 q3 q4
  clear qO
  have g3 := g1'.below k3
  have g4 := g2'.below k3
  have kk4 := kk3.trans (k3.mono kk3.size)
  clear k3 kk3 oc2 od2 g1' g2' c0 c1 c2 c3 c4 cf0 cf1 cf2 cf3 cf4 d0 d1 d2 d3 d4 df0 df1 df2 df3 df4
  go_wp2_with fail
  refine (S.out _ _ g3 g4).mono ?_
  rintro e w4 ⟨rfl, k4⟩
  have kk5 := kk4.trans (k4.mono kk4.size)
  clear k4 kk4
  go_wp2
  go_ret
  exact Grew.intro (by simp) kk5

set_option maxRecDepth 100000 in
theorem lifted (os : Os) (started : os.Started) (H : Type) (enc : TypeId × Value → H) :
    ReturnsInHanded {} Try.checked os 10 .any (Rows.accountChecksSpec.pre6 enc Try.prog Try.f10 Rows.accountChecksRow.domain false) (Rows.accountChecksSpec.post enc Try.prog Try.f10 false true false false) := by
  refine returnsInHanded_of_change_sized (C := Try.checked) own started (by kernel_rfl) Try.func10
    (ChangeSpec.witness6 (enc := enc) (C := Try.checked) false ⟨#[], #[.agg #[.slice none 0 0, .int .i64 0, .int .i64 0, .int .i64 0, .int .i64 0]], []⟩ 8 (by kernel_rfl) (by kernel_rfl) (by kernel_rfl) (by kernel_rfl)) ?_
  intro W base args ds gs before hval hW hcnd hsz _
  have hfin := fun W' => post_true (fn := Try.f10) (s := Rows.accountChecksSpec) (bt := 4) (W' := W') rfl laidOut (by kernel_rfl) Try.underlying4 rfl (fun ds h => by match ds, h with | [_], _ => rfl) hW
  have hsz : (DataW.weightsEach Try.prog (Try.f10.params.toList ++ []) (ds ++ gs)).all (· ≤ reachBytes) = true := hsz
  obtain ⟨p, q, hA, hV, rfl, hfz, hnd⟩ := hW
  obtain ⟨rfl, rfl⟩ := trodVars_none hV
  rw [Try.params10] at hA hval hsz
  obtain ⟨v0, vs0, d0, ds0, p0, q0, hargs, rfl, rfl, h0, r0⟩ := trodAll_cons hA
  obtain ⟨rfl, rfl, rfl⟩ := trodAll_nil r0
  obtain rfl : args = #[v0] := by cases args; simp_all
  simp only [List.append_nil] at hsz
  have pl0 := arg_plains (ks := (shape Try.prog 9 55).getD []) (by kernel_rfl) h0 (arg_weights (j := 0) hsz rfl rfl)
  obtain ⟨cs0, rfl, pl0⟩ := arg_struct Try.underlying55 (hval 0 55 v0 rfl rfl) pl0
  obtain ⟨x0, u0, xs0, rfl, hx0, hS0, hw0, hb0⟩ := decodeTerms _ pl0
  exact (walk x0 u0 xs0 W hx0 hS0 hw0 hb0).mono fun e W' h => by
    obtain ⟨rfl, hb⟩ := h.grew
    exact ⟨_, rfl, hfin W' hb⟩

theorem over : Rows.accountChecksRow.holds Try.pinned (OpenSpec.ofChange Rows.accountChecksSpec) :=
  OpenClaim.holds_of_wide 10 Try.f10 rfl rfl rfl rfl rfl rfl rfl ⟨rfl, rfl, rfl, rfl, rfl⟩ rfl rfl rfl rfl rfl (by kernel_rfl) Try.func10 (by kernel_rfl)
    (of_decide_eq_true (by kernel_rfl)) (by unfold Func.isWrapper; first | (rw [if_pos (by decide +kernel)]; kernel_rfl) | (rw [if_neg (by decide +kernel)]; exact ⟨rfl, rfl⟩))
    (fun os started H enc _ => lifted os started H enc)

theorem proved : Rows.AccountChecksSaid := over
#print axioms proved
end Go.Proofs.Ytcpljkjibhindaa.accountChecks
