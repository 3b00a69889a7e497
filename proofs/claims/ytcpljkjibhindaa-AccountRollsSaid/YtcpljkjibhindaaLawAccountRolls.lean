/- account.Roll answers as the reference does, at every argument, and changes none of them. No conditions. -/
import Derived.Test.YtcpljkjibhindaaLift
import Derived.Test.YtcpljkjibhindaaAcctRolled
namespace Go.Proofs.Ytcpljkjibhindaa.accountRolls
open Go.ChangeShapes Go.WideShapes Go.ChangeAt Go.RowKit
set_option maxRecDepth 20000
set_option maxHeartbeats 4000000 in
theorem walk (x : AAcc) (u : Value) (xs : List ADebt) (m : Int) (w : World) (_hx : x.wf) (h : Sl w u 2 xs.length (xs.flatMap ADebt.cells)) (_hw : ∀ x ∈ xs, x.wf) (hby : xs.length * 16 ≤ 140737488351232) :
    Calls Try.prog 11 #[.agg #[I x.meter, I x.rev, I x.next, I x.month, I x.bought, I x.free, u], I m] w (Grew (.bool true) w) := by
  have A := Lib.hid (fun W hW => accounts_any x u xs W hW (by omega))
  have T := Lib.hid (fun v W hW => Roll_any x v xs m W hW)
  have R := Lib.hid (fun v W hW => Rolled_any x v xs m W hW)
  have S0 := Lib.hid (fun v1 v2 W h1 h2 => sameAccount_any x v1 v2 xs W h1 h2)
  generalize rolledX x xs m = y at *
  generalize rolledL x xs m = ys at *
  generalize rolledE x xs m = E at *
  have S := Lib.hid (fun v1 v2 W h1 h2 => sameAccount_any y v1 v2 ys W h1 h2)
  obtain ⟨x1, x2, x3, x4, x5, x6⟩ := x
  obtain ⟨y1, y2, y3, y4, y5, y6⟩ := y
  simp only [GrewAcc, GrewAcc1] at A T R S0 S ⊢
  have k0 := (boxed_below w (.cells #[I x1, I x2, I x3, I x4, I x5, I x6, u] 39))
  have ox := (Own.new (w := w) rfl [I x1, I x2, I x3, I x4, I x5, I x6, u] 39)
  have g0 := h.below k0
  have h' := h
  obtain ⟨a0, p0, rfl, -⟩ := h'
  go_enter Try.func11, Try.ntmps11
  go_wp2_with fail
  refine (A.out _ g0).mono ?_
  rintro e w1 ⟨v1, rfl, s1, k1⟩
  have s1' := s1
  obtain ⟨a1, p1, rfl, -⟩ := s1'
  have ox1 := ox.below k1
  have k := k0.trans (k1.mono k0.size)
  have z1 : w.heap.size + 1 ≤ w1.heap.size := by have := k1.size; simp at this; omega
  clear ox k1 k0 g0
  go_wp2_with fail
  refine (T.out _ _ (s1.below (boxed_below w1 _))).mono ?_
  rintro e w2 ⟨v2, rfl, s2, k2⟩
  have s2' := s2
  obtain ⟨a2, p2, rfl, -⟩ := s2'
  have ox2 := (ox1.alloc _).below k2
  have oc2 := (Own.new (w := w1) rfl [I x1, I x2, I x3, I x4, I x5, I x6, .slice a1 xs.length p1] 39).below k2
  have t1 := (s1.below (boxed_below w1 _)).below k2
  have kk := (k.alloc k.size _).trans (k2.mono (Nat.le_trans k.size (boxed_below w1 _).size))
  have z2 : w1.heap.size + 1 ≤ w2.heap.size := by have := k2.size; simp at this; omega
  clear ox1 s1 k k2
  have xO := ox2
  have x0 := xO.cell 0 (by simp)
  have xf0 := xO.frozen 0
  have x1 := xO.cell 1 (by simp)
  have xf1 := xO.frozen 1
  have x2 := xO.cell 2 (by simp)
  have xf2 := xO.frozen 2
  have x3 := xO.cell 3 (by simp)
  have xf3 := xO.frozen 3
  have x4 := xO.cell 4 (by simp)
  have xf4 := xO.frozen 4
  have x5 := xO.cell 5 (by simp)
  have xf5 := xO.frozen 5
  have x6 := xO.cell 6 (by simp)
  have xf6 := xO.frozen 6
  simp only [Nat.zero_add, List.getD_cons_zero, List.getD_cons_succ] at x0 x1 x2 x3 x4 x5 x6
  clear xO
  have n2 : w.heap.size < w2.heap.size := by omega
  have m2 : ¬ w.heap.size = w2.heap.size := by omega
  go_wp2_with fail
  refine (R.out _ _ ((h.below kk).below (boxed_below w2 _))).mono ?_
  rintro e w3 ⟨v3, rfl, s3, k3⟩
  have s3' := s3
  obtain ⟨a3, p3, rfl, -⟩ := s3'
  have ox3 := (ox2.alloc _).below k3
  have oc3 := (oc2.alloc _).below k3
  have oa3 := (Own.new (w := w2) rfl [I y1, I y2, I y3, I y4, I y5, I y6, .slice a2 ys.length p2] 39).below k3
  have t2 := (s2.below (boxed_below w2 _)).below k3
  have t1 := (t1.below (boxed_below w2 _)).below k3
  have k := (kk.alloc kk.size _).trans (k3.mono (Nat.le_trans kk.size (boxed_below w2 _).size))
  have z3 : w2.heap.size + 1 ≤ w3.heap.size := by have := k3.size; simp at this; omega
  clear x0 x1 x2 x3 x4 x5 x6 xf0 xf1 xf2 xf3 xf4 xf5 xf6 ox2 oc2 s2 kk k3
  have aO := oa3
  have a0 := aO.cell 0 (by simp)
  have af0 := aO.frozen 0
  have a1 := aO.cell 1 (by simp)
  have af1 := aO.frozen 1
  have a2 := aO.cell 2 (by simp)
  have af2 := aO.frozen 2
  have a3 := aO.cell 3 (by simp)
  have af3 := aO.frozen 3
  have a4 := aO.cell 4 (by simp)
  have af4 := aO.frozen 4
  have a5 := aO.cell 5 (by simp)
  have af5 := aO.frozen 5
  have a6 := aO.cell 6 (by simp)
  have af6 := aO.frozen 6
  simp only [Nat.zero_add, List.getD_cons_zero, List.getD_cons_succ] at a0 a1 a2 a3 a4 a5 a6
  clear aO
  have n4 : w2.heap.size < w3.heap.size := by omega
  have m4 : ¬ w2.heap.size = w3.heap.size := by omega
  go_wp2_with fail
  refine (S.out _ _ _ (t2.below (boxed_below w3 _)) (s3.below (boxed_below w3 _))).mono ?_
  rintro e w4 ⟨rfl, k4⟩
  have kk := (k.alloc k.size _).trans (k4.mono (Nat.le_trans k.size (boxed_below w3 _).size))
  have cO := (oc3.alloc _).below k4
  have c0 := cO.cell 0 (by simp)
  have cf0 := cO.frozen 0
  have c1 := cO.cell 1 (by simp)
  have cf1 := cO.frozen 1
  have c2 := cO.cell 2 (by simp)
  have cf2 := cO.frozen 2
  have c3 := cO.cell 3 (by simp)
  have cf3 := cO.frozen 3
  have c4 := cO.cell 4 (by simp)
  have cf4 := cO.frozen 4
  have c5 := cO.cell 5 (by simp)
  have cf5 := cO.frozen 5
  have c6 := cO.cell 6 (by simp)
  have cf6 := cO.frozen 6
  simp only [Nat.zero_add, List.getD_cons_zero, List.getD_cons_succ] at c0 c1 c2 c3 c4 c5 c6
  clear cO
  have xO := (ox3.alloc _).below k4
  have x0 := xO.cell 0 (by simp)
  have xf0 := xO.frozen 0
  have x1 := xO.cell 1 (by simp)
  have xf1 := xO.frozen 1
  have x2 := xO.cell 2 (by simp)
  have xf2 := xO.frozen 2
  have x3 := xO.cell 3 (by simp)
  have xf3 := xO.frozen 3
  have x4 := xO.cell 4 (by simp)
  have xf4 := xO.frozen 4
  have x5 := xO.cell 5 (by simp)
  have xf5 := xO.frozen 5
  have x6 := xO.cell 6 (by simp)
  have xf6 := xO.frozen 6
  simp only [Nat.zero_add, List.getD_cons_zero, List.getD_cons_succ] at x0 x1 x2 x3 x4 x5 x6
  clear xO
  have t1 := (t1.below (boxed_below w3 _)).below k4
  have t0 := h.below kk
  clear a0 a1 a2 a3 a4 a5 a6 af0 af1 af2 af3 af4 af5 af6 oa3 oc3 ox3 k4 k
  go_wp2_with fail
  refine (S0.out _ _ _ t1 t0).mono ?_
  rintro e w5 ⟨rfl, k5⟩
  have k := kk.trans (k5.mono kk.size)
  clear c0 c1 c2 c3 c4 c5 c6 x0 x1 x2 x3 x4 x5 x6
  go_wp2
  go_ret
  exact Grew.intro (by simp) k

set_option maxRecDepth 100000 in
theorem lifted (os : Os) (started : os.Started) (H : Type) (enc : TypeId × Value → H) :
    ReturnsInHanded {} Try.checked os 11 .any (Rows.accountRollsSpec.pre6 enc Try.prog Try.f11 Rows.accountRollsRow.domain false) (Rows.accountRollsSpec.post enc Try.prog Try.f11 false true false false) := by
  refine returnsInHanded_of_change_sized (C := Try.checked) own started (by kernel_rfl) Try.func11
    (ChangeSpec.witness6 (enc := enc) (C := Try.checked) false ⟨#[], #[.agg #[.int .i64 0, .int .i64 0, .int .i64 0, .int .i64 0, .int .i64 0, .int .i64 0, .slice none 0 0], .int .i64 0], []⟩ 8 (by kernel_rfl) (by kernel_rfl) (by kernel_rfl) (by kernel_rfl)) ?_
  intro W base args ds gs before hval hW hcnd hsz _
  have hfin := fun W' => post_true (fn := Try.f11) (s := Rows.accountRollsSpec) (bt := 4) (W' := W') rfl laidOut (by kernel_rfl) Try.underlying4 rfl (fun ds h => by match ds, h with | [_, _], _ => rfl) hW
  have hsz : (DataW.weightsEach Try.prog (Try.f11.params.toList ++ []) (ds ++ gs)).all (· ≤ reachBytes) = true := hsz
  obtain ⟨p, q, hA, hV, rfl, hfz, hnd⟩ := hW
  obtain ⟨rfl, rfl⟩ := trodVars_none hV
  rw [Try.params11] at hA hval hsz
  obtain ⟨v0, vs0, d0, ds0, p0, q0, hargs, rfl, rfl, h0, r0⟩ := trodAll_cons hA
  obtain ⟨v1, vs1, d1, ds1, p1, q1, rfl, rfl, rfl, h1, r1⟩ := trodAll_cons r0
  obtain ⟨rfl, rfl, rfl⟩ := trodAll_nil r1
  obtain rfl : args = #[v0, v1] := by cases args; simp_all
  simp only [List.append_nil] at hsz
  have pl0 := arg_plains (ks := (shape Try.prog 9 39).getD []) (by kernel_rfl) h0 (arg_weights (j := 0) hsz rfl rfl)
  obtain ⟨cs0, rfl, pl0⟩ := arg_struct Try.underlying39 (hval 0 39 v0 rfl rfl) pl0
  obtain ⟨x0, u0, xs0, rfl, hx0, hS0, hw0, hb0⟩ := decodeAccount _ pl0
  obtain ⟨a1, rfl, rfl, rfl, wf1⟩ := open_int Try.underlying3 (hval 1 3 v1 rfl rfl) h1
  exact (walk x0 u0 xs0 a1 W hx0 hS0 hw0 hb0).mono fun e W' h => by
    obtain ⟨rfl, hb⟩ := h.grew
    exact ⟨_, rfl, hfin W' hb⟩

theorem over : Rows.accountRollsRow.holds Try.pinned (OpenSpec.ofChange Rows.accountRollsSpec) :=
  OpenClaim.holds_of_wide 11 Try.f11 rfl rfl rfl rfl rfl rfl rfl ⟨rfl, rfl, rfl, rfl, rfl⟩ rfl rfl rfl rfl rfl (by kernel_rfl) Try.func11 (by kernel_rfl)
    (of_decide_eq_true (by kernel_rfl)) (by unfold Func.isWrapper; first | (rw [if_pos (by decide +kernel)]; kernel_rfl) | (rw [if_neg (by decide +kernel)]; exact ⟨rfl, rfl⟩))
    (fun os started H enc _ => lifted os started H enc)

theorem proved : Rows.AccountRollsSaid := over
#print axioms proved
end Go.Proofs.Ytcpljkjibhindaa.accountRolls
