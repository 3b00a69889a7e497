/- account.Open answers as the reference does, at every argument. No conditions. -/
import Derived.Test.YtcpljkjibhindaaLift
import Derived.Test.YtcpljkjibhindaaAcctOpen
namespace Go.Proofs.Ytcpljkjibhindaa.accountOpens
open Go.ChangeShapes Go.WideShapes Go.ChangeAt Go.RowKit
set_option maxRecDepth 20000
set_option maxHeartbeats 1000000 in
theorem walk (me : Int) (w : World) : Calls Try.prog 7 #[I me] w (Grew (.bool true) w) := by
  have T := Lib.hid (fun W => Open_any me W)
  have R := Lib.hid (fun W => Opened_any me W)
  generalize openX me = x at *
  generalize openE me = E at *
  have S := Lib.hid (fun v1 v2 W h1 h2 => sameAccount_any x v1 v2 [] W h1 h2)
  obtain ⟨x1, x2, x3, x4, x5, x6⟩ := x
  simp only [GrewAcc] at *
  go_enter Try.func7, Try.ntmps7
  go_wp2_with fail
  refine (T.out _).mono ?_
  rintro e w1 ⟨v1, rfl, h1, k1⟩
  have h1' := h1
  obtain ⟨a, cap, rfl, -⟩ := h1'
  go_wp2_with fail
  refine (R.out _).mono ?_
  rintro e w2 ⟨v2, rfl, h2, k2⟩
  have h2' := h2
  obtain ⟨a2, cap2, rfl, -⟩ := h2'
  have cO := (Own.new rfl [I x1, I x2, I x3, I x4, I x5, I x6, .slice a ([] : List ADebt).length cap] 39).below k2
  have c0 := cO.cell 0 (by simp)
  have cf0 := cO.frozen 0
  have c1 := cO.cell 1 (by simp)
  have cf1 := cO.frozen 1
  have c2 := cO.cell 2 (by simp)
  have cf2 := cO.frozen 2
  have c3 := cO.cell 3 (by simp)
  have cf3 := cO.frozen 3
  have c4 := cO.cell 4 (by simp)
  have cf4 := cO.frozen 4
  have c5 := cO.cell 5 (by simp)
  have cf5 := cO.frozen 5
  have c6 := cO.cell 6 (by simp)
  have cf6 := cO.frozen 6
  simp only [Nat.zero_add, List.getD_cons_zero, List.getD_cons_succ] at c0 c1 c2 c3 c4 c5 c6
  clear cO
  have k := k1.trans ((below_box k2).mono k1.size)
  have g1 := ((h1.below (boxed_below w1 _)).below k2).below (boxed_below w2 (.cells #[I x1, I x2, I x3, I x4, I x5, I x6, .slice a2 ([] : List ADebt).length cap2] 39))
  have g2 := h2.below (boxed_below w2 (.cells #[I x1, I x2, I x3, I x4, I x5, I x6, .slice a2 ([] : List ADebt).length cap2] 39))
  have hlt := k2.size
  simp at hlt
  have hlt1 : w1.heap.size < w2.heap.size := by omega
  have hne1 : ¬ w1.heap.size = w2.heap.size := by omega
  clear k1 k2
  go_wp2_with fail
  refine (S.out _ _ _ g1 g2).mono ?_
  rintro e w3 ⟨rfl, k3⟩
  have k := (k.alloc k.size (.cells #[I x1, I x2, I x3, I x4, I x5, I x6, .slice a2 ([] : List ADebt).length cap2] 39)).trans (k3.mono (Nat.le_trans k.size (by simp)))
  go_wp2
  go_ret
  exact Grew.intro (by simp) k

set_option maxRecDepth 100000 in
theorem lifted (os : Os) (started : os.Started) (H : Type) (enc : TypeId × Value → H) :
    ReturnsInHanded {} Try.checked os 7 .any (Rows.accountOpensSpec.pre6 enc Try.prog Try.f7 Rows.accountOpensRow.domain false) (Rows.accountOpensSpec.post enc Try.prog Try.f7 false true false false) := by
  refine returnsInHanded_of_change_sized (C := Try.checked) own started (by kernel_rfl) Try.func7
    (ChangeSpec.witness6 (enc := enc) (C := Try.checked) false ⟨#[], #[.int .i64 0], []⟩ 8 (by kernel_rfl) (by kernel_rfl) (by kernel_rfl) (by kernel_rfl)) ?_
  intro W base args ds gs before hval hW hcnd hsz _
  have hfin := fun W' => post_true (fn := Try.f7) (s := Rows.accountOpensSpec) (bt := 4) (W' := W') rfl laidOut (by kernel_rfl) Try.underlying4 rfl (fun ds h => by match ds, h with | [_], _ => rfl) hW
  obtain ⟨p, q, hA, hV, rfl, hfz, hnd⟩ := hW
  obtain ⟨rfl, rfl⟩ := trodVars_none hV
  rw [Try.params7] at hA hval
  obtain ⟨v0, vs0, d0, ds0, p0, q0, hargs, rfl, rfl, h0, r0⟩ := trodAll_cons hA
  obtain ⟨rfl, rfl, rfl⟩ := trodAll_nil r0
  obtain rfl : args = #[v0] := by cases args; simp_all
  obtain ⟨a0, rfl, rfl, rfl, wf0⟩ := open_int Try.underlying3 (hval 0 3 v0 rfl rfl) h0
  exact (walk a0 W ).mono fun e W' h => by
    obtain ⟨rfl, hb⟩ := h.grew
    exact ⟨_, rfl, hfin W' hb⟩

theorem over : Rows.accountOpensRow.holds Try.pinned (OpenSpec.ofChange Rows.accountOpensSpec) :=
  OpenClaim.holds_of_wide 7 Try.f7 rfl rfl rfl rfl rfl rfl rfl ⟨rfl, rfl, rfl, rfl, rfl⟩ rfl rfl rfl rfl rfl (by kernel_rfl) Try.func7 (by kernel_rfl)
    (of_decide_eq_true (by kernel_rfl)) (by unfold Func.isWrapper; first | (rw [if_pos (by decide +kernel)]; kernel_rfl) | (rw [if_neg (by decide +kernel)]; exact ⟨rfl, rfl⟩))
    (fun os started H enc _ => lifted os started H enc)

theorem proved : Rows.AccountOpensSaid := over
#print axioms proved
end Go.Proofs.Ytcpljkjibhindaa.accountOpens
