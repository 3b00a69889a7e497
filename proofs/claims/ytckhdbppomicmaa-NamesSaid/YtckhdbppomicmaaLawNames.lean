/- the error numbers and the limits of package api are the document's. No conditions. -/
import Derived.Test.YtckhdbppomicmaaLift
import Derived.Test.YtckhdbppomicmaaSameInts
namespace Go.Proofs.Ytckhdbppomicmaa.names
open Go.ChangeShapes Go.WideShapes Go.ChangeAt Go.RowKit
set_option maxRecDepth 20000

def errs : List Value := [Value.int IntKind.i64 0, Value.int IntKind.i64 1, Value.int IntKind.i64 2, Value.int IntKind.i64 3, Value.int IntKind.i64 4, Value.int IntKind.i64 5, Value.int IntKind.i64 6, Value.int IntKind.i64 7, Value.int IntKind.i64 8, Value.int IntKind.i64 9, Value.int IntKind.i64 10, Value.int IntKind.i64 11, Value.int IntKind.i64 12, Value.int IntKind.i64 13, Value.int IntKind.i64 14, Value.int IntKind.i64 15, Value.int IntKind.i64 16, Value.int IntKind.i64 17, Value.int IntKind.i64 18, Value.int IntKind.i64 19, Value.int IntKind.i64 20, Value.int IntKind.i64 21, Value.int IntKind.i64 22, Value.int IntKind.i64 23, Value.int IntKind.i64 24]
theorem owns_lit' (w : World) (cs : List Value) (e n b : Nat) (hb : w.heap.size = b) (hl : cs.length = n * 1) (hn : n ≤ maxLen) : (w.alloc (.cells cs.toArray e)).ownsRow b e 1 (.slice (some ⟨b, 0, none⟩) n n) n cs := by
  subst hb; exact owns_lit w cs e 1 n hl hn
theorem four (W : World) (A B C D : List Value) (e : Nat) (a b c d : Nat) (ha : A.length = a * 1) (hb : B.length = b * 1) (hc : C.length = c * 1) (hd : D.length = d * 1) (ha' : a ≤ 1000) (hb' : b ≤ 1000) (hc' : c ≤ 1000) (hd' : d ≤ 1000) :
    ∀ W5, W5 = (((W.alloc (.cells A.toArray e)).alloc (.cells B.toArray e)).alloc (.cells C.toArray e)).alloc (.cells D.toArray e) →
    Sl W5 (.slice (some ⟨W.heap.size, 0, none⟩) a a) 1 a A ∧ Sl W5 (.slice (some ⟨W.heap.size + 1, 0, none⟩) b b) 1 b B ∧ Sl W5 (.slice (some ⟨W.heap.size + 2, 0, none⟩) c c) 1 c C ∧ Sl W5 (.slice (some ⟨W.heap.size + 3, 0, none⟩) d d) 1 d D ∧ Below W.heap.size W W5 := by
  intro W5 hW
  have k1 := boxed_below W (.cells A.toArray e)
  have k2 := boxed_below (W.alloc (.cells A.toArray e)) (.cells B.toArray e)
  have k3 := boxed_below ((W.alloc (.cells A.toArray e)).alloc (.cells B.toArray e)) (.cells C.toArray e)
  have k4 := boxed_below (((W.alloc (.cells A.toArray e)).alloc (.cells B.toArray e)).alloc (.cells C.toArray e)) (.cells D.toArray e)
  have o1 := Sl.of_owns (owns_lit' W A e a W.heap.size rfl ha (by unfold maxLen; omega)) (by omega)
  have o2 := Sl.of_owns (owns_lit' (W.alloc (.cells A.toArray e)) B e b (W.heap.size + 1) (by simp) hb (by unfold maxLen; omega)) (by omega)
  have o3 := Sl.of_owns (owns_lit' ((W.alloc (.cells A.toArray e)).alloc (.cells B.toArray e)) C e c (W.heap.size + 2) (by simp) hc (by unfold maxLen; omega)) (by omega)
  have o4 := Sl.of_owns (owns_lit' (((W.alloc (.cells A.toArray e)).alloc (.cells B.toArray e)).alloc (.cells C.toArray e)) D e d (W.heap.size + 3) (by simp) hd (by unfold maxLen; omega)) (by omega)
  subst hW
  exact ⟨((o1.below k2).below k3).below k4, (o2.below k3).below k4, o3.below k4, o4, k1.trans ((k2.trans ((k3.trans (k4.mono k3.size)).mono k2.size)).mono k1.size)⟩
theorem errs_at : ∀ k : Nat, k < 25 → errs[k]? = some (I k) := by
  intro k hk
  have h : ∀ k : Fin 25, errs[k.val]? = some (I k.val) := by
    intro ⟨k, hk⟩
    match k, hk with
    | 0, _ => rfl
    | 1, _ => rfl
    | 2, _ => rfl
    | 3, _ => rfl
    | 4, _ => rfl
    | 5, _ => rfl
    | 6, _ => rfl
    | 7, _ => rfl
    | 8, _ => rfl
    | 9, _ => rfl
    | 10, _ => rfl
    | 11, _ => rfl
    | 12, _ => rfl
    | 13, _ => rfl
    | 14, _ => rfl
    | 15, _ => rfl
    | 16, _ => rfl
    | 17, _ => rfl
    | 18, _ => rfl
    | 19, _ => rfl
    | 20, _ => rfl
    | 21, _ => rfl
    | 22, _ => rfl
    | 23, _ => rfl
    | 24, _ => rfl
    | n + 25, h => omega
  exact h ⟨k, hk⟩
def limits : List Int := [1000000000000, 100000000, 50, 1000000, 10000, 20, 40, 200, 1048575, 2097151, 15, 65535, 8796093022207, 20, 30, 2000, 2048, 4096, 64, 64, 50, 500, 99999999, 5, 30, 1000, 5]
def more : List Int := [2000, 2199, 73048, 2399, 8, 10000000, 100000, 8, 1000000000, 2400, 100000, 400, 13, 120, 18, 120]

set_option maxHeartbeats 4000000 in
theorem walk (w : World) : Calls Try.prog 3 #[] w (Grew (.bool true) w) := by
  have hE : ∀ k : Nat, k < 25 → (w.alloc (Obj.cells #[Value.int IntKind.i64 0, Value.int IntKind.i64 1, Value.int IntKind.i64 2, Value.int IntKind.i64 3, Value.int IntKind.i64 4, Value.int IntKind.i64 5, Value.int IntKind.i64 6, Value.int IntKind.i64 7, Value.int IntKind.i64 8, Value.int IntKind.i64 9, Value.int IntKind.i64 10, Value.int IntKind.i64 11, Value.int IntKind.i64 12, Value.int IntKind.i64 13, Value.int IntKind.i64 14, Value.int IntKind.i64 15, Value.int IntKind.i64 16, Value.int IntKind.i64 17, Value.int IntKind.i64 18, Value.int IntKind.i64 19, Value.int IntKind.i64 20, Value.int IntKind.i64 21, Value.int IntKind.i64 22, Value.int IntKind.i64 23, Value.int IntKind.i64 24] 22)).cell? ⟨w.heap.size, k, none⟩ = some (I k) := by
    intro k hk
    rw [cell_of_cells (heap_alloc_new w _)]
    show errs.toArray[k]? = _
    rw [List.getElem?_toArray]
    exact errs_at k hk
  go_enter Try.func3, Try.ntmps3
  go_wp2
  have kW := boxed_below w (Obj.cells #[Value.int IntKind.i64 0, Value.int IntKind.i64 1, Value.int IntKind.i64 2, Value.int IntKind.i64 3, Value.int IntKind.i64 4, Value.int IntKind.i64 5, Value.int IntKind.i64 6, Value.int IntKind.i64 7, Value.int IntKind.i64 8, Value.int IntKind.i64 9, Value.int IntKind.i64 10, Value.int IntKind.i64 11, Value.int IntKind.i64 12, Value.int IntKind.i64 13, Value.int IntKind.i64 14, Value.int IntKind.i64 15, Value.int IntKind.i64 16, Value.int IntKind.i64 17, Value.int IntKind.i64 18, Value.int IntKind.i64 19, Value.int IntKind.i64 20, Value.int IntKind.i64 21, Value.int IntKind.i64 22, Value.int IntKind.i64 23, Value.int IntKind.i64 24] 22)
  generalize w.alloc (Obj.cells #[Value.int IntKind.i64 0, Value.int IntKind.i64 1, Value.int IntKind.i64 2, Value.int IntKind.i64 3, Value.int IntKind.i64 4, Value.int IntKind.i64 5, Value.int IntKind.i64 6, Value.int IntKind.i64 7, Value.int IntKind.i64 8, Value.int IntKind.i64 9, Value.int IntKind.i64 10, Value.int IntKind.i64 11, Value.int IntKind.i64 12, Value.int IntKind.i64 13, Value.int IntKind.i64 14, Value.int IntKind.i64 15, Value.int IntKind.i64 16, Value.int IntKind.i64 17, Value.int IntKind.i64 18, Value.int IntKind.i64 19, Value.int IntKind.i64 20, Value.int IntKind.i64 21, Value.int IntKind.i64 22, Value.int IntKind.i64 23, Value.int IntKind.i64 24] 22) = W at *
  go_loop [2] (fun i => ∃ k : Nat, k ≤ 25 ∧ i = I k) (fun i => (25 - intOf i).toNat)
  case atStart => exact ⟨0, by omega, rfl⟩
  case round =>
    obtain ⟨k, hk, rfl⟩ := hrel
    by_cases hlt : k < 25
    · have e := hE k hlt
      clear hE
      have hi0 : (0 : Int) ≤ (k : Int) := by omega
      have hi1 : (k : Int) < 25 := by omega
      go_wp2
      go_round
      case rel => exact ⟨k + 1, by omega, by go_num⟩
      case measure => simp [intOf]; omega
    · clear hE
      have hge : (25 : Int) ≤ (k : Int) := by omega
      go_wp2_with fail
      obtain ⟨s1, s2, s3, s4, k5⟩ := four W (limits.map I) (limits.map I) (more.map I) (more.map I) 3 27 27 16 16 rfl rfl rfl rfl (by omega) (by omega) (by omega) (by omega) _ rfl
      have kk := kW.trans (k5.mono kW.size)
      refine (sameInts_any _ _ limits limits _ s1 s2).mono ?_
      rintro e w6 ⟨rfl, k6⟩
      have s3 := s3.below k6
      have s4 := s4.below k6
      have kk := kk.trans (k6.mono kk.size)
      clear k6 k5 s1 s2
      go_wp2_with fail
      refine (sameInts_any _ _ more more _ s3 s4).mono ?_
      rintro e w7 ⟨rfl, k7⟩
      have kk := kk.trans (k7.mono kk.size)
      go_wp2
      go_ret
      exact Grew.intro (by simp) kk

set_option maxRecDepth 100000 in
theorem lifted (os : Os) (started : os.Started) (H : Type) (enc : TypeId × Value → H) :
    ReturnsInHanded {} Try.checked os 3 .any (Rows.namesSpec.pre6 enc Try.prog Try.f3 Rows.namesRow.domain false) (Rows.namesSpec.post enc Try.prog Try.f3 false true false false) := by
  refine returnsInHanded_of_change_sized (C := Try.checked) own started (by kernel_rfl) Try.func3
    (ChangeSpec.witness6 (enc := enc) (C := Try.checked) false ⟨#[], #[], []⟩ 8 (by kernel_rfl) (by kernel_rfl) (by kernel_rfl) (by kernel_rfl)) ?_
  intro W base args ds gs before hval hW hcnd hsz _
  have hfin := fun W' => post_true (fn := Try.f3) (s := Rows.namesSpec) (bt := 4) (W' := W') rfl laidOut (by kernel_rfl) Try.underlying4 rfl (fun ds h => by match ds, h with | [], _ => rfl) hW
  obtain ⟨p, q, hA, hV, rfl, hfz, hnd⟩ := hW
  obtain ⟨rfl, rfl⟩ := trodVars_none hV
  rw [Try.params3] at hA hval
  obtain ⟨hargs, rfl, rfl⟩ := trodAll_nil hA
  obtain rfl : args = #[] := by cases args; simp_all

  exact (walk  W ).mono fun e W' h => by
    obtain ⟨rfl, hb⟩ := h.grew
    exact ⟨_, rfl, hfin W' hb⟩

theorem over : Rows.namesRow.holds Try.pinned (OpenSpec.ofChange Rows.namesSpec) :=
  OpenClaim.holds_of_wide 3 Try.f3 rfl rfl rfl rfl rfl rfl rfl ⟨rfl, rfl, rfl, rfl, rfl⟩ rfl rfl rfl rfl rfl (by kernel_rfl) Try.func3 (by kernel_rfl)
    (of_decide_eq_true (by kernel_rfl)) (by unfold Func.isWrapper; first | (rw [if_pos (by decide +kernel)]; kernel_rfl) | (rw [if_neg (by decide +kernel)]; exact ⟨rfl, rfl⟩))
    (fun os started H enc _ => lifted os started H enc)

theorem proved : Rows.NamesSaid := over
#print axioms proved
end Go.Proofs.Ytckhdbppomicmaa.names
