/- words.Put answers as the reference does, at every argument. No conditions. -/
import Derived.Test.YtgldppmkiieoaaaLift
import Derived.Test.YtgldppmkiieoaaaDecode
import Derived.Test.YtgldppmkiieoaaaDecodeW
import Derived.Test.YtgldppmkiieoaaaWPutRef
import Derived.Test.YtgldppmkiieoaaaEqWide
namespace Go.Proofs.Ytgldppmkiieoaaa.wordsPuts
open Go.ChangeShapes Go.WideShapes Go.ChangeAt Go.RowKit
set_option maxRecDepth 20000
set_option maxHeartbeats 2000000 in
theorem walkAt (a b c : Nat) (lo n : Int) (v : Nat) (w0' w1' w2' : Nat) (er : Int) (w : World) (P : Hid (∀ W, Calls Try.prog 28 #[wideV a b c, I lo, I n, .int .u64 v] W (GrewW2 w0' w1' w2' er W)))
    (R : Hid (∀ W, Calls Try.prog 29 #[wideV a b c, I lo, I n, .int .u64 v] W (GrewW2 w0' w1' w2' er W))) : Calls Try.prog 10 #[.agg #[U32 a, U32 b, U32 c], I lo, I n, .int .u64 v] w (Grew (.bool true) w) := by
  go_enter Try.func10, Try.ntmps10
  go_wp2_with fail
  refine (P.out _).mono ?_
  rintro e w1 ⟨rfl, k1⟩
  have dO := (Own.new (w := w) rfl [U32 a, U32 b, U32 c] 24).below k1
  have d0 := dO.cell 0 (by simp)
  have df0 := dO.frozen 0
  have d1 := dO.cell 1 (by simp)
  have df1 := dO.frozen 1
  have d2 := dO.cell 2 (by simp)
  have df2 := dO.frozen 2
  simp only [Nat.zero_add, List.getD_cons_zero, List.getD_cons_succ] at d0 d1 d2
  clear dO
  have k := below_box k1
  have n0 : w.heap.size < w1.heap.size := by have := k1.size; simp at this; omega
  have m0 : ¬ w.heap.size = w1.heap.size := by omega
  clear k1
  go_wp2_with fail
  refine (R.out _).mono ?_
  rintro e w2 ⟨rfl, k2⟩
  have pO := (Own.new (w := w1) rfl [U32 w0', U32 w1', U32 w2'] 24).below k2
  have p0 := pO.cell 0 (by simp)
  have pf0 := pO.frozen 0
  have p1 := pO.cell 1 (by simp)
  have pf1 := pO.frozen 1
  have p2 := pO.cell 2 (by simp)
  have pf2 := pO.frozen 2
  simp only [Nat.zero_add, List.getD_cons_zero, List.getD_cons_succ] at p0 p1 p2
  clear pO
  have kk := k.trans ((below_box k2).mono k.size)
  have n1 : w1.heap.size < w2.heap.size := by have := k2.size; simp at this; omega
  have m1 : ¬ w1.heap.size = w2.heap.size := by omega
  clear k2 k
  have EQ := fun W => equalWide_same w0' w1' w2' W
  go_wp2
  go_ret
  exact Grew.intro (by simp) (kk.alloc kk.size _)
theorem walk (a b c lo n v : Int) (w : World) (ha : W32 a) (hb : W32 b) (hc : W32 c) (hlo : I64 lo) (hn : I64 n) (hv : W64 v) : Calls Try.prog 10 #[.agg #[U32 a, U32 b, U32 c], I lo, I n, .int .u64 v] w (Grew (.bool true) w) := by
  obtain ⟨a0, a1⟩ := ha
  obtain ⟨b0, b1⟩ := hb
  obtain ⟨c0, c1⟩ := hc
  obtain ⟨v0, v1⟩ := hv
  obtain ⟨a, rfl⟩ := Int.eq_ofNat_of_zero_le a0
  obtain ⟨b, rfl⟩ := Int.eq_ofNat_of_zero_le b0
  obtain ⟨c, rfl⟩ := Int.eq_ofNat_of_zero_le c0
  obtain ⟨v, rfl⟩ := Int.eq_ofNat_of_zero_le v0
  cases hf : fieldB lo n
  · exact walkAt a b c lo n v 0 0 0 2 w (fun W => Put_bad a b c lo n v W hlo hn hf) (fun W => FieldPut_bad a b c lo n v W hlo hn hf)
  · unfold fieldB at hf
    rw [decide_eq_true_eq] at hf
    obtain ⟨f0, f1, f2, f3⟩ := hf
    obtain ⟨lo, rfl⟩ := Int.eq_ofNat_of_zero_le f0
    obtain ⟨n, rfl⟩ := Int.eq_ofNat_of_zero_le (show 0 ≤ n by omega)
    by_cases hvn : v < 2 ^ n
    · exact walkAt a b c lo n v _ _ _ 0 w (fun W => Put_any a b c lo n v W (by omega) (by omega) (by omega) (by omega) (by omega) (by omega) hvn) (fun W => FieldPut_any a b c lo n v W (by omega) (by omega) (by omega) (by omega) (by omega) (by omega) hvn)
    · exact walkAt a b c lo n v 0 0 0 2 w (fun W => Put_great a b c lo n v W (by omega) (by omega) (by omega) (by omega) hvn) (fun W => FieldPut_great a b c lo n v W (by omega) (by omega) (by omega) (by omega) hvn)

set_option maxRecDepth 100000 in
theorem lifted (os : Os) (started : os.Started) (H : Type) (enc : TypeId × Value → H) :
    ReturnsInHanded {} Try.checked os 10 .any (Rows.wordsPutsSpec.pre6 enc Try.prog Try.f10 Rows.wordsPutsRow.domain false) (Rows.wordsPutsSpec.post enc Try.prog Try.f10 false true false false) := by
  refine returnsInHanded_of_change_sized (C := Try.checked) own started (by kernel_rfl) Try.func10
    (ChangeSpec.witness6 (enc := enc) (C := Try.checked) false ⟨#[], #[.agg #[.int .u32 0, .int .u32 0, .int .u32 0], .int .i64 0, .int .i64 0, .int .u64 0], []⟩ 8 (by kernel_rfl) (by kernel_rfl) (by kernel_rfl) (by kernel_rfl)) ?_
  intro W base args ds gs before hval hW hcnd hsz _
  have hfin := fun W' => post_true (fn := Try.f10) (s := Rows.wordsPutsSpec) (bt := 4) (W' := W') rfl laidOut (by kernel_rfl) Try.underlying4 rfl (fun ds h => by match ds, h with | [_, _, _, _], _ => rfl) hW
  have hsz : (DataW.weightsEach Try.prog (Try.f10.params.toList ++ []) (ds ++ gs)).all (· ≤ reachBytes) = true := hsz
  obtain ⟨p, q, hA, hV, rfl, hfz, hnd⟩ := hW
  obtain ⟨rfl, rfl⟩ := trodVars_none hV
  rw [Try.params10] at hA hval hsz
  obtain ⟨v0, vs0, d0, ds0, p0, q0, hargs, rfl, rfl, h0, r0⟩ := trodAll_cons hA
  obtain ⟨v1, vs1, d1, ds1, p1, q1, rfl, rfl, rfl, h1, r1⟩ := trodAll_cons r0
  obtain ⟨v2, vs2, d2, ds2, p2, q2, rfl, rfl, rfl, h2, r2⟩ := trodAll_cons r1
  obtain ⟨v3, vs3, d3, ds3, p3, q3, rfl, rfl, rfl, h3, r3⟩ := trodAll_cons r2
  obtain ⟨rfl, rfl, rfl⟩ := trodAll_nil r3
  obtain rfl : args = #[v0, v1, v2, v3] := by cases args; simp_all
  simp only [List.append_nil] at hsz
  have pl0 := arg_plains (ks := (shape Try.prog 9 24).getD []) (by kernel_rfl) h0 (arg_weights (j := 0) hsz rfl rfl)
  obtain ⟨cs0, rfl, pl0⟩ := arg_array Try.underlying24 (hval 0 24 v0 rfl rfl) pl0
  obtain ⟨x0a, x0b, x0c, rfl, w0a, w0b, w0c⟩ := decodeWide _ pl0
  obtain ⟨a1, rfl, rfl, rfl, wf1⟩ := open_int Try.underlying3 (hval 1 3 v1 rfl rfl) h1
  obtain ⟨a2, rfl, rfl, rfl, wf2⟩ := open_int Try.underlying3 (hval 2 3 v2 rfl rfl) h2
  obtain ⟨a3, rfl, rfl, rfl, wf3⟩ := open_int Try.underlying38 (hval 3 38 v3 rfl rfl) h3
  exact (walk x0a x0b x0c a1 a2 a3 W w0a w0b w0c (wf_I64 wf1) (wf_I64 wf2) (wf_W64 wf3)).mono fun e W' h => by
    obtain ⟨rfl, hb⟩ := h.grew
    exact ⟨_, rfl, hfin W' hb⟩

theorem over : Rows.wordsPutsRow.holds Try.pinned (OpenSpec.ofChange Rows.wordsPutsSpec) :=
  OpenClaim.holds_of_wide 10 Try.f10 rfl rfl rfl rfl rfl rfl rfl ⟨rfl, rfl, rfl, rfl, rfl⟩ rfl rfl rfl rfl rfl (by kernel_rfl) Try.func10 (by kernel_rfl)
    (of_decide_eq_true (by kernel_rfl)) (by unfold Func.isWrapper; first | (rw [if_pos (by decide +kernel)]; kernel_rfl) | (rw [if_neg (by decide +kernel)]; exact ⟨rfl, rfl⟩))
    (fun os started H enc _ => lifted os started H enc)

theorem proved : Rows.WordsPutsSaid := over
#print axioms proved
end Go.Proofs.Ytgldppmkiieoaaa.wordsPuts
