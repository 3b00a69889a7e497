/- token.Words, ref.numberOf, ref.TokenWords -/
import Derived.Test.YtdjgcenjonegjaaGreatPk44
import Derived.Test.YtdjgcenjonegjaaGreatPk49
import Derived.ChangeKeysEq
set_option maxRecDepth 20000
set_option maxHeartbeats 8000000
set_option linter.unusedSimpArgs false
set_option linter.unusedVariables false
namespace Go.Proofs.YtdjgcenjonegjaaGreat
open Go.RowKit

theorem putV_new {N lo v n : Nat} (hN : N < 2 ^ lo) (hv : v < 2 ^ n) : putV N lo v n = N + v * 2 ^ lo := by
  rw [putV_full _ _ _ _ hv]; unfold fld; rw [Nat.div_eq_of_lt hN, Nat.zero_mod, Nat.zero_mul, Nat.sub_zero]
theorem val_digits {P : Nat} (hP : P < 79228162514264337593543950336) : val [P % 4294967296, P / 4294967296 % 4294967296, P / 18446744073709551616 % 4294967296] = P := by
  rw [val3]; omega
theorem cells2 : Tryz.prog.cellsOf 166 = 2 := by kernel_rfl
theorem index4 (a0 a1 b0 b1 c0 c1 d0 d1 : Value) (k : Nat) (hk : k < 4) (w : World) : (Instr.index 167 (.agg #[a0, a1, b0, b1, c0, c1, d0, d1]) (I k)).run Tryz.prog w = .ok (.agg #[[a0, b0, c0, d0].getD k undef, [a1, b1, c1, d1].getD k undef]) w := by
  obtain ⟨i, hi⟩ : ∃ i, Tryz.prog.info? 166 = some i := by
    have h : (Tryz.prog.info? 166).isSome = true := by kernel_rfl
    exact Option.isSome_iff_exists.1 h
  have hu : Tryz.prog.underlying 167 = some (.array 4 166) := by kernel_rfl
  have hu2 : Tryz.prog.underlying 166 = some (.struct (Tryz.prog.fieldsOf 166)) := by kernel_rfl
  have h0 : (0 : Int) ≤ (k : Int) := by omega
  have h1 : (k : Int) < 4 := by omega
  simp only [Instr.index, part, isAgg, asIntOf, Sem.run_bind, Sem.run_pure, Result.andThen_ok, run_underlying hu, run_underlying hu2, run_sizeOf w hi, cells2, h0, h1, and_self, if_true, Int.toNat_natCast]
  match k, hk with
  | 0, _ => rfl
  | 1, _ => rfl
  | 2, _ => rfl
  | 3, _ => rfl
def tokN (c i m t : Nat) : Nat := ((c * 2199023255552 + i * 2097152 + m) * 65536 + t) * 97
def TokRel (W : World) (g N : Nat) (wr : World) : Prop :=
  ∃ x y z : Nat, (x < 4294967296 ∧ y < 4294967296 ∧ z < 4294967296) ∧ val [x, y, z] = N ∧ Own wr g [U32 x, U32 y, U32 z] ∧ Own wr (W.heap.size + 1) [U32 0, U32 0, U32 0] ∧ W.heap.size + 1 < g ∧ Below W.heap.size W wr
theorem TokRel.next {W w' : World} {g N x y z : Nat} {u0 u1 u2 : Value} (hx : x < 4294967296) (hy : y < 4294967296) (hz : z < 4294967296) (hv : val [x, y, z] = N) (o1 : Own w' g [u0, u1, u2]) (o2 : Own w' (W.heap.size + 1) [U32 0, U32 0, U32 0]) (hg : W.heap.size + 1 < g) (hb : Below W.heap.size W w') :
    Hid (TokRel W g N (((w'.setCell ⟨g, 0, none⟩ (U32 x)).setCell ⟨g, 1, none⟩ (U32 y)).setCell ⟨g, 2, none⟩ (U32 z))) :=
  ⟨x, y, z, ⟨hx, hy, hz⟩, hv, ((o1.set 0 (U32 x)).set 1 (U32 y)).set 2 (U32 z), ((o2.other (a := ⟨g, 0, none⟩) (by show g ≠ W.heap.size + 1; omega) _).other (a := ⟨g, 1, none⟩) (by show g ≠ W.heap.size + 1; omega) _).other (a := ⟨g, 2, none⟩) (by show g ≠ W.heap.size + 1; omega) _, hg,
    ((hb.setCell (p := ⟨g, 0, none⟩) (by show W.heap.size ≤ g; omega) _).setCell (p := ⟨g, 1, none⟩) (by show W.heap.size ≤ g; omega) _).setCell (p := ⟨g, 2, none⟩) (by show W.heap.size ≤ g; omega) _⟩
theorem mod_lt32 (n : Nat) : n % 4294967296 < 4294967296 := Nat.mod_lt _ (by decide)

theorem Words_bad (x : AToken) (w : World) (h : tokFault x ≠ 0) : Calls Tryz.prog 42 #[.agg x.cells.toArray] w (GrewW2 0 0 0 (tokFault x) w) := by
  have B := Lib.hid (fun W => tkfault_any x W); generalize tokFault x = r at *; obtain ⟨c, i, m, t⟩ := x; show Calls Tryz.prog 42 #[.agg #[I c, I i, I m, I t]] w _; obtain ⟨kB, -, o2⟩ := boxes2 w [I c, I i, I m, I t] 72 [U32 0, U32 0, U32 0] 113; go_enter Tryz.func42, Tryz.ntmps42
  go_wp2_with fail
  refine (B.out _).mono ?_; rintro e w1 ⟨rfl, k1⟩; have zO := o2.below k1; have zA := zO.s3; clear zO; have kk := kB.trans (k1.mono kB.size); clear o2 kB k1; have r1 := set_same; have r2 := set_off; have r3 := set_blk; go_wp2; refine bodyPost_ret (v := T2 (wideV 0 0 0) (I r)) (by simp [results, Tryz.results42, go_sem, *]) rfl ⟨rfl, below_autor⟩
theorem Words_good (c i m t : Nat) (w : World) (h : tokFault ⟨c, i, m, t⟩ = 0) : Calls Tryz.prog 42 #[.agg #[I c, I i, I m, I t]] w (GrewW2 (tokN c i m t % 4294967296) (tokN c i m t / 4294967296 % 4294967296) (tokN c i m t / 18446744073709551616 % 4294967296) 0 w) := by
  have B := Lib.hid (fun W => tkfault_any ⟨c, i, m, t⟩ W); obtain ⟨⟨c0, c1⟩, ⟨i0, i1⟩, ⟨t0, t1⟩, m0, m1⟩ := tokFault_zero h; simp only at c0 c1 i0 i1 t0 t1 m0 m1; rw [h] at B; clear h; obtain ⟨kB, o1, o2⟩ := boxes2 w [I c, I i, I m, I t] 72 [U32 0, U32 0, U32 0] 113; go_enter Tryz.func42, Tryz.ntmps42
  go_wp2_with fail
  refine (B.out _).mono ?_; rintro e w1 ⟨rfl, k1⟩; have kk := kB.trans (k1.mono kB.size); have q2 := (o2.below k1).alloc (.cells #[U32 0, U32 0, U32 0] 113); have dO := (o1.below k1).alloc (.cells #[U32 0, U32 0, U32 0] 113); have dA := dO.s4; clear dO; have hdd := o1.below k1; have hdl := hdd.lt; have hn0 : ¬ w.heap.size = w1.heap.size := by omega
  have hR : Hid (TokRel w w1.heap.size 0 (w1.alloc (.cells #[U32 0, U32 0, U32 0] 113))) :=
    ⟨0, 0, 0, by decide, rfl, Own.new rfl [U32 0, U32 0, U32 0] 113, q2, by have := (o2.below k1).lt; omega, kk.alloc kk.size _⟩
  have aO := hdd; have aA := aO.s4; clear aO; clear o1 o2 kB k1 kk q2 hdd hdl; have r0 : Hid (w.heap.size + 1 < w1.heap.size) := by obtain ⟨_, _, _, _, _, _, _, hg, _⟩ := hR.out; exact hg
  go_wp2
  go_loopw [6, 8, 28] (fun at_ _ k wr => (k = I 0 ∧ at_ = I 0 ∧ Hid (TokRel w w1.heap.size 0 wr)) ∨ (k = I 1 ∧ at_ = I 16 ∧ Hid (TokRel w w1.heap.size t wr)) ∨ (k = I 2 ∧ at_ = I 37 ∧ Hid (TokRel w w1.heap.size (m * 65536 + t) wr)) ∨ (k = I 3 ∧ at_ = I 57 ∧ Hid (TokRel w w1.heap.size (i * 137438953472 + m * 65536 + t) wr)) ∨ (k = I 4 ∧ at_ = I 59 ∧ Hid (TokRel w w1.heap.size (c * 144115188075855872 + i * 137438953472 + m * 65536 + t) wr))) (fun _ _ k _ => (4 - intOf k).toNat)
  case atStart => exact .inl ⟨rfl, rfl, hR⟩
  case round =>
    clear hR dA aA; rcases hrel with ⟨rfl, rfl, hR⟩ | ⟨rfl, rfl, hR⟩ | ⟨rfl, rfl, hR⟩ | ⟨rfl, rfl, hR⟩ | ⟨rfl, rfl, hR⟩
    · obtain ⟨x, y, z, ⟨hx, hy, hz⟩, hval, o1, o2, hg, hbw⟩ := hR.out
      have IX : ∀ W, (Instr.index 167 (.agg #[.int .i64 16, I t, .int .i64 21, I m, .int .i64 20, I i, .int .i64 2, I c]) (I 0)).run Tryz.prog W = .ok (.agg #[I 16, I t]) W := fun W => index4 (I 16) (I t) (I 21) (I m) (I 20) (I i) (I 2) (I c) 0 (by decide) W; have P := Lib.hid (fun W => Put_any x y z 0 16 t W hx hy hz (by decide) (by decide) (by decide) (by omega)); have hpn : putV (val [x, y, z]) 0 t 16 = t := by rw [hval, putV_new (by omega) (by omega)]; omega
      have hvd := val_digits (P := t) (by omega); rw [hpn] at P; have b0 := mod_lt32 (t); have b1 := mod_lt32 ((t) / 4294967296); have b2 := mod_lt32 ((t) / 18446744073709551616); generalize (t) % 4294967296 = u0 at P hvd b0; generalize (t) / 4294967296 % 4294967296 = u1 at P hvd b1; generalize (t) / 18446744073709551616 % 4294967296 = u2 at P hvd b2; have o1' := o1.alloc (.cells #[I 16, I t] 166); have o2' := o2.alloc (.cells #[I 16, I t] 166); have o3' := Own.new (w := wr) rfl [I 16, I t] 166; have hbw' := hbw.alloc hbw.size (.cells #[I 16, I t] 166); have hgl := o1.lt; have cO := o1; have cA := cO.s3; clear cO; clear o1 o2 hbw hR hval hpn; have hvw : IntKind.u64.wrap (t : Int) = (t : Int) := by show (t : Int) % 18446744073709551616 = _; omega
      go_wp2_with fail
      refine (P.out _).mono ?_; rintro e w' ⟨rfl, k1⟩; have hnew := TokRel.next b0 b1 b2 hvd (o1'.below k1) (o2'.below k1) hg (hbw'.trans (k1.mono hbw'.size)); have fO := o1'.below k1; have fA := fO.s3; clear fO; have dO := o3'.below k1; have dA := dO.s2; clear dO; clear o1' o2' o3' hbw' P k1; have r1 := set_same; have r2 := set_off; have r3 := set_blk; go_wp2; exact ⟨.inr (.inl ⟨rfl, rfl, hnew⟩), by decide⟩
    · obtain ⟨x, y, z, ⟨hx, hy, hz⟩, hval, o1, o2, hg, hbw⟩ := hR.out
      have IX : ∀ W, (Instr.index 167 (.agg #[.int .i64 16, I t, .int .i64 21, I m, .int .i64 20, I i, .int .i64 2, I c]) (I 1)).run Tryz.prog W = .ok (.agg #[I 21, I m]) W := fun W => index4 (I 16) (I t) (I 21) (I m) (I 20) (I i) (I 2) (I c) 1 (by decide) W; have P := Lib.hid (fun W => Put_any x y z 16 21 m W hx hy hz (by decide) (by decide) (by decide) (by omega)); have hpn : putV (val [x, y, z]) 16 m 21 = (m * 65536 + t) := by rw [hval, putV_new (by omega) (by omega)]; omega
      have hvd := val_digits (P := (m * 65536 + t)) (by omega); rw [hpn] at P; have b0 := mod_lt32 ((m * 65536 + t)); have b1 := mod_lt32 (((m * 65536 + t)) / 4294967296); have b2 := mod_lt32 (((m * 65536 + t)) / 18446744073709551616); generalize ((m * 65536 + t)) % 4294967296 = u0 at P hvd b0; generalize ((m * 65536 + t)) / 4294967296 % 4294967296 = u1 at P hvd b1; generalize ((m * 65536 + t)) / 18446744073709551616 % 4294967296 = u2 at P hvd b2; have o1' := o1.alloc (.cells #[I 21, I m] 166); have o2' := o2.alloc (.cells #[I 21, I m] 166); have o3' := Own.new (w := wr) rfl [I 21, I m] 166; have hbw' := hbw.alloc hbw.size (.cells #[I 21, I m] 166); have hgl := o1.lt; have cO := o1; have cA := cO.s3; clear cO; clear o1 o2 hbw hR hval hpn; have hvw : IntKind.u64.wrap (m : Int) = (m : Int) := by show (m : Int) % 18446744073709551616 = _; omega
      go_wp2_with fail
      refine (P.out _).mono ?_; rintro e w' ⟨rfl, k1⟩; have hnew := TokRel.next b0 b1 b2 hvd (o1'.below k1) (o2'.below k1) hg (hbw'.trans (k1.mono hbw'.size)); have fO := o1'.below k1; have fA := fO.s3; clear fO; have dO := o3'.below k1; have dA := dO.s2; clear dO; clear o1' o2' o3' hbw' P k1; have r1 := set_same; have r2 := set_off; have r3 := set_blk; go_wp2; exact ⟨.inr (.inr (.inl ⟨rfl, rfl, hnew⟩)), by decide⟩
    · obtain ⟨x, y, z, ⟨hx, hy, hz⟩, hval, o1, o2, hg, hbw⟩ := hR.out
      have IX : ∀ W, (Instr.index 167 (.agg #[.int .i64 16, I t, .int .i64 21, I m, .int .i64 20, I i, .int .i64 2, I c]) (I 2)).run Tryz.prog W = .ok (.agg #[I 20, I i]) W := fun W => index4 (I 16) (I t) (I 21) (I m) (I 20) (I i) (I 2) (I c) 2 (by decide) W; have P := Lib.hid (fun W => Put_any x y z 37 20 i W hx hy hz (by decide) (by decide) (by decide) (by omega)); have hpn : putV (val [x, y, z]) 37 i 20 = (i * 137438953472 + m * 65536 + t) := by rw [hval, putV_new (by omega) (by omega)]; omega
      have hvd := val_digits (P := (i * 137438953472 + m * 65536 + t)) (by omega); rw [hpn] at P; have b0 := mod_lt32 ((i * 137438953472 + m * 65536 + t)); have b1 := mod_lt32 (((i * 137438953472 + m * 65536 + t)) / 4294967296); have b2 := mod_lt32 (((i * 137438953472 + m * 65536 + t)) / 18446744073709551616); generalize ((i * 137438953472 + m * 65536 + t)) % 4294967296 = u0 at P hvd b0; generalize ((i * 137438953472 + m * 65536 + t)) / 4294967296 % 4294967296 = u1 at P hvd b1; generalize ((i * 137438953472 + m * 65536 + t)) / 18446744073709551616 % 4294967296 = u2 at P hvd b2; have o1' := o1.alloc (.cells #[I 20, I i] 166); have o2' := o2.alloc (.cells #[I 20, I i] 166); have o3' := Own.new (w := wr) rfl [I 20, I i] 166; have hbw' := hbw.alloc hbw.size (.cells #[I 20, I i] 166); have hgl := o1.lt; have cO := o1; have cA := cO.s3; clear cO; clear o1 o2 hbw hR hval hpn; have hvw : IntKind.u64.wrap (i : Int) = (i : Int) := by show (i : Int) % 18446744073709551616 = _; omega
      go_wp2_with fail
      refine (P.out _).mono ?_; rintro e w' ⟨rfl, k1⟩; have hnew := TokRel.next b0 b1 b2 hvd (o1'.below k1) (o2'.below k1) hg (hbw'.trans (k1.mono hbw'.size)); have fO := o1'.below k1; have fA := fO.s3; clear fO; have dO := o3'.below k1; have dA := dO.s2; clear dO; clear o1' o2' o3' hbw' P k1; have r1 := set_same; have r2 := set_off; have r3 := set_blk; go_wp2; exact ⟨.inr (.inr (.inr (.inl ⟨rfl, rfl, hnew⟩))), by decide⟩
    · obtain ⟨x, y, z, ⟨hx, hy, hz⟩, hval, o1, o2, hg, hbw⟩ := hR.out
      have IX : ∀ W, (Instr.index 167 (.agg #[.int .i64 16, I t, .int .i64 21, I m, .int .i64 20, I i, .int .i64 2, I c]) (I 3)).run Tryz.prog W = .ok (.agg #[I 2, I c]) W := fun W => index4 (I 16) (I t) (I 21) (I m) (I 20) (I i) (I 2) (I c) 3 (by decide) W; have P := Lib.hid (fun W => Put_any x y z 57 2 c W hx hy hz (by decide) (by decide) (by decide) (by omega)); have hpn : putV (val [x, y, z]) 57 c 2 = (c * 144115188075855872 + i * 137438953472 + m * 65536 + t) := by rw [hval, putV_new (by omega) (by omega)]; omega
      have hvd := val_digits (P := (c * 144115188075855872 + i * 137438953472 + m * 65536 + t)) (by omega); rw [hpn] at P; have b0 := mod_lt32 ((c * 144115188075855872 + i * 137438953472 + m * 65536 + t)); have b1 := mod_lt32 (((c * 144115188075855872 + i * 137438953472 + m * 65536 + t)) / 4294967296); have b2 := mod_lt32 (((c * 144115188075855872 + i * 137438953472 + m * 65536 + t)) / 18446744073709551616); generalize ((c * 144115188075855872 + i * 137438953472 + m * 65536 + t)) % 4294967296 = u0 at P hvd b0; generalize ((c * 144115188075855872 + i * 137438953472 + m * 65536 + t)) / 4294967296 % 4294967296 = u1 at P hvd b1; generalize ((c * 144115188075855872 + i * 137438953472 + m * 65536 + t)) / 18446744073709551616 % 4294967296 = u2 at P hvd b2; have o1' := o1.alloc (.cells #[I 2, I c] 166); have o2' := o2.alloc (.cells #[I 2, I c] 166); have o3' := Own.new (w := wr) rfl [I 2, I c] 166; have hbw' := hbw.alloc hbw.size (.cells #[I 2, I c] 166); have hgl := o1.lt; have cO := o1; have cA := cO.s3; clear cO; clear o1 o2 hbw hR hval hpn; have hvw : IntKind.u64.wrap (c : Int) = (c : Int) := by show (c : Int) % 18446744073709551616 = _; omega
      go_wp2_with fail
      refine (P.out _).mono ?_; rintro e w' ⟨rfl, k1⟩; have hnew := TokRel.next b0 b1 b2 hvd (o1'.below k1) (o2'.below k1) hg (hbw'.trans (k1.mono hbw'.size)); have fO := o1'.below k1; have fA := fO.s3; clear fO; have dO := o3'.below k1; have dA := dO.s2; clear dO; clear o1' o2' o3' hbw' P k1; have r1 := set_same; have r2 := set_off; have r3 := set_blk; go_wp2; exact ⟨.inr (.inr (.inr (.inr ⟨rfl, rfl, hnew⟩))), by decide⟩
    · obtain ⟨x, y, z, ⟨hx, hy, hz⟩, hval, o1, o2, hg, hbw⟩ := hR.out
      have T := Lib.hid (fun W => Times_any x y z 97 W hx hy hz (by decide)); have hl : allW [x, y, z] := by intro d hd; simp at hd; omega
      have htd := times_digits x y z 97; rw [hval, show (c * 144115188075855872 + i * 137438953472 + m * 65536 + t) * 97 = tokN c i m t by unfold tokN; omega] at htd; obtain ⟨e0, e1, e2, -⟩ := digits4 (wordC_lt (timesF_ok (show 97 < 4294967296 by decide)) hl (by decide) 0) (wordC_lt (timesF_ok (show 97 < 4294967296 by decide)) hl (by decide) 1) (wordC_lt (timesF_ok (show 97 < 4294967296 by decide)) hl (by decide) 2) htd; rw [← e0, ← e1, ← e2] at T; generalize tokN c i m t = N at *; generalize carryC (timesF 97) [x, y, z] 0 3 = w3 at *; generalize N % 4294967296 = n0 at *; generalize N / 4294967296 % 4294967296 = n1 at *; generalize N / 18446744073709551616 % 4294967296 = n2 at *; have hgl := o1.lt; have cO := o1; have cA := cO.s3; clear cO
      go_wp2_with fail
      refine (T.out _).mono ?_; rintro e w' ⟨rfl, k1⟩; have fO := o1.below k1; have fA := fO.s3; clear fO; have qO := o2.below k1; have qA := qO.s3; clear qO; have kk := hbw.trans (k1.mono hbw.size); clear o1 o2 hbw k1 hR htd e0 e1 e2 hl; have r1 := set_same; have r2 := set_off; have r3 := set_blk; go_wp2; refine bodyPost_ret (v := T2 (wideV n0 n1 n2) (I 0)) (by simp [results, Tryz.results42, go_sem, *]) rfl ⟨rfl, below_autor⟩
end Go.Proofs.YtdjgcenjonegjaaGreat
