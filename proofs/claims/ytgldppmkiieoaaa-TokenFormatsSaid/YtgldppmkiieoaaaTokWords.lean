/- token.Words, ref.numberOf, ref.TokenWords -/
import Derived.Test.YtgldppmkiieoaaaTok
import Derived.Test.YtgldppmkiieoaaaWPut
import Derived.ChangeKeysEq
namespace Go.Proofs.Ytgldppmkiieoaaa
open Go.RowKit
set_option maxRecDepth 20000

theorem putV_new {N lo v n : Nat} (hN : N < 2 ^ lo) (hv : v < 2 ^ n) : putV N lo v n = N + v * 2 ^ lo := by
  rw [putV_full _ _ _ _ hv]
  unfold fld
  rw [Nat.div_eq_of_lt hN, Nat.zero_mod, Nat.zero_mul, Nat.sub_zero]
theorem val_digits {P : Nat} (hP : P < 79228162514264337593543950336) : val [P % 4294967296, P / 4294967296 % 4294967296, P / 18446744073709551616 % 4294967296] = P := by
  rw [val3]; omega
theorem cells2 : Try.prog.cellsOf 82 = 2 := by kernel_rfl
theorem index4 (a0 a1 b0 b1 c0 c1 d0 d1 : Value) (k : Nat) (hk : k < 4) (w : World) : (Instr.index 83 (.agg #[a0, a1, b0, b1, c0, c1, d0, d1]) (I k)).run Try.prog w = .ok (.agg #[[a0, b0, c0, d0].getD k undef, [a1, b1, c1, d1].getD k undef]) w := by
  obtain ⟨i, hi⟩ : ∃ i, Try.prog.info? 82 = some i := by
    have h : (Try.prog.info? 82).isSome = true := by kernel_rfl
    exact Option.isSome_iff_exists.1 h
  have hu : Try.prog.underlying 83 = some (.array 4 82) := by kernel_rfl
  have hu2 : Try.prog.underlying 82 = some (.struct (Try.prog.fieldsOf 82)) := by kernel_rfl
  have h0 : (0 : Int) ≤ (k : Int) := by omega
  have h1 : (k : Int) < 4 := by omega
  simp only [Instr.index, part, isAgg, asIntOf, Sem.run_bind, Sem.run_pure, Result.andThen_ok, run_underlying hu, run_underlying hu2, run_sizeOf w hi, cells2, h0, h1, and_self, if_true, Int.toNat_natCast]
  match k, hk with
  | 0, _ => rfl
  | 1, _ => rfl
  | 2, _ => rfl
  | 3, _ => rfl
def tokN (c i m t : Nat) : Nat := ((c * 2199023255552 + i * 2097152 + m) * 65536 + t) * 97
def TokRel (W : World) (g N : Nat) (wr : World) : Prop :=
  ∃ x y z : Nat, (x < 4294967296 ∧ y < 4294967296 ∧ z < 4294967296) ∧ val [x, y, z] = N ∧ Own wr g [U32 x, U32 y, U32 z] ∧ Own wr (W.heap.size + 1) [U32 0, U32 0, U32 0] ∧ W.heap.size + 1 < g ∧ Below W.heap.size W wr
theorem TokRel.next {W w' : World} {g N x y z : Nat} {u0 u1 u2 : Value} (hx : x < 4294967296) (hy : y < 4294967296) (hz : z < 4294967296) (hv : val [x, y, z] = N) (o1 : Own w' g [u0, u1, u2]) (o2 : Own w' (W.heap.size + 1) [U32 0, U32 0, U32 0]) (hg : W.heap.size + 1 < g) (hb : Below W.heap.size W w') :
    Hid (TokRel W g N (((w'.setCell ⟨g, 0, none⟩ (U32 x)).setCell ⟨g, 1, none⟩ (U32 y)).setCell ⟨g, 2, none⟩ (U32 z))) :=
  ⟨x, y, z, ⟨hx, hy, hz⟩, hv, ((o1.set 0 (U32 x)).set 1 (U32 y)).set 2 (U32 z), ((o2.other (a := ⟨g, 0, none⟩) (by show g ≠ W.heap.size + 1; omega) _).other (a := ⟨g, 1, none⟩) (by show g ≠ W.heap.size + 1; omega) _).other (a := ⟨g, 2, none⟩) (by show g ≠ W.heap.size + 1; omega) _, hg,
    ((hb.setCell (p := ⟨g, 0, none⟩) (by show W.heap.size ≤ g; omega) _).setCell (p := ⟨g, 1, none⟩) (by show W.heap.size ≤ g; omega) _).setCell (p := ⟨g, 2, none⟩) (by show W.heap.size ≤ g; omega) _⟩
theorem mod_lt32 (n : Nat) : n % 4294967296 < 4294967296 := Nat.mod_lt _ (by decide)

set_option maxHeartbeats 2000000 in
theorem Words_bad (x : AToken) (w : World) (h : tokFault x ≠ 0) : Calls Try.prog 32 #[.agg x.cells.toArray] w (GrewW2 0 0 0 (tokFault x) w) := by
  have B := Lib.hid (fun W => fault_any x W)
  generalize tokFault x = r at *
  obtain ⟨c, i, m, t⟩ := x
  show Calls Try.prog 32 #[.agg #[I c, I i, I m, I t]] w _
  have k0 := boxed_below w (.cells #[I c, I i, I m, I t] 45)
  have kB := k0.alloc k0.size (.cells #[U32 0, U32 0, U32 0] 24)
  have o2 := Own.new (w := w.alloc (.cells #[I c, I i, I m, I t] 45)) (g := w.heap.size + 1) (by simp) [U32 0, U32 0, U32 0] 24
  go_enter Try.func32, Try.ntmps32
  go_wp2_with fail
  refine (B.out _).mono ?_
  rintro e w1 ⟨rfl, k1⟩
  have zO := o2.below k1
  have z0 := zO.cell 0 (by simp)
  have zf0 := zO.frozen 0
  have z1 := zO.cell 1 (by simp)
  have zf1 := zO.frozen 1
  have z2 := zO.cell 2 (by simp)
  have zf2 := zO.frozen 2
  simp only [Nat.zero_add, List.getD_cons_zero, List.getD_cons_succ] at z0 z1 z2
  clear zO
  have kk := kB.trans (k1.mono kB.size)
  clear o2 k0 kB k1
  have r1 := set_same
  have r2 := set_off
  have r3 := set_blk
  go_wp2
  refine bodyPost_ret (v := T2 (wideV 0 0 0) (I r)) (by simp [results, Try.results32, go_sem, *]) rfl ⟨rfl, (by repeat first | with_reducible assumption | with_reducible exact Below.refl _ _ | with_reducible refine Below.setCell ?_ (by first | exact Nat.le_refl _ | exact Below.size (by assumption) | (simp; done) | (simp; omega) | omega) _ | with_reducible refine Below.alloc ?_ (by first | exact Nat.le_refl _ | exact Below.size (by assumption) | (simp; done) | (simp; omega) | omega) _ | with_reducible refine drewN_below ?_ _ | with_reducible refine Below.drew ?_)⟩
theorem TokenWords_bad (x : AToken) (w : World) (h : tokFault x ≠ 0) : Calls Try.prog 33 #[.agg x.cells.toArray] w (GrewW2 0 0 0 (tokFault x) w) := by
  have B := Lib.hid (fun W => TokenFault_any x W)
  generalize tokFault x = r at *
  obtain ⟨c, i, m, t⟩ := x
  show Calls Try.prog 33 #[.agg #[I c, I i, I m, I t]] w _
  have k0 := boxed_below w (.cells #[I c, I i, I m, I t] 45)
  have kB := k0.alloc k0.size (.cells #[U32 0, U32 0, U32 0] 24)
  have o2 := Own.new (w := w.alloc (.cells #[I c, I i, I m, I t] 45)) (g := w.heap.size + 1) (by simp) [U32 0, U32 0, U32 0] 24
  go_enter Try.func33, Try.ntmps33
  go_wp2_with fail
  refine (B.out _).mono ?_
  rintro e w1 ⟨rfl, k1⟩
  have zO := o2.below k1
  have z0 := zO.cell 0 (by simp)
  have zf0 := zO.frozen 0
  have z1 := zO.cell 1 (by simp)
  have zf1 := zO.frozen 1
  have z2 := zO.cell 2 (by simp)
  have zf2 := zO.frozen 2
  simp only [Nat.zero_add, List.getD_cons_zero, List.getD_cons_succ] at z0 z1 z2
  clear zO
  have kk := kB.trans (k1.mono kB.size)
  clear o2 k0 kB k1
  have r1 := set_same
  have r2 := set_off
  have r3 := set_blk
  go_wp2
  refine bodyPost_ret (v := T2 (wideV 0 0 0) (I r)) (by simp [results, Try.results33, go_sem, *]) rfl ⟨rfl, (by repeat first | with_reducible assumption | with_reducible exact Below.refl _ _ | with_reducible refine Below.setCell ?_ (by first | exact Nat.le_refl _ | exact Below.size (by assumption) | (simp; done) | (simp; omega) | omega) _ | with_reducible refine Below.alloc ?_ (by first | exact Nat.le_refl _ | exact Below.size (by assumption) | (simp; done) | (simp; omega) | omega) _ | with_reducible refine drewN_below ?_ _ | with_reducible refine Below.drew ?_)⟩
set_option maxHeartbeats 4000000 in
theorem Words_good (c i m t : Nat) (w : World) (h : tokFault ⟨c, i, m, t⟩ = 0) : Calls Try.prog 32 #[.agg #[I c, I i, I m, I t]] w (GrewW2 (tokN c i m t % 4294967296) (tokN c i m t / 4294967296 % 4294967296) (tokN c i m t / 18446744073709551616 % 4294967296) 0 w) := by
  have B := Lib.hid (fun W => fault_any ⟨c, i, m, t⟩ W)
  obtain ⟨⟨c0, c1⟩, ⟨i0, i1⟩, ⟨t0, t1⟩, m0, m1⟩ := tokFault_zero h
  simp only at c0 c1 i0 i1 t0 t1 m0 m1
  rw [h] at B
  clear h
  have k0 := boxed_below w (.cells #[I c, I i, I m, I t] 45)
  have kB := k0.alloc k0.size (.cells #[U32 0, U32 0, U32 0] 24)
  have o1 := (Own.new (w := w) rfl [I c, I i, I m, I t] 45).alloc (.cells #[U32 0, U32 0, U32 0] 24)
  have o2 := Own.new (w := w.alloc (.cells #[I c, I i, I m, I t] 45)) (g := w.heap.size + 1) (by simp) [U32 0, U32 0, U32 0] 24
  go_enter Try.func32, Try.ntmps32
  go_wp2_with fail
  refine (B.out _).mono ?_
  rintro e w1 ⟨rfl, k1⟩
  have kk := kB.trans (k1.mono kB.size)
  have q2 := (o2.below k1).alloc (.cells #[U32 0, U32 0, U32 0] 24)
  have dO := (o1.below k1).alloc (.cells #[U32 0, U32 0, U32 0] 24)
  have d0 := dO.cell 0 (by simp)
  have df0 := dO.frozen 0
  have d1 := dO.cell 1 (by simp)
  have df1 := dO.frozen 1
  have d2 := dO.cell 2 (by simp)
  have df2 := dO.frozen 2
  have d3 := dO.cell 3 (by simp)
  have df3 := dO.frozen 3
  simp only [Nat.zero_add, List.getD_cons_zero, List.getD_cons_succ] at d0 d1 d2 d3
  clear dO
  have hdd := o1.below k1
  have hdl := hdd.lt
  have hn0 : ¬ w.heap.size = w1.heap.size := by omega
  have hR : Hid (TokRel w w1.heap.size 0 (w1.alloc (.cells #[U32 0, U32 0, U32 0] 24))) :=
    ⟨0, 0, 0, by decide, rfl, Own.new rfl [U32 0, U32 0, U32 0] 24, q2, by have := (o2.below k1).lt; omega, kk.alloc kk.size _⟩
  have aO := hdd
  have a0 := aO.cell 0 (by simp)
  have af0 := aO.frozen 0
  have a1 := aO.cell 1 (by simp)
  have af1 := aO.frozen 1
  have a2 := aO.cell 2 (by simp)
  have af2 := aO.frozen 2
  have a3 := aO.cell 3 (by simp)
  have af3 := aO.frozen 3
  simp only [Nat.zero_add, List.getD_cons_zero, List.getD_cons_succ] at a0 a1 a2 a3
  clear aO
  clear o1 o2 k0 kB k1 kk q2 hdd hdl
  have r0 : Hid (w.heap.size + 1 < w1.heap.size) := by obtain ⟨_, _, _, _, _, _, _, hg, _⟩ := hR.out; exact hg
  go_wp2
  go_loopw [6, 8, 28] (fun at_ _ k wr => (k = I 0 ∧ at_ = I 0 ∧ Hid (TokRel w w1.heap.size 0 wr)) ∨ (k = I 1 ∧ at_ = I 16 ∧ Hid (TokRel w w1.heap.size t wr)) ∨ (k = I 2 ∧ at_ = I 37 ∧ Hid (TokRel w w1.heap.size (m * 65536 + t) wr)) ∨ (k = I 3 ∧ at_ = I 57 ∧ Hid (TokRel w w1.heap.size (i * 137438953472 + m * 65536 + t) wr)) ∨ (k = I 4 ∧ at_ = I 59 ∧ Hid (TokRel w w1.heap.size (c * 144115188075855872 + i * 137438953472 + m * 65536 + t) wr))) (fun _ _ k _ => (4 - intOf k).toNat)
  case atStart => exact .inl ⟨rfl, rfl, hR⟩
  case round =>
    clear hR df0 df1 df2 df3 d0 d1 d2 d3 af0 af1 af2 af3 a0 a1 a2 a3
    rcases hrel with ⟨rfl, rfl, hR⟩ | ⟨rfl, rfl, hR⟩ | ⟨rfl, rfl, hR⟩ | ⟨rfl, rfl, hR⟩ | ⟨rfl, rfl, hR⟩
    · obtain ⟨x, y, z, ⟨hx, hy, hz⟩, hval, o1, o2, hg, hbw⟩ := hR.out
      have IX : ∀ W, (Instr.index 83 (.agg #[.int .i64 16, I t, .int .i64 21, I m, .int .i64 20, I i, .int .i64 2, I c]) (I 0)).run Try.prog W = .ok (.agg #[I 16, I t]) W := fun W => index4 (I 16) (I t) (I 21) (I m) (I 20) (I i) (I 2) (I c) 0 (by decide) W
      have P := Lib.hid (fun W => Put_any x y z 0 16 t W hx hy hz (by decide) (by decide) (by decide) (by omega))
      have hpn : putV (val [x, y, z]) 0 t 16 = t := by rw [hval, putV_new (by omega) (by omega)]; omega
      have hvd := val_digits (P := t) (by omega)
      rw [hpn] at P
      have b0 := mod_lt32 (t)
      have b1 := mod_lt32 ((t) / 4294967296)
      have b2 := mod_lt32 ((t) / 18446744073709551616)
      generalize (t) % 4294967296 = u0 at P hvd b0
      generalize (t) / 4294967296 % 4294967296 = u1 at P hvd b1
      generalize (t) / 18446744073709551616 % 4294967296 = u2 at P hvd b2
      have o1' := o1.alloc (.cells #[I 16, I t] 82)
      have o2' := o2.alloc (.cells #[I 16, I t] 82)
      have o3' := Own.new (w := wr) rfl [I 16, I t] 82
      have hbw' := hbw.alloc hbw.size (.cells #[I 16, I t] 82)
      have hgl := o1.lt
      have cO := o1
      have c0 := cO.cell 0 (by simp)
      have cf0 := cO.frozen 0
      have c1 := cO.cell 1 (by simp)
      have cf1 := cO.frozen 1
      have c2 := cO.cell 2 (by simp)
      have cf2 := cO.frozen 2
      simp only [Nat.zero_add, List.getD_cons_zero, List.getD_cons_succ] at c0 c1 c2
      clear cO
      clear o1 o2 hbw hR hval hpn
      have hvw : IntKind.u64.wrap (t : Int) = (t : Int) := by show (t : Int) % 18446744073709551616 = _; omega
      go_wp2_with fail
      refine (P.out _).mono ?_
      rintro e w' ⟨rfl, k1⟩
      have hnew := TokRel.next b0 b1 b2 hvd (o1'.below k1) (o2'.below k1) hg (hbw'.trans (k1.mono hbw'.size))
      have fO := o1'.below k1
      have f0 := fO.cell 0 (by simp)
      have ff0 := fO.frozen 0
      have f1 := fO.cell 1 (by simp)
      have ff1 := fO.frozen 1
      have f2 := fO.cell 2 (by simp)
      have ff2 := fO.frozen 2
      simp only [Nat.zero_add, List.getD_cons_zero, List.getD_cons_succ] at f0 f1 f2
      clear fO
      have dO := o3'.below k1
      have d0 := dO.cell 0 (by simp)
      have df0 := dO.frozen 0
      have d1 := dO.cell 1 (by simp)
      have df1 := dO.frozen 1
      simp only [Nat.zero_add, List.getD_cons_zero, List.getD_cons_succ] at d0 d1
      clear dO
      clear o1' o2' o3' hbw' P k1
      have r1 := set_same
      have r2 := set_off
      have r3 := set_blk
      go_wp2
      exact ⟨.inr (.inl ⟨rfl, rfl, hnew⟩), by decide⟩
    · obtain ⟨x, y, z, ⟨hx, hy, hz⟩, hval, o1, o2, hg, hbw⟩ := hR.out
      have IX : ∀ W, (Instr.index 83 (.agg #[.int .i64 16, I t, .int .i64 21, I m, .int .i64 20, I i, .int .i64 2, I c]) (I 1)).run Try.prog W = .ok (.agg #[I 21, I m]) W := fun W => index4 (I 16) (I t) (I 21) (I m) (I 20) (I i) (I 2) (I c) 1 (by decide) W
      have P := Lib.hid (fun W => Put_any x y z 16 21 m W hx hy hz (by decide) (by decide) (by decide) (by omega))
      have hpn : putV (val [x, y, z]) 16 m 21 = (m * 65536 + t) := by rw [hval, putV_new (by omega) (by omega)]; omega
      have hvd := val_digits (P := (m * 65536 + t)) (by omega)
      rw [hpn] at P
      have b0 := mod_lt32 ((m * 65536 + t))
      have b1 := mod_lt32 (((m * 65536 + t)) / 4294967296)
      have b2 := mod_lt32 (((m * 65536 + t)) / 18446744073709551616)
      generalize ((m * 65536 + t)) % 4294967296 = u0 at P hvd b0
      generalize ((m * 65536 + t)) / 4294967296 % 4294967296 = u1 at P hvd b1
      generalize ((m * 65536 + t)) / 18446744073709551616 % 4294967296 = u2 at P hvd b2
      have o1' := o1.alloc (.cells #[I 21, I m] 82)
      have o2' := o2.alloc (.cells #[I 21, I m] 82)
      have o3' := Own.new (w := wr) rfl [I 21, I m] 82
      have hbw' := hbw.alloc hbw.size (.cells #[I 21, I m] 82)
      have hgl := o1.lt
      have cO := o1
      have c0 := cO.cell 0 (by simp)
      have cf0 := cO.frozen 0
      have c1 := cO.cell 1 (by simp)
      have cf1 := cO.frozen 1
      have c2 := cO.cell 2 (by simp)
      have cf2 := cO.frozen 2
      simp only [Nat.zero_add, List.getD_cons_zero, List.getD_cons_succ] at c0 c1 c2
      clear cO
      clear o1 o2 hbw hR hval hpn
      have hvw : IntKind.u64.wrap (m : Int) = (m : Int) := by show (m : Int) % 18446744073709551616 = _; omega
      go_wp2_with fail
      refine (P.out _).mono ?_
      rintro e w' ⟨rfl, k1⟩
      have hnew := TokRel.next b0 b1 b2 hvd (o1'.below k1) (o2'.below k1) hg (hbw'.trans (k1.mono hbw'.size))
      have fO := o1'.below k1
      have f0 := fO.cell 0 (by simp)
      have ff0 := fO.frozen 0
      have f1 := fO.cell 1 (by simp)
      have ff1 := fO.frozen 1
      have f2 := fO.cell 2 (by simp)
      have ff2 := fO.frozen 2
      simp only [Nat.zero_add, List.getD_cons_zero, List.getD_cons_succ] at f0 f1 f2
      clear fO
      have dO := o3'.below k1
      have d0 := dO.cell 0 (by simp)
      have df0 := dO.frozen 0
      have d1 := dO.cell 1 (by simp)
      have df1 := dO.frozen 1
      simp only [Nat.zero_add, List.getD_cons_zero, List.getD_cons_succ] at d0 d1
      clear dO
      clear o1' o2' o3' hbw' P k1
      have r1 := set_same
      have r2 := set_off
      have r3 := set_blk
      go_wp2
      exact ⟨.inr (.inr (.inl ⟨rfl, rfl, hnew⟩)), by decide⟩
    · obtain ⟨x, y, z, ⟨hx, hy, hz⟩, hval, o1, o2, hg, hbw⟩ := hR.out
      have IX : ∀ W, (Instr.index 83 (.agg #[.int .i64 16, I t, .int .i64 21, I m, .int .i64 20, I i, .int .i64 2, I c]) (I 2)).run Try.prog W = .ok (.agg #[I 20, I i]) W := fun W => index4 (I 16) (I t) (I 21) (I m) (I 20) (I i) (I 2) (I c) 2 (by decide) W
      have P := Lib.hid (fun W => Put_any x y z 37 20 i W hx hy hz (by decide) (by decide) (by decide) (by omega))
      have hpn : putV (val [x, y, z]) 37 i 20 = (i * 137438953472 + m * 65536 + t) := by rw [hval, putV_new (by omega) (by omega)]; omega
      have hvd := val_digits (P := (i * 137438953472 + m * 65536 + t)) (by omega)
      rw [hpn] at P
      have b0 := mod_lt32 ((i * 137438953472 + m * 65536 + t))
      have b1 := mod_lt32 (((i * 137438953472 + m * 65536 + t)) / 4294967296)
      have b2 := mod_lt32 (((i * 137438953472 + m * 65536 + t)) / 18446744073709551616)
      generalize ((i * 137438953472 + m * 65536 + t)) % 4294967296 = u0 at P hvd b0
      generalize ((i * 137438953472 + m * 65536 + t)) / 4294967296 % 4294967296 = u1 at P hvd b1
      generalize ((i * 137438953472 + m * 65536 + t)) / 18446744073709551616 % 4294967296 = u2 at P hvd b2
      have o1' := o1.alloc (.cells #[I 20, I i] 82)
      have o2' := o2.alloc (.cells #[I 20, I i] 82)
      have o3' := Own.new (w := wr) rfl [I 20, I i] 82
      have hbw' := hbw.alloc hbw.size (.cells #[I 20, I i] 82)
      have hgl := o1.lt
      have cO := o1
      have c0 := cO.cell 0 (by simp)
      have cf0 := cO.frozen 0
      have c1 := cO.cell 1 (by simp)
      have cf1 := cO.frozen 1
      have c2 := cO.cell 2 (by simp)
      have cf2 := cO.frozen 2
      simp only [Nat.zero_add, List.getD_cons_zero, List.getD_cons_succ] at c0 c1 c2
      clear cO
      clear o1 o2 hbw hR hval hpn
      have hvw : IntKind.u64.wrap (i : Int) = (i : Int) := by show (i : Int) % 18446744073709551616 = _; omega
      go_wp2_with fail
      refine (P.out _).mono ?_
      rintro e w' ⟨rfl, k1⟩
      have hnew := TokRel.next b0 b1 b2 hvd (o1'.below k1) (o2'.below k1) hg (hbw'.trans (k1.mono hbw'.size))
      have fO := o1'.below k1
      have f0 := fO.cell 0 (by simp)
      have ff0 := fO.frozen 0
      have f1 := fO.cell 1 (by simp)
      have ff1 := fO.frozen 1
      have f2 := fO.cell 2 (by simp)
      have ff2 := fO.frozen 2
      simp only [Nat.zero_add, List.getD_cons_zero, List.getD_cons_succ] at f0 f1 f2
      clear fO
      have dO := o3'.below k1
      have d0 := dO.cell 0 (by simp)
      have df0 := dO.frozen 0
      have d1 := dO.cell 1 (by simp)
      have df1 := dO.frozen 1
      simp only [Nat.zero_add, List.getD_cons_zero, List.getD_cons_succ] at d0 d1
      clear dO
      clear o1' o2' o3' hbw' P k1
      have r1 := set_same
      have r2 := set_off
      have r3 := set_blk
      go_wp2
      exact ⟨.inr (.inr (.inr (.inl ⟨rfl, rfl, hnew⟩))), by decide⟩
    · obtain ⟨x, y, z, ⟨hx, hy, hz⟩, hval, o1, o2, hg, hbw⟩ := hR.out
      have IX : ∀ W, (Instr.index 83 (.agg #[.int .i64 16, I t, .int .i64 21, I m, .int .i64 20, I i, .int .i64 2, I c]) (I 3)).run Try.prog W = .ok (.agg #[I 2, I c]) W := fun W => index4 (I 16) (I t) (I 21) (I m) (I 20) (I i) (I 2) (I c) 3 (by decide) W
      have P := Lib.hid (fun W => Put_any x y z 57 2 c W hx hy hz (by decide) (by decide) (by decide) (by omega))
      have hpn : putV (val [x, y, z]) 57 c 2 = (c * 144115188075855872 + i * 137438953472 + m * 65536 + t) := by rw [hval, putV_new (by omega) (by omega)]; omega
      have hvd := val_digits (P := (c * 144115188075855872 + i * 137438953472 + m * 65536 + t)) (by omega)
      rw [hpn] at P
      have b0 := mod_lt32 ((c * 144115188075855872 + i * 137438953472 + m * 65536 + t))
      have b1 := mod_lt32 (((c * 144115188075855872 + i * 137438953472 + m * 65536 + t)) / 4294967296)
      have b2 := mod_lt32 (((c * 144115188075855872 + i * 137438953472 + m * 65536 + t)) / 18446744073709551616)
      generalize ((c * 144115188075855872 + i * 137438953472 + m * 65536 + t)) % 4294967296 = u0 at P hvd b0
      generalize ((c * 144115188075855872 + i * 137438953472 + m * 65536 + t)) / 4294967296 % 4294967296 = u1 at P hvd b1
      generalize ((c * 144115188075855872 + i * 137438953472 + m * 65536 + t)) / 18446744073709551616 % 4294967296 = u2 at P hvd b2
      have o1' := o1.alloc (.cells #[I 2, I c] 82)
      have o2' := o2.alloc (.cells #[I 2, I c] 82)
      have o3' := Own.new (w := wr) rfl [I 2, I c] 82
      have hbw' := hbw.alloc hbw.size (.cells #[I 2, I c] 82)
      have hgl := o1.lt
      have cO := o1
      have c0 := cO.cell 0 (by simp)
      have cf0 := cO.frozen 0
      have c1 := cO.cell 1 (by simp)
      have cf1 := cO.frozen 1
      have c2 := cO.cell 2 (by simp)
      have cf2 := cO.frozen 2
      simp only [Nat.zero_add, List.getD_cons_zero, List.getD_cons_succ] at c0 c1 c2
      clear cO
      clear o1 o2 hbw hR hval hpn
      have hvw : IntKind.u64.wrap (c : Int) = (c : Int) := by show (c : Int) % 18446744073709551616 = _; omega
      go_wp2_with fail
      refine (P.out _).mono ?_
      rintro e w' ⟨rfl, k1⟩
      have hnew := TokRel.next b0 b1 b2 hvd (o1'.below k1) (o2'.below k1) hg (hbw'.trans (k1.mono hbw'.size))
      have fO := o1'.below k1
      have f0 := fO.cell 0 (by simp)
      have ff0 := fO.frozen 0
      have f1 := fO.cell 1 (by simp)
      have ff1 := fO.frozen 1
      have f2 := fO.cell 2 (by simp)
      have ff2 := fO.frozen 2
      simp only [Nat.zero_add, List.getD_cons_zero, List.getD_cons_succ] at f0 f1 f2
      clear fO
      have dO := o3'.below k1
      have d0 := dO.cell 0 (by simp)
      have df0 := dO.frozen 0
      have d1 := dO.cell 1 (by simp)
      have df1 := dO.frozen 1
      simp only [Nat.zero_add, List.getD_cons_zero, List.getD_cons_succ] at d0 d1
      clear dO
      clear o1' o2' o3' hbw' P k1
      have r1 := set_same
      have r2 := set_off
      have r3 := set_blk
      go_wp2
      exact ⟨.inr (.inr (.inr (.inr ⟨rfl, rfl, hnew⟩))), by decide⟩
    · obtain ⟨x, y, z, ⟨hx, hy, hz⟩, hval, o1, o2, hg, hbw⟩ := hR.out
      have T := Lib.hid (fun W => Times_any x y z 97 W hx hy hz (by decide))
      have hl : allW [x, y, z] := by intro d hd; simp at hd; omega
      have htd := times_digits x y z 97
      rw [hval, show (c * 144115188075855872 + i * 137438953472 + m * 65536 + t) * 97 = tokN c i m t by unfold tokN; omega] at htd
      obtain ⟨e0, e1, e2, -⟩ := digits4 (wordC_lt (timesF_ok (show 97 < 4294967296 by decide)) hl (by decide) 0) (wordC_lt (timesF_ok (show 97 < 4294967296 by decide)) hl (by decide) 1) (wordC_lt (timesF_ok (show 97 < 4294967296 by decide)) hl (by decide) 2) htd
      rw [← e0, ← e1, ← e2] at T
      generalize tokN c i m t = N at *
      generalize carryC (timesF 97) [x, y, z] 0 3 = w3 at *
      generalize N % 4294967296 = n0 at *
      generalize N / 4294967296 % 4294967296 = n1 at *
      generalize N / 18446744073709551616 % 4294967296 = n2 at *
      have hgl := o1.lt
      have cO := o1
      have c0 := cO.cell 0 (by simp)
      have cf0 := cO.frozen 0
      have c1 := cO.cell 1 (by simp)
      have cf1 := cO.frozen 1
      have c2 := cO.cell 2 (by simp)
      have cf2 := cO.frozen 2
      simp only [Nat.zero_add, List.getD_cons_zero, List.getD_cons_succ] at c0 c1 c2
      clear cO
      go_wp2_with fail
      refine (T.out _).mono ?_
      rintro e w' ⟨rfl, k1⟩
      have fO := o1.below k1
      have f0 := fO.cell 0 (by simp)
      have ff0 := fO.frozen 0
      have f1 := fO.cell 1 (by simp)
      have ff1 := fO.frozen 1
      have f2 := fO.cell 2 (by simp)
      have ff2 := fO.frozen 2
      simp only [Nat.zero_add, List.getD_cons_zero, List.getD_cons_succ] at f0 f1 f2
      clear fO
      have qO := o2.below k1
      have q0 := qO.cell 0 (by simp)
      have qf0 := qO.frozen 0
      have q1 := qO.cell 1 (by simp)
      have qf1 := qO.frozen 1
      have q2 := qO.cell 2 (by simp)
      have qf2 := qO.frozen 2
      simp only [Nat.zero_add, List.getD_cons_zero, List.getD_cons_succ] at q0 q1 q2
      clear qO
      have kk := hbw.trans (k1.mono hbw.size)
      clear o1 o2 hbw k1 hR htd e0 e1 e2 hl
      have r1 := set_same
      have r2 := set_off
      have r3 := set_blk
      go_wp2
      refine bodyPost_ret (v := T2 (wideV n0 n1 n2) (I 0)) (by simp [results, Try.results32, go_sem, *]) rfl ⟨rfl, (by repeat first | with_reducible assumption | with_reducible exact Below.refl _ _ | with_reducible refine Below.setCell ?_ (by first | exact Nat.le_refl _ | exact Below.size (by assumption) | (simp; done) | (simp; omega) | omega) _ | with_reducible refine Below.alloc ?_ (by first | exact Nat.le_refl _ | exact Below.size (by assumption) | (simp; done) | (simp; omega) | omega) _ | with_reducible refine drewN_below ?_ _ | with_reducible refine Below.drew ?_)⟩
end Go.Proofs.Ytgldppmkiieoaaa
