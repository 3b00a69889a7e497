/- world.clone and ref.WorldCopy at a world without meters -/
import Derived.Test.YtenoigmkhlnfoaaWorldB
import Derived.Deep.DeepCutAuto
namespace Go.Proofs.Ytenoigmkhlnfoaa
set_option linter.unusedSimpArgs false
set_option linter.unusedVariables false
open Go Go.RowKit
set_option maxRecDepth 20000
/-- new memory for the tariff and the words -/
def CloneP (ts : List AStep) (f b d al : Int) (xs : List Int) (w : World) (e : Ending) (w' : World) : Prop :=
  ∃ tv dv, e = .returned (.agg #[tv, I f, I b, I d, I al, dv, .slice none 0 0, .slice none 0 0]) ∧ Sl w' tv 2 ts.length (ts.flatMap AStep.cells) ∧ Sl w' dv 1 xs.length (xs.map U32) ∧ FarB w.heap.size tv ∧ FarB w.heap.size dv ∧ Below w.heap.size w w'
theorem CloneP.intro {ts : List AStep} {f b d al : Int} {xs : List Int} {w w' : World} {tv dv : Value} (h1 : Sl w' tv 2 ts.length (ts.flatMap AStep.cells)) (h2 : Sl w' dv 1 xs.length (xs.map U32)) (h3 : FarB w.heap.size tv) (h4 : FarB w.heap.size dv) (h5 : Below w.heap.size w w') :
    CloneP ts f b d al xs w (.returned (.agg #[tv, I f, I b, I d, I al, dv, .slice none 0 0, .slice none 0 0])) w' := ⟨tv, dv, rfl, h1, h2, h3, h4, h5⟩
theorem below_none {w w' : World} (h : w.grownBy w' none) : Below w.heap.size w w' := Below.grown (B := w.heap.size) (Below.refl _ w) h (Nat.le_refl _) (fun k hk => absurd (show (none : Option Nat) = some k from hk) (by simp))
theorem steps_one (ts : List AStep) : oneCells (ts.flatMap AStep.cells) := oneCells_flat (fun x u hu => by simp only [AStep.cells, List.mem_cons, List.not_mem_nil, or_false] at hu; rcases hu with rfl | rfl <;> rfl) _
set_option maxHeartbeats 8000000 in
theorem clone0_any (ts : List AStep) (f b d al : Int) (xs : List Int) (tv dv : Value) (w : World) (ht : Sl w tv 2 ts.length (ts.flatMap AStep.cells)) (hd : Sl w dv 1 xs.length (xs.map U32)) (h1 : 0 < ts.length) (h2 : ts.length ≤ 8) (h3 : 0 < xs.length) (h4 : xs.length ≤ 2048) :
    Calls Try.prog 40 #[.agg #[tv, I f, I b, I d, I al, dv, .slice none 0 0, .slice none 0 0]] w (CloneP ts f b d al xs w) := by
  obtain ⟨i0, hi, hz0, hz1, hz2⟩ := info_parts info_steps
  obtain ⟨j0, hj, hy0, hy1, hy2⟩ := info_parts infoU32
  have o1 := (Own.new (w := w) (g := w.heap.size) (by rfl) [tv, I f, I b, I d, I al, dv, .slice none 0 0, .slice none 0 0] 43).alloc (.cells #[.slice none 0 0, I 0, I 0, I 0, I 0, .slice none 0 0, .slice none 0 0, .slice none 0 0] 43)
  have o2 := Own.new (w := (w.alloc (.cells #[tv, I f, I b, I d, I al, dv, .slice none 0 0, .slice none 0 0] 43))) (g := w.heap.size + 1) (by simp) [.slice none 0 0, I 0, I 0, I 0, I 0, .slice none 0 0, .slice none 0 0, .slice none 0 0] 43
  have bx0 := boxed_below w (.cells #[tv, I f, I b, I d, I al, dv, .slice none 0 0, .slice none 0 0] 43)
  have kB := bx0.alloc bx0.size (.cells #[.slice none 0 0, I 0, I 0, I 0, I 0, .slice none 0 0, .slice none 0 0, .slice none 0 0] 43)
  clear bx0
  have ht1 := ht.below kB
  have hd1 := hd.below kB
  have sB : ((w.alloc (.cells #[tv, I f, I b, I d, I al, dv, .slice none 0 0, .slice none 0 0] 43)).alloc (.cells #[.slice none 0 0, I 0, I 0, I 0, I 0, .slice none 0 0, .slice none 0 0, .slice none 0 0] 43)).heap.size = w.heap.size + 2 := by simp
  obtain ⟨ta, tc, rfl, htn, htl, hta, htr⟩ := id ht1
  obtain ⟨da, dc, rfl, hdn, hdl, hda, hdr⟩ := id hd1
  cases ta with
  | none => exact absurd (hta rfl).1 (by omega)
  | some tad =>
  cases da with
  | none => exact absurd (hda rfl).1 (by omega)
  | some dad =>
  have hone := steps_one ts
  have done : oneCells (xs.map U32) := oneCells_map (fun _ => rfl) _
  have HTN := Lib.hid ht1.news
  have HD1 := Lib.hid hd1
  have HTL := Lib.hid htl
  have HDL := Lib.hid hdl
  have c3 : 0 + ts.length ≤ maxLen := by unfold maxLen; omega
  have c4 := Lib.hid (show (0 + ts.length) * 16 ≤ 140737488355328 by omega)
  have c5 : 0 + xs.length ≤ maxLen := by unfold maxLen; omega
  have c6 := Lib.hid (show (0 + xs.length) * 4 ≤ 140737488355328 by omega)
  have O1 := Lib.hid o1
  have O2 := Lib.hid o2
  have KB := Lib.hid kB
  have hdad : dad.block < w.heap.size := by
    obtain ⟨a, c, hv, -, -, -, hr⟩ := hd
    simp only [Value.slice.injEq] at hv
    rcases hr with hr | ⟨bb, o, hb, hbl, -⟩
    · omega
    · rw [hb] at hv
      have e : dad = ⟨bb, o, none⟩ := by have := hv.1; injection this
      rw [e]; exact hbl
  have pO := o1
  have p0 := pO.c 0; have pf0 := pO.f 0; have p1 := pO.c 1; have pf1 := pO.f 1; have p2 := pO.c 2; have pf2 := pO.f 2; have p3 := pO.c 3; have pf3 := pO.f 3; have p4 := pO.c 4; have pf4 := pO.f 4; have p5 := pO.c 5; have pf5 := pO.f 5; have p6 := pO.c 6; have pf6 := pO.f 6; have p7 := pO.c 7; have pf7 := pO.f 7
  (try simp only [List.getD_cons_zero, List.getD_cons_succ] at p0 p1 p2 p3 p4 p5 p6 p7)
  clear pO
  have r1 := set_same
  have r2 := set_off
  have r3 := set_blk
  clear ht1 hd1 htl hdl htr hdr hta hda ht hd o1 o2 kB
  go_enter Try.func40, Try.ntmps40
  go_upto_region 1 with fail
  generalize ((w.alloc (.cells #[.slice (some tad) ts.length tc, I f, I b, I d, I al, .slice (some dad) xs.length dc, .slice none 0 0, .slice none 0 0] 43)).alloc (.cells #[.slice none 0 0, I 0, I 0, I 0, I 0, .slice none 0 0, .slice none 0 0, .slice none 0 0] 43)) = WB at *
  go_wp2_with
    (first
      | (at_builtin
         refine wpList_append_own _ rfl _ _ 22 rfl WB.heap.size 137 i0 (.agg #[.int .i64 0, .int .i64 0]) 2 16 Try.underlying22 hi hz0 hz1 hz2 rfl (by decide) _ 0 [] rfl (World.ownsRow_nil _ _ _ _) tad _ _ (ts.flatMap AStep.cells) rfl HTL.out HTN.out hone c3 c4.out (Nat.le_refl _) ?_
         intro v1 w1 hown1 hgrow1 _
         have k1 := below_none hgrow1
         rw [Nat.zero_add, List.nil_append] at hown1
         obtain ⟨g1, q1, rfl, hg1, hg1'⟩ := owns_pos hown1 h1
         have O1a := Lib.hid (O1.out.below k1)
         have O2a := Lib.hid (O2.out.below k1)
         have K1 := Lib.hid (KB.out.trans (k1.mono KB.out.size))
         have HD2 := Lib.hid (((HD1.out.below k1).set (z := w.heap.size) (j := 0) (fun a n c e => by injection e with e; injection e with e; subst e; omega) (.slice (some ⟨g1, 0, none⟩) ts.length q1)).news)
         have HS1 := Lib.hid (Sl.of_owns hown1 (by omega))
         have hg1s : w.heap.size + 2 ≤ g1 := by omega
         have hs1 : w.heap.size + 2 ≤ w1.heap.size := by omega
         have pO := O1a.out
         have p0 := pO.c 0; have pf0 := pO.f 0; have p1 := pO.c 1; have pf1 := pO.f 1; have p2 := pO.c 2; have pf2 := pO.f 2; have p3 := pO.c 3; have pf3 := pO.f 3; have p4 := pO.c 4; have pf4 := pO.f 4; have p5 := pO.c 5; have pf5 := pO.f 5; have p6 := pO.c 6; have pf6 := pO.f 6; have p7 := pO.c 7; have pf7 := pO.f 7
         (try simp only [List.getD_cons_zero, List.getD_cons_succ] at p0 p1 p2 p3 p4 p5 p6 p7)
         clear pO
         clear hgrow1 k1 hown1 HTN HTL)
      | (at_builtin
         refine wpList_append_own _ rfl _ _ 37 rfl (w.heap.size + 2) 103 j0 (.int .u32 0) 1 4 Try.underlying37 hj hy0 hy1 hy2 rfl (by decide) _ 0 [] rfl (World.ownsRow_nil _ _ _ _) dad _ _ (xs.map U32) rfl HDL.out HD2.out done c5 c6.out (by simp [World.setCell]; exact hs1) ?_
         intro v2 w3 hown2 hgrow2 _
         have k3 := below_none hgrow2
         rw [Nat.zero_add, List.nil_append] at hown2
         obtain ⟨g2, q2, rfl, hg2, hg2'⟩ := owns_pos hown2 h3
         have O1b := Lib.hid ((O1a.out.set 0 (.slice (some ⟨g1, 0, none⟩) ts.length q1)).below k3)
         have O2b := Lib.hid ((O2a.out.other (a := ⟨w.heap.size, 0, none⟩) (by simp) (.slice (some ⟨g1, 0, none⟩) ts.length q1)).below k3)
         have K3 := Lib.hid ((K1.out.setCell (p := ⟨w.heap.size, 0, none⟩) (by simp) (.slice (some ⟨g1, 0, none⟩) ts.length q1)).trans (k3.mono (by simp [World.setCell]; omega)))
         have HS1b := Lib.hid ((HS1.out.set (z := w.heap.size) (j := 0) (Far.lit (by omega)) (.slice (some ⟨g1, 0, none⟩) ts.length q1)).below k3)
         have HS2 := Lib.hid (Sl.of_owns hown2 (by omega))
         have hF1 := Far.lit (z := w.heap.size) (g := g1) (o := 0) (n := ts.length) (c := q1) (by omega)
         have hF2 := Far.lit (z := w.heap.size + 1) (g := g1) (o := 0) (n := ts.length) (c := q1) (by omega)
         have hF3 := Far.lit (z := w.heap.size) (g := g2) (o := 0) (n := xs.length) (c := q2) (by omega)
         have hF4 := Far.lit (z := w.heap.size + 1) (g := g2) (o := 0) (n := xs.length) (c := q2) (by omega)
         have pO := O1b.out
         have p0 := pO.c 0; have pf0 := pO.f 0; have p1 := pO.c 1; have pf1 := pO.f 1; have p2 := pO.c 2; have pf2 := pO.f 2; have p3 := pO.c 3; have pf3 := pO.f 3; have p4 := pO.c 4; have pf4 := pO.f 4; have p5 := pO.c 5; have pf5 := pO.f 5; have p6 := pO.c 6; have pf6 := pO.f 6; have p7 := pO.c 7; have pf7 := pO.f 7
         (try simp only [List.getD_cons_zero, List.getD_cons_succ] at p0 p1 p2 p3 p4 p5 p6 p7)
         clear pO
         have zO := O2b.out
         have z0 := zO.c 0; have zf0 := zO.f 0; have z1 := zO.c 1; have zf1 := zO.f 1; have z2 := zO.c 2; have zf2 := zO.f 2; have z3 := zO.c 3; have zf3 := zO.f 3; have z4 := zO.c 4; have zf4 := zO.f 4; have z5 := zO.c 5; have zf5 := zO.f 5; have z6 := zO.c 6; have zf6 := zO.f 6; have z7 := zO.c 7; have zf7 := zO.f 7
         (try simp only [List.getD_cons_zero, List.getD_cons_succ] at z0 z1 z2 z3 z4 z5 z6 z7)
         clear zO
         simp only [List.set_cons_zero] at p0
         clear hgrow2 k3 hown2 HDL HD1 HD2 HS1 O1a O2a O1 O2))
  go_loopw [3, 25] (fun v i wr => v = .slice none 0 0 ∧ i = I 0 ∧ Hid (Own wr w.heap.size [.slice (some ⟨g1, 0, none⟩) ts.length q1, I f, I b, I d, I al, .slice (some ⟨g2, 0, none⟩) xs.length q2, .slice none 0 0, .slice none 0 0]) ∧ Hid (Own wr (w.heap.size + 1) [.slice none 0 0, I 0, I 0, I 0, I 0, .slice none 0 0, .slice none 0 0, .slice none 0 0]) ∧ Hid (Sl wr (.slice (some ⟨g1, 0, none⟩) ts.length q1) 2 ts.length (ts.flatMap AStep.cells)) ∧ Hid (Sl wr (.slice (some ⟨g2, 0, none⟩) xs.length q2) 1 xs.length (xs.map U32)) ∧ Below w.heap.size w wr) (fun _ _ _ => 0)
  case atStart =>
    refine ⟨rfl, rfl, ?_, ?_, ?_, ?_, ?_⟩
    · exact ((O1b.out.set 5 (.slice (some ⟨g2, 0, none⟩) xs.length q2)).set 6 (.slice none 0 0))
    · exact ((O2b.out.other (a := ⟨w.heap.size, 5, none⟩) (by simp) (.slice (some ⟨g2, 0, none⟩) xs.length q2)).other (a := ⟨w.heap.size, 6, none⟩) (by simp) (.slice none 0 0))
    · exact (HS1b.out.set hF1 (j := 5) (.slice (some ⟨g2, 0, none⟩) xs.length q2)).set hF1 (j := 6) (.slice none 0 0)
    · exact (HS2.out.set hF3 (j := 5) (.slice (some ⟨g2, 0, none⟩) xs.length q2)).set hF3 (j := 6) (.slice none 0 0)
    · exact (K3.out.setCell (p := ⟨w.heap.size, 5, none⟩) (by simp) (.slice (some ⟨g2, 0, none⟩) xs.length q2)).setCell (p := ⟨w.heap.size, 6, none⟩) (by simp) (.slice none 0 0)
  case round =>
    obtain ⟨rfl, rfl, oA, oB, HS7, HS8, kk⟩ := hrel
    clear p0 p1 p2 p3 p4 p5 p6 p7 pf0 pf1 pf2 pf3 pf4 pf5 pf6 pf7 z0 z1 z2 z3 z4 z5 z6 z7 zf0 zf1 zf2 zf3 zf4 zf5 zf6 zf7
    have pO := oA.out
    have p0 := pO.c 0; have pf0 := pO.f 0; have p1 := pO.c 1; have pf1 := pO.f 1; have p2 := pO.c 2; have pf2 := pO.f 2; have p3 := pO.c 3; have pf3 := pO.f 3; have p4 := pO.c 4; have pf4 := pO.f 4; have p5 := pO.c 5; have pf5 := pO.f 5; have p6 := pO.c 6; have pf6 := pO.f 6; have p7 := pO.c 7; have pf7 := pO.f 7
    (try simp only [List.getD_cons_zero, List.getD_cons_succ] at p0 p1 p2 p3 p4 p5 p6 p7)
    clear pO
    have zO := oB.out
    have z0 := zO.c 0; have zf0 := zO.f 0; have z1 := zO.c 1; have zf1 := zO.f 1; have z2 := zO.c 2; have zf2 := zO.f 2; have z3 := zO.c 3; have zf3 := zO.f 3; have z4 := zO.c 4; have zf4 := zO.f 4; have z5 := zO.c 5; have zf5 := zO.f 5; have z6 := zO.c 6; have zf6 := zO.f 6; have z7 := zO.c 7; have zf7 := zO.f 7
    (try simp only [List.getD_cons_zero, List.getD_cons_succ] at z0 z1 z2 z3 z4 z5 z6 z7)
    clear zO
    have HT := Lib.hid hF1
    have HD := Lib.hid hF2
    have HU := Lib.hid hF3
    have HV := Lib.hid hF4
    clear hF1 hF2 hF3 hF4
    go_wp2
    exact bodyPost_ret (v := .agg #[.slice (some ⟨g1, 0, none⟩) ts.length q1, I f, I b, I d, I al, .slice (some ⟨g2, 0, none⟩) xs.length q2, .slice none 0 0, .slice none 0 0]) (by simp [results, Try.results40, go_sem, *]; try omega) rfl (CloneP.intro (by repeat first | with_reducible exact HS7.out | with_reducible refine Sl.set ?_ HT.out _ | with_reducible refine Sl.set ?_ HD.out _) (by repeat first | with_reducible exact HS8.out | with_reducible refine Sl.set ?_ HU.out _ | with_reducible refine Sl.set ?_ HV.out _) (FarB.lit (by omega)) (FarB.lit (by omega)) below_autor)
end Go.Proofs.Ytenoigmkhlnfoaa
