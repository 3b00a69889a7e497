/- ref.WorldCopy at a world without meters -/
import Derived.Test.YtenoigmkhlnfoaaWorldC
import Derived.Test.YtenoigmkhlnfoaaElems
namespace Go.Proofs.Ytenoigmkhlnfoaa
set_option linter.unusedSimpArgs false
set_option linter.unusedVariables false
open Go Go.RowKit
set_option maxRecDepth 20000
set_option maxHeartbeats 2000000 in
theorem OracleCopy0_any (w : World) : Calls Try.prog 70 #[.agg #[.slice none 0 0]] w (Grew (.agg #[.slice none 0 0]) w) := by
  have o1 := (Own.new (w := w) (g := w.heap.size) (by rfl) [.slice none 0 0] 40).alloc (.cells #[.slice none 0 0] 40)
  have o2 := Own.new (w := (w.alloc (.cells #[.slice none 0 0] 40))) (g := w.heap.size + 1) (by simp) [.slice none 0 0] 40
  have bx0 := boxed_below w (.cells #[.slice none 0 0] 40)
  have kB := bx0.alloc bx0.size (.cells #[.slice none 0 0] 40)
  clear bx0
  have O1 := Lib.hid o1
  have O2 := Lib.hid o2
  have KB := Lib.hid kB
  clear o1 o2 kB
  go_enter Try.func70, Try.ntmps70
  go_wp2
  go_loopw [3, 4] (fun v i wr => v = .slice none 0 0 ∧ i = I 0 ∧ Hid (Own wr w.heap.size [.slice none 0 0]) ∧ Hid (Own wr (w.heap.size + 1) [.slice none 0 0]) ∧ Below w.heap.size w wr) (fun _ _ _ => 0)
  case atStart => exact ⟨rfl, rfl, O1, O2, KB.out⟩
  case round =>
    obtain ⟨rfl, rfl, p1, p2, hbw⟩ := hrel
    have pO := p1.out
    have p0 := pO.c 0; have pf0 := pO.f 0
    (try simp only [List.getD_cons_zero] at p0)
    clear pO
    have qO := p2.out
    have q0 := qO.c 0; have qf0 := qO.f 0
    (try simp only [List.getD_cons_zero] at q0)
    clear qO
    have r1 := set_same
    clear O1 O2 KB p1 p2
    go_wp2
    exact bodyPost_ret (v := .agg #[.slice none 0 0]) (by simp [results, Try.results70, go_sem, *]; try omega) rfl (Grew.intro rfl below_autor)
set_option maxHeartbeats 8000000 in
theorem WorldCopy0_any (ts : List AStep) (f b d al : Int) (xs : List Int) (tv dv : Value) (w : World) (ht : Sl w tv 2 ts.length (ts.flatMap AStep.cells)) (hd : Sl w dv 1 xs.length (xs.map U32)) (h1 : 0 < ts.length) (h2 : ts.length ≤ 8) (h3 : 0 < xs.length) (h4 : xs.length ≤ 2048) :
    Calls Try.prog 44 #[.agg #[tv, I f, I b, I d, I al, dv, .slice none 0 0, .slice none 0 0]] w (CloneP ts f b d al xs w) := by
  obtain ⟨i0, hi, hz0, hz1, hz2⟩ := info_parts info_steps
  obtain ⟨j0, hj, hy0, hy1, hy2⟩ := info_parts infoU32
  have o1 := (Own.new (w := w) (g := w.heap.size) (by rfl) [tv, I f, I b, I d, I al, dv, .slice none 0 0, .slice none 0 0] 43).alloc (.cells #[.slice none 0 0, I 0, I 0, I 0, I 0, .slice none 0 0, .slice none 0 0, .slice none 0 0] 43)
  have o2 := Own.new (w := (w.alloc (.cells #[tv, I f, I b, I d, I al, dv, .slice none 0 0, .slice none 0 0] 43))) (g := w.heap.size + 1) (by simp) [.slice none 0 0, I 0, I 0, I 0, I 0, .slice none 0 0, .slice none 0 0, .slice none 0 0] 43
  have bx0 := boxed_below w (.cells #[tv, I f, I b, I d, I al, dv, .slice none 0 0, .slice none 0 0] 43)
  have kB := bx0.alloc bx0.size (.cells #[.slice none 0 0, I 0, I 0, I 0, I 0, .slice none 0 0, .slice none 0 0, .slice none 0 0] 43)
  clear bx0
  have ht1 := ht.below kB
  have hd1 := hd.below kB
  have sB : ((w.alloc (.cells #[tv, I f, I b, I d, I al, dv, .slice none 0 0, .slice none 0 0] 43)).alloc (.cells #[.slice none 0 0, I 0, I 0, I 0, I 0, .slice none 0 0, .slice none 0 0, .slice none 0 0] 43)).heap.size = w.heap.size + 2 := by simp
  obtain ⟨ta, tc, rfl, htn, htl, hta, htr⟩ := id ht1
  obtain ⟨da, dc, rfl, hdn, hdl, hda, hdr⟩ := id hd1
  obtain ⟨tb, tof, rfl, htb, htc⟩ := htr.resolve_left (by omega)
  obtain ⟨db, doo, rfl, hdb, hdc⟩ := hdr.resolve_left (by omega)
  have O1 := Lib.hid o1
  have O2 := Lib.hid o2
  have KB := Lib.hid kB
  have hdb' : db < w.heap.size := by
    obtain ⟨a, c, hv, -, -, -, hr⟩ := hd
    simp only [Value.slice.injEq] at hv
    rcases hr with hr | ⟨bb, o, hb, hbl, -⟩
    · omega
    · rw [hb] at hv
      have e : (⟨db, doo, none⟩ : Addr) = ⟨bb, o, none⟩ := by have := hv.1; injection this
      injection e with e1 e2
      omega
  clear ht1 hd1 htl hdl hta hda htr hdr ht hd o1 o2 kB
  go_enter Try.func44, Try.ntmps44
  go_upto_region 1 with fail
  generalize ((w.alloc (.cells #[.slice (some ⟨tb, tof, none⟩) ts.length tc, I f, I b, I d, I al, .slice (some ⟨db, doo, none⟩) xs.length dc, .slice none 0 0, .slice none 0 0] 43)).alloc (.cells #[.slice none 0 0, I 0, I 0, I 0, I 0, .slice none 0 0, .slice none 0 0, .slice none 0 0] 43)) = WB at *
  have HTC := Lib.hid htc
  have HDC := Lib.hid hdc
  clear htc hdc
  have hD0 : Hid (WB.ownsRow WB.heap.size 137 2 (.slice none 0 0) (ts.take 0).length ((ts.take 0).flatMap AStep.cells)) := World.ownsRow_nil _ _ _ _
  go_wp2
  go_loopw [3, 4] (fun v i wr => ∃ k : Nat, k ≤ ts.length ∧ i = I k ∧ Hid (wr.ownsRow WB.heap.size 137 2 v (ts.take k).length ((ts.take k).flatMap AStep.cells)) ∧ Hid (Below WB.heap.size WB wr)) (fun _ i _ => ts.length - (intOf i).toNat)
  case atStart => exact ⟨0, Nat.zero_le _, rfl, hD0, Below.refl _ _⟩
  case round =>
    obtain ⟨k, hk, rfl, hR, hbw⟩ := hrel
    clear hD0
    by_cases hlt : k < ts.length
    · obtain ⟨e0, e1⟩ := elStep htb HTC.out hbw.out k hlt
      have pO := O1.out.below hbw.out
      have p0 := pO.c 0; have pf0 := pO.f 0; have p1 := pO.c 1; have pf1 := pO.f 1; have p2 := pO.c 2; have pf2 := pO.f 2; have p3 := pO.c 3; have pf3 := pO.f 3; have p4 := pO.c 4; have pf4 := pO.f 4; have p5 := pO.c 5; have pf5 := pO.f 5; have p6 := pO.c 6; have pf6 := pO.f 6; have p7 := pO.c 7; have pf7 := pO.f 7
      (try simp only [List.getD_cons_zero, List.getD_cons_succ] at p0 p1 p2 p3 p4 p5 p6 p7)
      clear pO
      have hi0 : (0 : Int) ≤ (k : Int) := by omega
      have hi1 : (k : Int) < (ts.length : Int) := by omega
      have htk := Lib.hid (show ts.take (k + 1) = ts.take k ++ [ts.getD k default] by
        rw [List.take_add_one, List.getElem?_eq_getElem hlt, List.getD_eq_getElem?_getD, List.getElem?_eq_getElem hlt]; rfl)
      have hlk : (ts.take k).length = k := by rw [List.length_take]; omega
      generalize ts.getD k default = p at *
      obtain ⟨y1, y2⟩ := p
      simp only at e0 e1
      have HC := Lib.hid (show (ts.take k).length + 1 ≤ maxLen ∧ ((ts.take k).length + 1) * 16 ≤ 140737488355328 from ⟨by unfold maxLen; omega, by omega⟩)
      have hsz := hbw.out.size
      clear hlk HTC HDC O1 O2 KB
      generalize hnk : (ts.take k).length = nk at *
      go_wp2_with
        (at_builtin
         refine wpList_append_own _ rfl _ _ 22 rfl WB.heap.size 137 i0 (.agg #[.int .i64 0, .int .i64 0]) 2 16 Try.underlying22 hi hz0 hz1 hz2 rfl (by decide) _ _ _ rfl (hR.out.alloc _) ⟨wr.heap.size, 0, none⟩ 1 1 [I y1, I y2] rfl rfl (news_lit _ _ _) (by simp [Value.oneCell']) HC.out.1 HC.out.2 (by simp; omega) ?_
         intro v' w1 hown' hgrow _
         have hrow := hR.out.alloc (.cells #[I y1, I y2] 137)
         have hbel := Lib.hid ((hbw.out.alloc hsz (.cells #[I y1, I y2] 137)).grown hgrow (by simp; omega) (fun j hj => by have := (hrow.lt j hj).1; omega))
         have HR1 := Lib.hid (show w1.ownsRow WB.heap.size 137 2 v' (ts.take (k + 1)).length ((ts.take (k + 1)).flatMap AStep.cells) by
           rw [htk.out, List.length_append, hnk, List.flatMap_append]
           exact hown')
         clear hown' hgrow hrow hR e0 e1)
      exact ⟨⟨k + 1, by omega, by go_num, HR1, hbel⟩, by simp [intOf]; omega⟩
    · have hkl : k = ts.length := by omega
      have hge : (ts.length : Int) ≤ (k : Int) := by omega
      have HRF := hR.out
      rw [hkl, List.take_length] at HRF
      obtain ⟨g1, q1, rfl, hg1, hg1'⟩ := owns_pos HRF h1
      have oA := O1.out.below hbw.out
      have oB := O2.out.below hbw.out
      have K2 := KB.out.trans (hbw.out.mono KB.out.size)
      have hg1s : w.heap.size + 2 ≤ g1 := by omega
      have hwr : w.heap.size + 2 ≤ wr.heap.size := by have := hbw.out.size; omega
      have S1 := (Sl.of_owns HRF (by omega)).set (z := w.heap.size) (j := 0) (Far.lit (by omega)) (.slice (some ⟨g1, 0, none⟩) ts.length q1)
      have oA2 := oA.set 0 (.slice (some ⟨g1, 0, none⟩) ts.length q1)
      have oB2 := oB.other (a := ⟨w.heap.size, 0, none⟩) (by simp) (.slice (some ⟨g1, 0, none⟩) ts.length q1)
      have K3 := K2.setCell (p := ⟨w.heap.size, 0, none⟩) (by simp) (.slice (some ⟨g1, 0, none⟩) ts.length q1)
      have hcell2 : Hid (∀ j, j < (xs.map U32).length → (wr.setCell ⟨w.heap.size, 0, none⟩ (.slice (some ⟨g1, 0, none⟩) ts.length q1)).cell? ⟨db, doo + j, none⟩ = some ((xs.map U32).getD j undef)) := fun j hj => by
        rw [set_blk _ _ _ _ _ _ (by omega)]
        exact (hbw.out.cell (p := ⟨db, doo + j, none⟩) hdb).trans (HDC.out j hj)
      have hdb2 : db < (wr.setCell ⟨w.heap.size, 0, none⟩ (.slice (some ⟨g1, 0, none⟩) ts.length q1)).heap.size := by simp [World.setCell]; omega
      have hs2 : w.heap.size + 2 ≤ (wr.setCell ⟨w.heap.size, 0, none⟩ (.slice (some ⟨g1, 0, none⟩) ts.length q1)).heap.size := by simp [World.setCell]; exact hwr
      simp only [List.set_cons_zero] at oA2
      have OA := Lib.hid oA2
      have OB := Lib.hid oB2
      have HS1 := Lib.hid S1
      have HK3 := Lib.hid K3
      have pO := oA
      have p0 := pO.c 0; have pf0 := pO.f 0; have p1 := pO.c 1; have pf1 := pO.f 1; have p2 := pO.c 2; have pf2 := pO.f 2; have p3 := pO.c 3; have pf3 := pO.f 3; have p4 := pO.c 4; have pf4 := pO.f 4; have p5 := pO.c 5; have pf5 := pO.f 5; have p6 := pO.c 6; have pf6 := pO.f 6; have p7 := pO.c 7; have pf7 := pO.f 7
      (try simp only [List.getD_cons_zero, List.getD_cons_succ] at p0 p1 p2 p3 p4 p5 p6 p7)
      clear pO
      clear hR hbw HTC HDC O1 O2 KB oA oB K2 S1 oA2 oB2 K3 HRF hwr
      go_upto_region 9 with fail
      generalize wr.setCell ⟨w.heap.size, 0, none⟩ (.slice (some ⟨g1, 0, none⟩) ts.length q1) = W2 at *
      clear p0 p1 p2 p3 p4 p5 p6 p7 pf0 pf1 pf2 pf3 pf4 pf5 pf6 pf7
      clear hge hkl hk
      have hD0 : Hid (W2.ownsRow W2.heap.size 103 1 (.slice none 0 0) (xs.take 0).length ((xs.take 0).map U32)) := World.ownsRow_nil _ _ _ _
      go_loopw [5, 6] (fun v i wr => ∃ k : Nat, k ≤ xs.length ∧ i = I k ∧ Hid (wr.ownsRow W2.heap.size 103 1 v (xs.take k).length ((xs.take k).map U32)) ∧ Hid (Below W2.heap.size W2 wr)) (fun _ i _ => xs.length - (intOf i).toNat)
      case atStart => exact ⟨0, Nat.zero_le _, rfl, hD0, Below.refl _ _⟩
      case round =>
        obtain ⟨k, hk, rfl, hR, hbw⟩ := hrel
        clear hD0
        by_cases hlt : k < xs.length
        · have e0 := (hbw.out.cell (p := ⟨db, doo + k, none⟩) hdb2).trans (hcell2.out k (by simpa using hlt))
          rw [getD_map' _ _ hlt] at e0
          have pO := OA.out.below hbw.out
          have p0 := pO.c 0; have pf0 := pO.f 0; have p1 := pO.c 1; have pf1 := pO.f 1; have p2 := pO.c 2; have pf2 := pO.f 2; have p3 := pO.c 3; have pf3 := pO.f 3; have p4 := pO.c 4; have pf4 := pO.f 4; have p5 := pO.c 5; have pf5 := pO.f 5; have p6 := pO.c 6; have pf6 := pO.f 6; have p7 := pO.c 7; have pf7 := pO.f 7
          (try simp only [List.getD_cons_zero, List.getD_cons_succ] at p0 p1 p2 p3 p4 p5 p6 p7)
          clear pO
          have hi0 : (0 : Int) ≤ (k : Int) := by omega
          have hi1 : (k : Int) < (xs.length : Int) := by omega
          have htk := Lib.hid (show xs.take (k + 1) = xs.take k ++ [xs.getD k 0] by
            rw [List.take_add_one, List.getElem?_eq_getElem hlt, List.getD_eq_getElem?_getD, List.getElem?_eq_getElem hlt]; rfl)
          have hlk : (xs.take k).length = k := by rw [List.length_take]; omega
          generalize xs.getD k 0 = y at *
          have HC := Lib.hid (show (xs.take k).length + 1 ≤ maxLen ∧ ((xs.take k).length + 1) * 4 ≤ 140737488355328 from ⟨by unfold maxLen; omega, by omega⟩)
          have hsz := hbw.out.size
          clear hlk hcell2 OA OB HS1 HK3
          generalize hnk : (xs.take k).length = nk at *
          go_wp2_with
            (at_builtin
             refine wpList_append_own _ rfl _ _ 37 rfl W2.heap.size 103 j0 (.int .u32 0) 1 4 Try.underlying37 hj hy0 hy1 hy2 rfl (by decide) _ _ _ rfl (hR.out.alloc _) ⟨wr.heap.size, 0, none⟩ 1 1 [U32 y] rfl rfl (news_lit _ _ _) (by simp [Value.oneCell']) HC.out.1 HC.out.2 (by simp; omega) ?_
             intro v' w1 hown' hgrow _
             have hrow := hR.out.alloc (.cells #[U32 y] 103)
             have hbel := Lib.hid ((hbw.out.alloc hsz (.cells #[U32 y] 103)).grown hgrow (by simp; omega) (fun j hj => by have := (hrow.lt j hj).1; omega))
             have HR1 := Lib.hid (show w1.ownsRow W2.heap.size 103 1 v' (xs.take (k + 1)).length ((xs.take (k + 1)).map U32) by
               rw [htk.out, List.length_append, hnk, List.map_append]
               exact hown')
             clear hown' hgrow hrow hR e0)
          exact ⟨⟨k + 1, by omega, by go_num, HR1, hbel⟩, by simp [intOf]; omega⟩
        · have hkl : k = xs.length := by omega
          have hge : (xs.length : Int) ≤ (k : Int) := by omega
          have HRF := hR.out
          rw [hkl, List.take_length] at HRF
          obtain ⟨g2, q2, rfl, hg2, hg2'⟩ := owns_pos HRF h3
          have hg2s : w.heap.size + 2 ≤ g2 := by omega
          have hF1 := Far.lit (z := w.heap.size) (g := g1) (o := 0) (n := ts.length) (c := q1) (by omega)
          have hF2 := Far.lit (z := w.heap.size + 1) (g := g1) (o := 0) (n := ts.length) (c := q1) (by omega)
          have hF3 := Far.lit (z := w.heap.size) (g := g2) (o := 0) (n := xs.length) (c := q2) (by omega)
          have hF4 := Far.lit (z := w.heap.size + 1) (g := g2) (o := 0) (n := xs.length) (c := q2) (by omega)
          have hwr : w.heap.size + 2 ≤ wr.heap.size := by have := hbw.out.size; omega
          have oA := (OA.out.below hbw.out).set 5 (.slice (some ⟨g2, 0, none⟩) xs.length q2)
          have oB := (OB.out.below hbw.out).other (a := ⟨w.heap.size, 5, none⟩) (by simp) (.slice (some ⟨g2, 0, none⟩) xs.length q2)
          have S1 := ((HS1.out.below hbw.out).set hF1 (j := 5) (.slice (some ⟨g2, 0, none⟩) xs.length q2))
          have S2 := (Sl.of_owns HRF (by omega)).set hF3 (j := 5) (.slice (some ⟨g2, 0, none⟩) xs.length q2)
          have K4 := (HK3.out.trans (hbw.out.mono HK3.out.size)).setCell (p := ⟨w.heap.size, 5, none⟩) (by simp) (.slice (some ⟨g2, 0, none⟩) xs.length q2)
          simp only [List.set_cons_zero, List.set_cons_succ] at oA
          have hs3 : w.heap.size + 2 ≤ (wr.setCell ⟨w.heap.size, 5, none⟩ (.slice (some ⟨g2, 0, none⟩) xs.length q2)).heap.size := by simp [World.setCell]; exact hwr
          have OA3 := Lib.hid oA
          have OB3 := Lib.hid oB
          have HS3 := Lib.hid S1
          have HS4 := Lib.hid S2
          have HK4 := Lib.hid K4
          have pO := OA.out.below hbw.out
          have p0 := pO.c 0; have pf0 := pO.f 0; have p1 := pO.c 1; have pf1 := pO.f 1; have p2 := pO.c 2; have pf2 := pO.f 2; have p3 := pO.c 3; have pf3 := pO.f 3; have p4 := pO.c 4; have pf4 := pO.f 4; have p5 := pO.c 5; have pf5 := pO.f 5; have p6 := pO.c 6; have pf6 := pO.f 6; have p7 := pO.c 7; have pf7 := pO.f 7
          (try simp only [List.getD_cons_zero, List.getD_cons_succ] at p0 p1 p2 p3 p4 p5 p6 p7)
          clear pO
          clear hcell2 OA OB HS1 HK3 oA oB S1 S2 K4 HRF hR hbw hwr
          go_upto_region 13 with fail
          generalize wr.setCell ⟨w.heap.size, 5, none⟩ (.slice (some ⟨g2, 0, none⟩) xs.length q2) = W4 at *
          clear p0 p1 p2 p3 p4 p5 p6 p7 pf0 pf1 pf2 pf3 pf4 pf5 pf6 pf7
          have pO := OA3.out
          have p0 := pO.c 0; have pf0 := pO.f 0; have p1 := pO.c 1; have pf1 := pO.f 1; have p2 := pO.c 2; have pf2 := pO.f 2; have p3 := pO.c 3; have pf3 := pO.f 3; have p4 := pO.c 4; have pf4 := pO.f 4; have p5 := pO.c 5; have pf5 := pO.f 5; have p6 := pO.c 6; have pf6 := pO.f 6; have p7 := pO.c 7; have pf7 := pO.f 7
          (try simp only [List.getD_cons_zero, List.getD_cons_succ] at p0 p1 p2 p3 p4 p5 p6 p7)
          clear pO
          go_wp2_with fail
          refine (OracleCopy0_any _).mono ?_
          rintro e w5 ⟨rfl, k5⟩
          have oA := (OA3.out.below k5)
          have oB := (OB3.out.below k5)
          have HS5 := Lib.hid (HS3.out.below k5)
          have HS6 := Lib.hid (HS4.out.below k5)
          have HK5 := Lib.hid (HK4.out.trans (k5.mono HK4.out.size))
          have OA5 := Lib.hid oA
          have OB5 := Lib.hid oB
          have oA6 := oA.set 6 (.slice none 0 0)
          simp only [List.set_cons_zero, List.set_cons_succ] at oA6
          clear p0 p1 p2 p3 p4 p5 p6 p7 pf0 pf1 pf2 pf3 pf4 pf5 pf6 pf7 k5 OA3 OB3 HS3 HS4 HK4
          have pO := oA
          have p0 := pO.c 0; have pf0 := pO.f 0; have p1 := pO.c 1; have pf1 := pO.f 1; have p2 := pO.c 2; have pf2 := pO.f 2; have p3 := pO.c 3; have pf3 := pO.f 3; have p4 := pO.c 4; have pf4 := pO.f 4; have p5 := pO.c 5; have pf5 := pO.f 5; have p6 := pO.c 6; have pf6 := pO.f 6; have p7 := pO.c 7; have pf7 := pO.f 7
          (try simp only [List.getD_cons_zero, List.getD_cons_succ] at p0 p1 p2 p3 p4 p5 p6 p7)
          clear pO
          have OA6 := Lib.hid oA6
          have OB6 := Lib.hid (oB.other (a := ⟨w.heap.size, 6, none⟩) (by simp) (.slice none 0 0))
          have HS7 := Lib.hid (HS5.out.set hF1 (j := 6) (.slice none 0 0))
          have HS8 := Lib.hid (HS6.out.set hF3 (j := 6) (.slice none 0 0))
          have HK6 := Lib.hid (HK5.out.setCell (p := ⟨w.heap.size, 6, none⟩) (by simp) (.slice none 0 0))
          clear oA oB oA6
          go_upto_region 16 with fail
          generalize w5.setCell ⟨w.heap.size, 6, none⟩ (.slice none 0 0) = W6 at *
          clear p0 p1 p2 p3 p4 p5 p6 p7 pf0 pf1 pf2 pf3 pf4 pf5 pf6 pf7 HS5 HS6 HK5 OA5 OB5 hge hkl hk
          go_loopw [7, 8] (fun v i wr => v = .slice none 0 0 ∧ i = I 0 ∧ wr = W6) (fun _ _ _ => 0)
          case atStart => exact ⟨rfl, rfl, rfl⟩
          case round =>
            obtain ⟨rfl, rfl, rfl⟩ := hrel
            have pO := OA6.out
            have p0 := pO.c 0; have pf0 := pO.f 0; have p1 := pO.c 1; have pf1 := pO.f 1; have p2 := pO.c 2; have pf2 := pO.f 2; have p3 := pO.c 3; have pf3 := pO.f 3; have p4 := pO.c 4; have pf4 := pO.f 4; have p5 := pO.c 5; have pf5 := pO.f 5; have p6 := pO.c 6; have pf6 := pO.f 6; have p7 := pO.c 7; have pf7 := pO.f 7
            (try simp only [List.getD_cons_zero, List.getD_cons_succ] at p0 p1 p2 p3 p4 p5 p6 p7)
            clear pO
            have zO := OB6.out
            have z0 := zO.c 0; have zf0 := zO.f 0; have z1 := zO.c 1; have zf1 := zO.f 1; have z2 := zO.c 2; have zf2 := zO.f 2; have z3 := zO.c 3; have zf3 := zO.f 3; have z4 := zO.c 4; have zf4 := zO.f 4; have z5 := zO.c 5; have zf5 := zO.f 5; have z6 := zO.c 6; have zf6 := zO.f 6; have z7 := zO.c 7; have zf7 := zO.f 7
            (try simp only [List.getD_cons_zero, List.getD_cons_succ] at z0 z1 z2 z3 z4 z5 z6 z7)
            clear zO
            have r1 := set_same
            have r2 := set_off
            have r3 := set_blk
            have kk := HK6.out
            have HT := Lib.hid hF1
            have HD := Lib.hid hF2
            have HU := Lib.hid hF3
            have HV := Lib.hid hF4
            clear hF1 hF2 hF3 hF4
            go_wp2
            exact bodyPost_ret (v := .agg #[.slice (some ⟨g1, 0, none⟩) ts.length q1, I f, I b, I d, I al, .slice (some ⟨g2, 0, none⟩) xs.length q2, .slice none 0 0, .slice none 0 0]) (by simp [results, Try.results44, go_sem, *]; try omega) rfl (CloneP.intro (by repeat first | with_reducible exact HS7.out | with_reducible refine Sl.set ?_ HT.out _ | with_reducible refine Sl.set ?_ HD.out _) (by repeat first | with_reducible exact HS8.out | with_reducible refine Sl.set ?_ HU.out _ | with_reducible refine Sl.set ?_ HV.out _) (FarB.lit (by omega)) (FarB.lit (by omega)) below_autor)
end Go.Proofs.Ytenoigmkhlnfoaa
