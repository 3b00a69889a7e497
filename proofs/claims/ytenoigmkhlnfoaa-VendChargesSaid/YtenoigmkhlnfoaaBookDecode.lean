/- book.Decode at thirteen words -/
import Derived.Test.YtenoigmkhlnfoaaPk05
namespace Go.Proofs.Ytenoigmkhlnfoaa
set_option linter.unusedSimpArgs false
set_option linter.unusedVariables false
open Go Go.RowKit
set_option maxRecDepth 20000

def DecRel (W : World) (l : List Int) (k : Nat) (wr : World) : Prop := Own wr W.heap.size (mixD l k) ∧ Own wr (W.heap.size + 1) [I 0] ∧ Below W.heap.size W wr
theorem DecRel.next {W wr : World} {l : List Int} {k : Nat} (h : DecRel W l k wr) : DecRel W l (k + 1) (wr.setCell ⟨W.heap.size, k, none⟩ (I (l.getD k 0))) := by
  obtain ⟨h1, h2, h3⟩ := h
  refine ⟨?_, h2.other (by simp) _, h3.setCell (by simp) _⟩
  have := h1.set k (I (l.getD k 0))
  rw [mixD_set] at this
  exact this
def list13 (l : List Int) : Prop := l = [l.getD 0 0, l.getD 1 0, l.getD 2 0, l.getD 3 0, l.getD 4 0, l.getD 5 0, l.getD 6 0, l.getD 7 0, l.getD 8 0, l.getD 9 0, l.getD 10 0, l.getD 11 0, l.getD 12 0]
theorem mixD_full (l : List Int) : mixD l 13 = [I (l.getD 0 0), I (l.getD 1 0), I (l.getD 2 0), I (l.getD 3 0), I (l.getD 4 0), I (l.getD 5 0), I (l.getD 6 0), I (l.getD 7 0), I (l.getD 8 0), I (l.getD 9 0), I (l.getD 10 0), I (l.getD 11 0), I (l.getD 12 0)] := rfl
set_option maxHeartbeats 8000000 in
theorem Decode_no (v : Value) (l : List Int) (w : World) (hlen : l.length = 13) (hw : ∀ k, k < 13 → 0 ≤ l.getD k 0 ∧ l.getD k 0 < 4294967296) (hS : Sl w v 1 13 (l.map U32)) (hb : evL l = false) : Calls Try.prog 72 #[v] w (DecdP l w) := by
  have HE := Lib.hid (show decE l = 5 by unfold decE; rw [if_pos hlen, hb]; rfl)
  have C := Lib.hid (fun W => check_any (l.getD 1 0) (l.getD 2 0) (l.getD 3 0) (l.getD 4 0) (l.getD 5 0) (l.getD 6 0) (l.getD 7 0) (l.getD 8 0) (l.getD 9 0) (l.getD 10 0) (l.getD 11 0) (l.getD 12 0) (l.getD 0 0) W)
  unfold evL at hb
  rw [hb] at C
  clear hb
  have hmf := hmf_any
  have N := Lib.hid (fun W => want_yes 1 W)
  have F := Lib.hid (fun W => fields_any w.heap.size W)
  have HI := Lib.hid (fun k hk W => index13 w.heap.size k hk W)
  obtain ⟨a, cap, rfl, hn, hl, h0, hr⟩ := hS
  obtain ⟨b, off, rfl, hbl, hcl⟩ := hr.resolve_left (by decide)
  have HC : Hid (∀ W, Below w.heap.size w W → ∀ k, k < 13 → W.cell? ⟨b, off + k, none⟩ = some (U32 (l.getD k 0))) := Lib.hid fun W hW k hk => by
    rw [hW.cell (p := ⟨b, off + k, none⟩) hbl, hcl k (by rw [hl]; omega)]
    rw [List.getD_eq_getElem?_getD, List.getElem?_map, List.getD_eq_getElem?_getD]
    have : k < l.length := by omega
    rw [List.getElem?_eq_getElem this]
    rfl
  have HW := Lib.hid hw
  have hO := Own.new (w := w.alloc (.cells z13.toArray 72)) (g := w.heap.size + 1) (by simp) [I 0] 30
  have hV := (Own.new (w := w) rfl z13 72).alloc (.cells #[I 0] 30)
  have kk : Below w.heap.size w ((w.alloc (.cells z13.toArray 72)).alloc (.cells #[I 0] 30)) := (boxed_below w _).alloc (by simp) _
  have HO := Lib.hid hO
  have HV := Lib.hid hV
  have KK := Lib.hid kk
  have HBL := Lib.hid hbl
  clear hO hV kk hl h0 hr hcl hw hbl
  go_enter_defers Try.func72, Try.ntmps72
  go_wp2_with fail
  refine (N.out _).mono ?_
  rintro e w1 ⟨rfl, rfl⟩
  go_wp2_with fail
  refine (F.out _).mono ?_
  rintro e w2 ⟨rfl, k2⟩
  have hD0 : Hid (DecRel w l 0 w2) := ⟨HV.out.below k2, HO.out.below k2, KK.out.trans (k2.mono KK.out.size)⟩
  clear HO HV KK k2 F N
  go_wp2
  go_loopw [4, 5, 12] (fun _ _ i wr => ∃ k : Nat, k ≤ 13 ∧ i = I k ∧ Hid (DecRel w l k wr)) (fun _ _ i _ => 13 - (intOf i).toNat)
  case atStart => exact ⟨0, by decide, rfl, hD0⟩
  case round =>
    obtain ⟨k, hk, rfl, hD⟩ := hrel
    obtain ⟨oV, oO, hbw⟩ := hD.out
    by_cases hlt : k < 13
    · have hix := fun W => HI.out k hlt W
      have hcell := HC.out wr hbw k hlt
      obtain ⟨x0, x1⟩ := HW.out k hlt
      have hnew := Lib.hid hD.out.next
      have gcell := oV.cell k (by simp [mixD]; exact hlt)
      rw [Nat.zero_add] at gcell
      have gfz := oV.frozen k
      generalize (mixD l k).getD k undef = old at *
      generalize l.getD k 0 = x at *
      have hwx : IntKind.i64.wrap x = x := IntWalk.i64_in _ (by omega)
      have hsk : (k : Int) < 13 := by omega
      have hsk0 : (0 : Int) ≤ (k : Int) := by omega
      clear hD oV oO
      go_wp2
      exact ⟨⟨k + 1, by omega, by go_num, hnew⟩, by simp [intOf]; try omega⟩
    · obtain rfl : k = 13 := by omega
      rw [mixD_full] at oV
      have vO := oV
      have vfA := vO.f; have v0 := vO.c0; have v1 := vO.c1; have v2 := vO.c2; have v3 := vO.c3; have v4 := vO.c4; have v5 := vO.c5; have v6 := vO.c6; have v7 := vO.c7; have v8 := vO.c8; have v9 := vO.c9; have v10 := vO.c10; have v11 := vO.c11; have v12 := vO.c12
      clear vO
      clear hD0 hD HC HI HW hlt hk
      generalize hy0 : l.getD 0 0 = y0 at *
      have HY0 := Lib.hid hy0
      clear hy0
      generalize hy1 : l.getD 1 0 = y1 at *
      have HY1 := Lib.hid hy1
      clear hy1
      generalize hy2 : l.getD 2 0 = y2 at *
      have HY2 := Lib.hid hy2
      clear hy2
      generalize hy3 : l.getD 3 0 = y3 at *
      have HY3 := Lib.hid hy3
      clear hy3
      generalize hy4 : l.getD 4 0 = y4 at *
      have HY4 := Lib.hid hy4
      clear hy4
      generalize hy5 : l.getD 5 0 = y5 at *
      have HY5 := Lib.hid hy5
      clear hy5
      generalize hy6 : l.getD 6 0 = y6 at *
      have HY6 := Lib.hid hy6
      clear hy6
      generalize hy7 : l.getD 7 0 = y7 at *
      have HY7 := Lib.hid hy7
      clear hy7
      generalize hy8 : l.getD 8 0 = y8 at *
      have HY8 := Lib.hid hy8
      clear hy8
      generalize hy9 : l.getD 9 0 = y9 at *
      have HY9 := Lib.hid hy9
      clear hy9
      generalize hy10 : l.getD 10 0 = y10 at *
      have HY10 := Lib.hid hy10
      clear hy10
      generalize hy11 : l.getD 11 0 = y11 at *
      have HY11 := Lib.hid hy11
      clear hy11
      generalize hy12 : l.getD 12 0 = y12 at *
      have HY12 := Lib.hid hy12
      clear hy12
      have HV := Lib.hid oV
      have HO := Lib.hid oO
      have HK := Lib.hid hbw
      clear oV oO hbw
      go_wp2_with fail
      refine (C.out _).mono ?_
      rintro e w7 ⟨he, k7⟩
      simp only [Bool.false_eq_true, if_false] at he
      subst he
      have hO := HO.out.below k7
      have hV := HV.out.below k7
      have kk := HK.out.trans (k7.mono HK.out.size)
      clear HO HV HK k7 C v0 v1 v2 v3 v4 v5 v6 v7 v8 v9 v10 v11 v12 vfA
      have hg := hO.lt
      have cO := hO
      have cf0 := cO.f 0; have c0 := cO.c0
      clear cO
      refine leaves_cons (f := 96) (args := #[.pointer (some ⟨w.heap.size + 1, 0, none⟩), .pointer (some ⟨w.heap.size, 0, none⟩)]) (by simp) (by simp [go_sem]) ?_
      refine (dec_pan (w.heap.size + 1) w.heap.size 0 5 _ _ _ _ _ _ _ _ _ _ _ _ _ [] _ (by decide) (by omega) hV hg c0 cf0).mono ?_
      rintro e u' w'' ⟨rfl, rfl, w8, k8, rfl⟩
      rw [if_neg (by decide)]
      have hO8 := ((hO.below k8).set 0 (I 5))
      have hV8 := (hV.below k8).other (a := ⟨w.heap.size + 1, 0, none⟩) (by simp) (I 5)
      have kf := zero13_below (gv := w.heap.size) ((kk.trans (k8.mono kk.size)).setCell (p := ⟨w.heap.size + 1, 0, none⟩) (by simp) (I 5)) (Nat.le_refl _)
      have hO9 := zero13_other hO8 (show w.heap.size ≠ w.heap.size + 1 by omega)
      have hV9 := zero13_own hV8
      generalize zero13 (w8.setCell ⟨w.heap.size + 1, 0, none⟩ (I 5)) w.heap.size = w9 at *
      clear hO8 hV8 k8 c0 cf0
      have cO := hO9
      have cf0 := cO.f 0; have c0 := cO.c0
      clear cO
      have vO := hV9
      have vfA := vO.f; have v0 := vO.c0; have v1 := vO.c1; have v2 := vO.c2; have v3 := vO.c3; have v4 := vO.c4; have v5 := vO.c5; have v6 := vO.c6; have v7 := vO.c7; have v8 := vO.c8; have v9 := vO.c9; have v10 := vO.c10; have v11 := vO.c11; have v12 := vO.c12
      clear vO
      (try simp only [List.set_cons_zero] at c0)
      simp [Leaves, settle, results, Try.results72, go_sem, c0, v0, v1, v2, v3, v4, v5, v6, v7, v8, v9, v10, v11, v12]
      exact DecdP.bad HE.out (by decide) kf
set_option maxHeartbeats 8000000 in
theorem Decode_yes (v : Value) (l : List Int) (w : World) (hlen : l.length = 13) (hw : ∀ k, k < 13 → 0 ≤ l.getD k 0 ∧ l.getD k 0 < 4294967296) (hS : Sl w v 1 13 (l.map U32)) (hb : evL l = true) : Calls Try.prog 72 #[v] w (DecdP l w) := by
  have HE := Lib.hid (show decE l = 0 by unfold decE; rw [if_pos hlen, hb]; rfl)
  have C := Lib.hid (fun W => check_any (l.getD 1 0) (l.getD 2 0) (l.getD 3 0) (l.getD 4 0) (l.getD 5 0) (l.getD 6 0) (l.getD 7 0) (l.getD 8 0) (l.getD 9 0) (l.getD 10 0) (l.getD 11 0) (l.getD 12 0) (l.getD 0 0) W)
  unfold evL at hb
  rw [hb] at C
  clear hb
  have hmf := hmf_any
  have N := Lib.hid (fun W => want_yes 1 W)
  have F := Lib.hid (fun W => fields_any w.heap.size W)
  have HI := Lib.hid (fun k hk W => index13 w.heap.size k hk W)
  obtain ⟨a, cap, rfl, hn, hl, h0, hr⟩ := hS
  obtain ⟨b, off, rfl, hbl, hcl⟩ := hr.resolve_left (by decide)
  have HC : Hid (∀ W, Below w.heap.size w W → ∀ k, k < 13 → W.cell? ⟨b, off + k, none⟩ = some (U32 (l.getD k 0))) := Lib.hid fun W hW k hk => by
    rw [hW.cell (p := ⟨b, off + k, none⟩) hbl, hcl k (by rw [hl]; omega)]
    rw [List.getD_eq_getElem?_getD, List.getElem?_map, List.getD_eq_getElem?_getD]
    have : k < l.length := by omega
    rw [List.getElem?_eq_getElem this]
    rfl
  have HW := Lib.hid hw
  have hO := Own.new (w := w.alloc (.cells z13.toArray 72)) (g := w.heap.size + 1) (by simp) [I 0] 30
  have hV := (Own.new (w := w) rfl z13 72).alloc (.cells #[I 0] 30)
  have kk : Below w.heap.size w ((w.alloc (.cells z13.toArray 72)).alloc (.cells #[I 0] 30)) := (boxed_below w _).alloc (by simp) _
  have HO := Lib.hid hO
  have HV := Lib.hid hV
  have KK := Lib.hid kk
  have HBL := Lib.hid hbl
  clear hO hV kk hl h0 hr hcl hw hbl
  go_enter_defers Try.func72, Try.ntmps72
  go_wp2_with fail
  refine (N.out _).mono ?_
  rintro e w1 ⟨rfl, rfl⟩
  go_wp2_with fail
  refine (F.out _).mono ?_
  rintro e w2 ⟨rfl, k2⟩
  have hD0 : Hid (DecRel w l 0 w2) := ⟨HV.out.below k2, HO.out.below k2, KK.out.trans (k2.mono KK.out.size)⟩
  clear HO HV KK k2 F N
  go_wp2
  go_loopw [4, 5, 12] (fun _ _ i wr => ∃ k : Nat, k ≤ 13 ∧ i = I k ∧ Hid (DecRel w l k wr)) (fun _ _ i _ => 13 - (intOf i).toNat)
  case atStart => exact ⟨0, by decide, rfl, hD0⟩
  case round =>
    obtain ⟨k, hk, rfl, hD⟩ := hrel
    obtain ⟨oV, oO, hbw⟩ := hD.out
    by_cases hlt : k < 13
    · have hix := fun W => HI.out k hlt W
      have hcell := HC.out wr hbw k hlt
      obtain ⟨x0, x1⟩ := HW.out k hlt
      have hnew := Lib.hid hD.out.next
      have gcell := oV.cell k (by simp [mixD]; exact hlt)
      rw [Nat.zero_add] at gcell
      have gfz := oV.frozen k
      generalize (mixD l k).getD k undef = old at *
      generalize l.getD k 0 = x at *
      have hwx : IntKind.i64.wrap x = x := IntWalk.i64_in _ (by omega)
      have hsk : (k : Int) < 13 := by omega
      have hsk0 : (0 : Int) ≤ (k : Int) := by omega
      clear hD oV oO
      go_wp2
      exact ⟨⟨k + 1, by omega, by go_num, hnew⟩, by simp [intOf]; try omega⟩
    · obtain rfl : k = 13 := by omega
      rw [mixD_full] at oV
      have vO := oV
      have vfA := vO.f; have v0 := vO.c0; have v1 := vO.c1; have v2 := vO.c2; have v3 := vO.c3; have v4 := vO.c4; have v5 := vO.c5; have v6 := vO.c6; have v7 := vO.c7; have v8 := vO.c8; have v9 := vO.c9; have v10 := vO.c10; have v11 := vO.c11; have v12 := vO.c12
      clear vO
      clear hD0 hD HC HI HW hlt hk
      generalize hy0 : l.getD 0 0 = y0 at *
      have HY0 := Lib.hid hy0
      clear hy0
      generalize hy1 : l.getD 1 0 = y1 at *
      have HY1 := Lib.hid hy1
      clear hy1
      generalize hy2 : l.getD 2 0 = y2 at *
      have HY2 := Lib.hid hy2
      clear hy2
      generalize hy3 : l.getD 3 0 = y3 at *
      have HY3 := Lib.hid hy3
      clear hy3
      generalize hy4 : l.getD 4 0 = y4 at *
      have HY4 := Lib.hid hy4
      clear hy4
      generalize hy5 : l.getD 5 0 = y5 at *
      have HY5 := Lib.hid hy5
      clear hy5
      generalize hy6 : l.getD 6 0 = y6 at *
      have HY6 := Lib.hid hy6
      clear hy6
      generalize hy7 : l.getD 7 0 = y7 at *
      have HY7 := Lib.hid hy7
      clear hy7
      generalize hy8 : l.getD 8 0 = y8 at *
      have HY8 := Lib.hid hy8
      clear hy8
      generalize hy9 : l.getD 9 0 = y9 at *
      have HY9 := Lib.hid hy9
      clear hy9
      generalize hy10 : l.getD 10 0 = y10 at *
      have HY10 := Lib.hid hy10
      clear hy10
      generalize hy11 : l.getD 11 0 = y11 at *
      have HY11 := Lib.hid hy11
      clear hy11
      generalize hy12 : l.getD 12 0 = y12 at *
      have HY12 := Lib.hid hy12
      clear hy12
      have HV := Lib.hid oV
      have HO := Lib.hid oO
      have HK := Lib.hid hbw
      clear oV oO hbw
      go_wp2_with fail
      refine (C.out _).mono ?_
      rintro e w7 ⟨he, k7⟩
      simp only [if_true] at he
      subst he
      have hO := HO.out.below k7
      have hV := HV.out.below k7
      have kk := HK.out.trans (k7.mono HK.out.size)
      clear HO HV HK k7 C v0 v1 v2 v3 v4 v5 v6 v7 v8 v9 v10 v11 v12 vfA
      have vO := hV
      have vfA := vO.f; have v0 := vO.c0; have v1 := vO.c1; have v2 := vO.c2; have v3 := vO.c3; have v4 := vO.c4; have v5 := vO.c5; have v6 := vO.c6; have v7 := vO.c7; have v8 := vO.c8; have v9 := vO.c9; have v10 := vO.c10; have v11 := vO.c11; have v12 := vO.c12
      clear vO
      have cO := hO
      have cf0 := cO.f 0; have c0 := cO.c0
      clear cO
      have HO := Lib.hid hO
      have HV := Lib.hid hV
      have KK := Lib.hid kk
      have r1 := set_same
      have r2 := set_off
      have r3 := set_blk
      clear hO hV kk
      go_wp2
      refine leaves_cons (f := 96) (args := #[.pointer (some ⟨w.heap.size + 1, 0, none⟩), .pointer (some ⟨w.heap.size, 0, none⟩)]) (by simp) (by simp [go_sem]) ?_
      have oV2 : Own ((((((((((((((w7.setCell ⟨w.heap.size, 0, none⟩ (I y0)).setCell ⟨w.heap.size, 1, none⟩ (I y1)).setCell ⟨w.heap.size, 2, none⟩ (I y2)).setCell ⟨w.heap.size, 3, none⟩ (I y3)).setCell ⟨w.heap.size, 4, none⟩ (I y4)).setCell ⟨w.heap.size, 5, none⟩ (I y5)).setCell ⟨w.heap.size, 6, none⟩ (I y6)).setCell ⟨w.heap.size, 7, none⟩ (I y7)).setCell ⟨w.heap.size, 8, none⟩ (I y8)).setCell ⟨w.heap.size, 9, none⟩ (I y9)).setCell ⟨w.heap.size, 10, none⟩ (I y10)).setCell ⟨w.heap.size, 11, none⟩ (I y11)).setCell ⟨w.heap.size, 12, none⟩ (I y12)).setCell ⟨w.heap.size + 1, 0, none⟩ (I 0)) w.heap.size [I y0, I y1, I y2, I y3, I y4, I y5, I y6, I y7, I y8, I y9, I y10, I y11, I y12] := ((((((((((((((HV.out.set 0 (I y0)).set 1 (I y1)).set 2 (I y2)).set 3 (I y3)).set 4 (I y4)).set 5 (I y5)).set 6 (I y6)).set 7 (I y7)).set 8 (I y8)).set 9 (I y9)).set 10 (I y10)).set 11 (I y11)).set 12 (I y12)).other (a := ⟨w.heap.size + 1, 0, none⟩) (by simp) (I 0))
      have oO2 : Own ((((((((((((((w7.setCell ⟨w.heap.size, 0, none⟩ (I y0)).setCell ⟨w.heap.size, 1, none⟩ (I y1)).setCell ⟨w.heap.size, 2, none⟩ (I y2)).setCell ⟨w.heap.size, 3, none⟩ (I y3)).setCell ⟨w.heap.size, 4, none⟩ (I y4)).setCell ⟨w.heap.size, 5, none⟩ (I y5)).setCell ⟨w.heap.size, 6, none⟩ (I y6)).setCell ⟨w.heap.size, 7, none⟩ (I y7)).setCell ⟨w.heap.size, 8, none⟩ (I y8)).setCell ⟨w.heap.size, 9, none⟩ (I y9)).setCell ⟨w.heap.size, 10, none⟩ (I y10)).setCell ⟨w.heap.size, 11, none⟩ (I y11)).setCell ⟨w.heap.size, 12, none⟩ (I y12)).setCell ⟨w.heap.size + 1, 0, none⟩ (I 0)) (w.heap.size + 1) [I 0] := ((((((((((((((HO.out.other (a := ⟨w.heap.size, 0, none⟩) (by simp) (I y0)).other (a := ⟨w.heap.size, 1, none⟩) (by simp) (I y1)).other (a := ⟨w.heap.size, 2, none⟩) (by simp) (I y2)).other (a := ⟨w.heap.size, 3, none⟩) (by simp) (I y3)).other (a := ⟨w.heap.size, 4, none⟩) (by simp) (I y4)).other (a := ⟨w.heap.size, 5, none⟩) (by simp) (I y5)).other (a := ⟨w.heap.size, 6, none⟩) (by simp) (I y6)).other (a := ⟨w.heap.size, 7, none⟩) (by simp) (I y7)).other (a := ⟨w.heap.size, 8, none⟩) (by simp) (I y8)).other (a := ⟨w.heap.size, 9, none⟩) (by simp) (I y9)).other (a := ⟨w.heap.size, 10, none⟩) (by simp) (I y10)).other (a := ⟨w.heap.size, 11, none⟩) (by simp) (I y11)).other (a := ⟨w.heap.size, 12, none⟩) (by simp) (I y12)).set 0 (I 0))
      have kk2 : Below w.heap.size w ((((((((((((((w7.setCell ⟨w.heap.size, 0, none⟩ (I y0)).setCell ⟨w.heap.size, 1, none⟩ (I y1)).setCell ⟨w.heap.size, 2, none⟩ (I y2)).setCell ⟨w.heap.size, 3, none⟩ (I y3)).setCell ⟨w.heap.size, 4, none⟩ (I y4)).setCell ⟨w.heap.size, 5, none⟩ (I y5)).setCell ⟨w.heap.size, 6, none⟩ (I y6)).setCell ⟨w.heap.size, 7, none⟩ (I y7)).setCell ⟨w.heap.size, 8, none⟩ (I y8)).setCell ⟨w.heap.size, 9, none⟩ (I y9)).setCell ⟨w.heap.size, 10, none⟩ (I y10)).setCell ⟨w.heap.size, 11, none⟩ (I y11)).setCell ⟨w.heap.size, 12, none⟩ (I y12)).setCell ⟨w.heap.size + 1, 0, none⟩ (I 0)) := ((((((((((((((KK.out.setCell (p := ⟨w.heap.size, 0, none⟩) (by simp) (I y0)).setCell (p := ⟨w.heap.size, 1, none⟩) (by simp) (I y1)).setCell (p := ⟨w.heap.size, 2, none⟩) (by simp) (I y2)).setCell (p := ⟨w.heap.size, 3, none⟩) (by simp) (I y3)).setCell (p := ⟨w.heap.size, 4, none⟩) (by simp) (I y4)).setCell (p := ⟨w.heap.size, 5, none⟩) (by simp) (I y5)).setCell (p := ⟨w.heap.size, 6, none⟩) (by simp) (I y6)).setCell (p := ⟨w.heap.size, 7, none⟩) (by simp) (I y7)).setCell (p := ⟨w.heap.size, 8, none⟩) (by simp) (I y8)).setCell (p := ⟨w.heap.size, 9, none⟩) (by simp) (I y9)).setCell (p := ⟨w.heap.size, 10, none⟩) (by simp) (I y10)).setCell (p := ⟨w.heap.size, 11, none⟩) (by simp) (I y11)).setCell (p := ⟨w.heap.size, 12, none⟩) (by simp) (I y12)).setCell (p := ⟨w.heap.size + 1, 0, none⟩) (by simp) (I 0))
      generalize ((((((((((((((w7.setCell ⟨w.heap.size, 0, none⟩ (I y0)).setCell ⟨w.heap.size, 1, none⟩ (I y1)).setCell ⟨w.heap.size, 2, none⟩ (I y2)).setCell ⟨w.heap.size, 3, none⟩ (I y3)).setCell ⟨w.heap.size, 4, none⟩ (I y4)).setCell ⟨w.heap.size, 5, none⟩ (I y5)).setCell ⟨w.heap.size, 6, none⟩ (I y6)).setCell ⟨w.heap.size, 7, none⟩ (I y7)).setCell ⟨w.heap.size, 8, none⟩ (I y8)).setCell ⟨w.heap.size, 9, none⟩ (I y9)).setCell ⟨w.heap.size, 10, none⟩ (I y10)).setCell ⟨w.heap.size, 11, none⟩ (I y11)).setCell ⟨w.heap.size, 12, none⟩ (I y12)).setCell ⟨w.heap.size + 1, 0, none⟩ (I 0)) = w9 at *
      clear HO HV KK r1 r2 r3 c0 cf0 v0 v1 v2 v3 v4 v5 v6 v7 v8 v9 v10 v11 v12 vfA
      have hg := oO2.lt
      have cO := oO2
      have cf0 := cO.f 0; have c0 := cO.c0
      clear cO
      refine (dec_idle (w.heap.size + 1) w.heap.size _ _ _ _ _ _ _ _ _ _ _ _ _ _ (by omega) oV2 hg c0 cf0).mono ?_
      rintro e u' w'' ⟨rfl, rfl, w8, k8, rfl⟩
      rw [if_pos rfl]
      have hO8 := ((oO2.below k8).set 0 (I 0))
      have hV8 := (oV2.below k8).other (a := ⟨w.heap.size + 1, 0, none⟩) (by simp) (I 0)
      have kf := (kk2.trans (k8.mono kk2.size)).setCell (p := ⟨w.heap.size + 1, 0, none⟩) (by simp) (I 0)
      generalize w8.setCell ⟨w.heap.size + 1, 0, none⟩ (I 0) = w10 at *
      clear k8 c0 cf0
      have cO := hO8
      have cf0 := cO.f 0; have c0 := cO.c0
      clear cO
      have vO := hV8
      have vfA := vO.f; have v0 := vO.c0; have v1 := vO.c1; have v2 := vO.c2; have v3 := vO.c3; have v4 := vO.c4; have v5 := vO.c5; have v6 := vO.c6; have v7 := vO.c7; have v8 := vO.c8; have v9 := vO.c9; have v10 := vO.c10; have v11 := vO.c11; have v12 := vO.c12
      clear vO
      (try simp only [List.set_cons_zero] at c0)
      simp [Leaves, settle, results, Try.results72, go_sem, c0, v0, v1, v2, v3, v4, v5, v6, v7, v8, v9, v10, v11, v12]
      have hfin := DecdP.ok HE.out kf
      rw [HY0.out, HY1.out, HY2.out, HY3.out, HY4.out, HY5.out, HY6.out, HY7.out, HY8.out, HY9.out, HY10.out, HY11.out, HY12.out] at hfin
      exact hfin
theorem Decode_any (v : Value) (l : List Int) (w : World) (hw : ∀ x ∈ l, W32 x) (hS : Sl w v 1 l.length (l.map U32)) : Calls Try.prog 72 #[v] w (DecdP l w) := by
  by_cases hlen : l.length = 13
  · have hw' : ∀ k, k < 13 → 0 ≤ l.getD k 0 ∧ l.getD k 0 < 4294967296 := fun k hk => by
      have hk' : k < l.length := by omega
      rw [List.getD_eq_getElem?_getD, List.getElem?_eq_getElem hk']
      have h := hw _ (List.getElem_mem hk')
      unfold W32 at h
      simp only [Option.getD_some]
      omega
    rw [hlen] at hS
    cases hb : evL l
    · exact Decode_no v l w hlen hw' hS hb
    · exact Decode_yes v l w hlen hw' hS hb
  · exact Decode_len v l w hS hlen
end Go.Proofs.Ytenoigmkhlnfoaa
