/- cents.Deal -/
import Derived.Test.YtdjgcenjonegjaaDealC
import Derived.Test.YtdjgcenjonegjaaOwn
import Derived.Lib.OwnBridge
import Derived.Lib.AppendIntMem
namespace Go.Proofs.Ytdjgcenjonegjaa
open Go.RowKit Go.Shelf Go.Lib Go.Sort
set_option maxRecDepth 20000

theorem infoIntD : (Try.prog.info? 3).map (fun i => (i.zero, i.size, i.bytes)) = some (some (.int .i64 0), 1, 8) := by kernel_rfl

/-- the first k of a list's elements, behind them blank ones -/
def mixI (l : List Int) (k n : Nat) : List Int := l.take k ++ List.replicate (n - k) 0
theorem mixI_len (l : List Int) (k n : Nat) (hl : l.length = n) (hk : k ≤ n) : (mixI l k n).length = n := by unfold mixI; rw [List.length_append, List.length_take, List.length_replicate]; omega
theorem mixI_set (l : List Int) (k n : Nat) (hl : l.length = n) (hk : k < n) : (mixI l k n).set k (l.getD k 0) = mixI l (k + 1) n := by
  have m1 : min k l.length = k := by omega
  have m2 : min (k + 1) l.length = k + 1 := by omega
  apply List.ext_getElem?
  intro i
  unfold mixI
  rw [List.getElem?_set, List.getElem?_append, List.getElem?_append, List.length_append, List.length_take, List.length_take, List.length_replicate, List.getElem?_take, List.getElem?_take, List.getElem?_replicate, List.getElem?_replicate, List.getD_eq_getElem?_getD, m1, m2]
  by_cases c : k = i
  · subst c
    rw [if_pos rfl, if_pos (by omega), if_pos (by omega), if_pos (by omega), List.getElem?_eq_getElem (by omega)]; rfl
  · rw [if_neg c]
    by_cases c2 : i < k
    · have c3 : i < k + 1 := by omega
      simp only [c2, c3, if_true]
    · have c3 : ¬ i < k + 1 := by omega
      simp only [c2, c3, if_false]
      by_cases c4 : i < n
      · rw [if_pos (by omega), if_pos (by omega)]
      · rw [if_neg (by omega), if_neg (by omega)]
theorem mixI_all (l : List Int) (n : Nat) (hl : l.length = n) : mixI l n n = l := by unfold mixI; rw [Nat.sub_self, List.take_of_length_le (by omega)]; simp
theorem mixM {W : World} {g k n : Nat} {l : List Int} {x : Int} (h : Own W g ((mixI l k n).map I)) (hl : l.length = n) (hk : k < n) (hx : l.getD k 0 = x) : Own (W.setCell ⟨g, k, none⟩ (I x)) g ((mixI l (k + 1) n).map I) := by
  have := h.set k (I x)
  rw [← hx, ← List.map_set, mixI_set l k n hl hk] at this
  rw [← hx]; exact this
def idxL (n : Nat) : List Int := (List.range n).map (fun (i : Nat) => (i : Int))
theorem idxL_len (n : Nat) : (idxL n).length = n := by simp [idxL]
theorem idxL_get (n k : Nat) (hk : k < n) : (idxL n).getD k 0 = (k : Int) := by
  unfold idxL
  rw [List.getD_eq_getElem?_getD, List.getElem?_map, List.getElem?_range hk]; rfl
theorem baseL_get (T A : Int) (ws : List Int) (k : Nat) (hk : k < ws.length) : (baseL T A ws).getD k 0 = T * ws.getD k 0 / A := by
  unfold baseL
  rw [List.getD_eq_getElem?_getD, List.getElem?_map, List.getD_eq_getElem?_getD, List.getElem?_eq_getElem hk]; rfl
theorem sum_take_succ (ws : List Int) (k : Nat) (hk : k < ws.length) : (ws.take (k + 1)).sum = (ws.take k).sum + ws.getD k 0 := by
  rw [List.take_add_one, List.sum_append, List.getElem?_eq_getElem hk, List.getD_eq_getElem?_getD, List.getElem?_eq_getElem hk]; simp
theorem take_inW {ws : List Int} (h : ws.all inW = true) (k : Nat) : (ws.take k).all inW = true := by
  rw [List.all_eq_true] at *
  intro x hx
  exact h x (List.mem_of_mem_take hx)

theorem Own.at0 {w : World} {g : Nat} {x : Value} {l : List Value} (h : Own w g (x :: l)) : w.cell? ⟨g, 0, none⟩ = some x := by simpa using h.cell 0 (by simp)
theorem sort_below {α : Type} [Inhabited α] (enc : α → Value) (w : World) (blk q : Nat) (d : Array α) (os : Array Obj) (B : Nat) (h1 : B ≤ blk) (h2 : B ≤ w.heap.size) : Below B w (sortWorld enc w blk 0 q d os) := by
  have k := below_putRow (enc := enc) (q := q) (d := d) (Below.refl B w) h1
  have k2 := Go.Lib.below_grow B (putRow enc (Sort.ahead w q) blk 0 d) (by rw [size_putRow]; exact h2) 0 os
  exact k.trans k2
theorem Own.sorted {α : Type} [Inhabited α] {enc : α → Value} {w : World} {g blk q : Nat} {d : Array α} {os : Array Obj} {cs : List Value} (h : Own w g cs) (hne : g ≠ blk) : Own (sortWorld enc w blk 0 q d os) g cs := by
  have hg := h.lt
  obtain ⟨cur, e, h, hc⟩ := h
  refine ⟨cur, e, ?_, hc⟩
  unfold sortWorld grow putRow mapBlock
  show ((w.heap.modify blk _) ++ os)[g]? = _
  rw [Array.getElem?_append, if_pos (by simpa using hg), Array.getElem?_modify, if_neg (Ne.symm hne)]
  exact h

/- the start of each walk -/

set_option maxHeartbeats 4000000 in
theorem Deal_good (v : Value) (T : Int) (ws : List Int) (w : World) (h : Sl w v 1 ws.length (ws.map I)) (hn1 : 1 ≤ ws.length) (hn2 : ws.length ≤ 50) (hTin : inB T 0 1000000000000 = true) (hws : ws.all inW = true) (hz : 0 < ws.sum) :
    Calls Try.prog 5 #[I T, v] w (GrewSl2 1 ws.length ((dealL T ws).map I) 0 w) := by
  obtain ⟨a, cap, rfl, hn', hl, h0, h⟩ := h
  obtain ⟨b, off, rfl, hb, hc⟩ := h.resolve_left (by omega)
  have OT := ((Own.new (w := w) (g := w.heap.size) (by rfl) [I T] 3).alloc (.cells #[.slice (some ⟨b, off, none⟩) ws.length cap] 22)).alloc (.cells #[I 0] 3)
  have OW := (Own.new (w := (w.alloc (.cells #[I T] 3))) (g := w.heap.size + 1) (by simp) [.slice (some ⟨b, off, none⟩) ws.length cap] 22).alloc (.cells #[I 0] 3)
  have OA := Own.new (w := ((w.alloc (.cells #[I T] 3)).alloc (.cells #[.slice (some ⟨b, off, none⟩) ws.length cap] 22))) (g := w.heap.size + 2) (by simp) [I 0] 3
  have bx0 := boxed_below w (.cells #[I T] 3)
  have bx1 := bx0.alloc bx0.size (.cells #[.slice (some ⟨b, off, none⟩) ws.length cap] 22)
  have KB := bx1.alloc bx1.size (.cells #[I 0] 3)
  clear bx0 bx1
  have n1 : (1 : Int) ≤ (ws.length : Int) := by omega
  have n2 : (ws.length : Int) ≤ 50 := by omega
  have hin : inB (ws.length : Int) 1 50 = true := inB_true.2 ⟨n1, n2⟩
  clear h h0 hl hn'
  have HW := Lib.hid hws
  have hx := Lib.hid (fun k => all_get hws k)
  obtain ⟨T0, T1⟩ := inB_true.1 hTin
  obtain ⟨i0, hi, hz0, hz1, hz2⟩ := info_parts infoIntD
  clear hws
  go_enter Try.func5, Try.ntmps5
  go_wp2_with (go_at_call 8; refine (within_any _ _ _ _).mono ?_; rintro e w' ⟨rfl, rfl⟩)
  go_loopw [7, 27] (fun s7 s27 wr => ∃ k : Nat, k ≤ ws.length ∧ s7 = .bool false ∧ s27 = I k ∧ Own wr w.heap.size [I T] ∧ Own wr (w.heap.size + 1) [.slice (some ⟨b, off, none⟩) ws.length cap] ∧ Own wr (w.heap.size + 2) [I (ws.take k).sum] ∧ Below w.heap.size w wr) (fun _ i _ => ws.length - (intOf i).toNat)
  case atStart => exact ⟨0, Nat.zero_le _, by simp [hTin], rfl, OT, OW, OA, KB⟩
  case round =>
    clear OT OW OA KB
    obtain ⟨k, hk, rfl, rfl, OT, OW, OA, KB⟩ := hrel
    have sb := sum_bd (take_inW HW.out k)
    rw [List.length_take, Nat.min_eq_left hk] at sb
    obtain ⟨s0, s1⟩ := sb
    have hsz := OA.lt
    by_cases hlt : k < ws.length
    · have e0 := (KB.cell (p := ⟨b, off + k, none⟩) hb).trans (hc k (by simpa using hlt))
      rw [getD_map' _ _ hlt] at e0
      obtain ⟨x0, x1⟩ := hx.out k
      have hs := Lib.hid (sum_take_succ ws k hlt)
      have j0 : (0 : Int) ≤ (k : Int) := by omega
      have j1 : (k : Int) < (ws.length : Int) := by omega
      have QT := Lib.hid OT
      have QW := Lib.hid OW
      have QA := Lib.hid OA
      have aO := OA
      have a0 := aO.cell 0 (by simp)
      have af0 := aO.frozen 0
      simp only [Nat.zero_add, List.getD_cons_zero] at a0
      clear aO
      clear hc OT OW OA
      generalize ws.getD k 0 = x at *
      have hxin : inB x 0 1000000 = true := inB_true.2 ⟨x0, x1⟩
      generalize (ws.take k).sum = S at *
      go_wp2_with (go_at_call 8; refine (within_any _ _ _ _).mono ?_; rintro e w' ⟨rfl, rfl⟩)
      refine ⟨⟨k + 1, by omega, rfl, by go_num, QT.out.other (by show w.heap.size + 2 ≠ w.heap.size; omega) _, QW.out.other (by show w.heap.size + 2 ≠ w.heap.size + 1; omega) _, ?_, KB.setCell (by show w.heap.size ≤ w.heap.size + 2; omega) _⟩, by simp [intOf]; omega⟩
      rw [hs.out]
      exact QA.out.set 0 _
    · have hkn : k = ws.length := by omega
      subst hkn
      rw [List.take_length] at OA
      have hzz : ¬ ws.sum = 0 := by omega
      have hge : (ws.length : Int) ≤ (ws.length : Int) := Int.le_refl _
      clear s0 s1 hn2
      have QT := Lib.hid OT
      have QW := Lib.hid OW
      have QA := Lib.hid OA
      have aO := OA
      have a0 := aO.cell 0 (by simp)
      have af0 := aO.frozen 0
      simp only [Nat.zero_add, List.getD_cons_zero] at a0
      clear aO
      have tO := OT
      have t0 := tO.cell 0 (by simp)
      have tf0 := tO.frozen 0
      simp only [Nat.zero_add, List.getD_cons_zero] at t0
      clear tO
      have yO := OW
      have y0 := yO.cell 0 (by simp)
      have yf0 := yO.frozen 0
      simp only [Nat.zero_add, List.getD_cons_zero] at y0
      clear yO
      clear OT OW OA
      have hmix : mixI (baseL T ws.sum ws) 0 ws.length = List.replicate ws.length 0 := by unfold mixI; simp
      have hmix2 : mixI (idxL ws.length) 0 ws.length = List.replicate ws.length 0 := by unfold mixI; simp
      have HM := Lib.hid (And.intro hmix hmix2)
      clear hmix hmix2
      go_wp2_with (first
        | (refine wpList_make_full _ rfl (.tmp 47) (.tmp 47) 22 rfl wr.heap.size 3 i0 (.int .i64 0) 1 Try.underlying22 hi hz0 hz1 .i64 .i64 _ _ ws.length rfl rfl rfl rfl (by rw [hz2]; omega) (by unfold maxLen; omega) (Nat.le_refl _) ?_; intro w4 hown hgrow; have hb4 := Below.grown (B := wr.heap.size) (Below.refl _ wr) hgrow (Nat.le_refl _) (fun k hk => by cases hk); have KB4 := KB.trans (hb4.mono KB.size); have OO := Lib.hid (Own.of_owns hown); have y4 : w4.cell? ⟨w.heap.size + 1, 0, none⟩ = some (.slice (some ⟨b, off, none⟩) ws.length cap) := (hb4.cell (p := ⟨w.heap.size + 1, 0, none⟩) (by show w.heap.size + 1 < _; omega)).trans y0; have QT4 := Lib.hid (QT.out.below hb4); have QW4 := Lib.hid (QW.out.below hb4); have QA4 := Lib.hid (QA.out.below hb4); clear hown hgrow y0 t0 a0 af0 tf0 yf0 QT QW QA)
        | (refine wpList_make_full _ rfl (.tmp 50) (.tmp 50) 22 rfl w4.heap.size 3 i0 (.int .i64 0) 1 Try.underlying22 hi hz0 hz1 .i64 .i64 _ _ ws.length rfl rfl rfl rfl (by rw [hz2]; omega) (by unfold maxLen; omega) (Nat.le_refl _) ?_; intro w5 hown hgrow; have hb5 := Below.grown (B := w4.heap.size) (Below.refl _ w4) hgrow (Nat.le_refl _) (fun k hk => by cases hk); have KB5 := KB4.trans (hb5.mono KB4.size); have OR := Lib.hid (Own.of_owns hown); have OT5 := QT4.out.below hb5; have OW5 := QW4.out.below hb5; have OA5 := QA4.out.below hb5; have OO5 := Lib.hid (OO.out.below hb5); have y5 := OW5.cell 0 (by simp); have t5 := OT5.cell 0 (by simp); have QT5 := Lib.hid OT5; have QW5 := Lib.hid OW5; have QA5 := Lib.hid OA5; simp only [Nat.zero_add, List.getD_cons_zero] at y5 t5; clear hown hgrow OT5 OW5 OA5 y4 QT4 QW4 QA4))
      have hlO : wr.heap.size < w4.heap.size := OO.out.lt
      have em : (madeCells (Value.int IntKind.i64 0).cells (ws.length * 1)).toList = List.replicate ws.length (I 0) := made_one (I 0) ws.length
      have PO : Own w5 wr.heap.size ((mixI (baseL T ws.sum ws) 0 ws.length).map I) := by
        have := OO5.out
        rwa [em, ← List.map_replicate, ← HM.out.1] at this
      have PR : Own w5 w4.heap.size ((mixI (idxL ws.length) 0 ws.length).map I) := by
        have := OR.out
        rwa [em, ← List.map_replicate, ← HM.out.2] at this
      have PT := QT5.out
      have PW := QW5.out
      have PA := QA5.out
      clear HM em OO5 OR QT5 QW5 QA5 y5 t5 OO hb5 hb4 KB4 KB hk hlt hge i0 hi hz0 hz1 hz2
      generalize hgO : wr.heap.size = gO at *
      generalize hgR : w4.heap.size = gR at *
      clear hgO hgR
      go_loopw [12, 55] (fun s12 s55 wr => ∃ k : Nat, k ≤ ws.length ∧ s12 = I (leftI T ws.sum ws k) ∧ s55 = I k ∧ Own wr w.heap.size [I T] ∧ Own wr (w.heap.size + 1) [.slice (some ⟨b, off, none⟩) ws.length cap] ∧ Own wr (w.heap.size + 2) [I ws.sum] ∧ Own wr gO ((mixI (baseL T ws.sum ws) k ws.length).map I) ∧ Own wr gR ((mixI (idxL ws.length) k ws.length).map I) ∧ Below w.heap.size w wr) (fun _ i _ => ws.length - (intOf i).toNat)
      case atStart => exact ⟨0, Nat.zero_le _, by simp [leftI, baseL], rfl, PT, PW, PA, PO, PR, KB5⟩
      case round =>
        clear PT PW PA PO PR KB5
        obtain ⟨k, hk, rfl, rfl, OT, OW, OA, OO, OR, KB⟩ := hrel
        have hAle := Lib.hid (fun k => And.intro (hx.out k).1 (le_sum HW.out k))
        by_cases hlt : k < ws.length
        · have e0 := (KB.cell (p := ⟨b, off + k, none⟩) hb).trans (hc k (by simpa using hlt))
          rw [getD_map' _ _ hlt] at e0
          obtain ⟨x0, x1⟩ := hx.out k
          have xs := le_sum HW.out k
          have lb := leftI_bd (A := ws.sum) (T := T) (ws := ws) ⟨T0, T1⟩ hz hAle.out k hk
          have hs := Lib.hid (leftI_succ (T := T) (A := ws.sum) hlt)
          have hbd := base_bd (T := T) (A := ws.sum) (w := ws.getD k 0) ⟨T0, T1⟩ hz ⟨x0, xs⟩
          have hge := baseL_get T ws.sum ws k hlt
          unfold baseI at hbd hs
          have SO := Lib.hid (fun W (h : Own W gO ((mixI (baseL T ws.sum ws) k ws.length).map I)) => mixM h (baseL_len _ _ _) hlt hge)
          have SR := Lib.hid (fun W (h : Own W gR ((mixI (idxL ws.length) k ws.length).map I)) => mixM h (idxL_len _) hlt (idxL_get _ _ hlt))
          have j0 : (0 : Int) ≤ (k : Int) := by omega
          have j1 : (k : Int) < (ws.length : Int) := by omega
          have o0 := OO.cell k (by rw [List.length_map, mixI_len _ _ _ (baseL_len _ _ _) hk]; exact hlt)
          have q0 := OR.cell k (by rw [List.length_map, mixI_len _ _ _ (idxL_len _) hk]; exact hlt)
          have of0 := OO.frozen k
          have qf0 := OR.frozen k
          rw [Nat.zero_add] at o0 q0
          have QO := Lib.hid OO
          have QR := Lib.hid OR
          have QT := Lib.hid OT
          have QW := Lib.hid OW
          have QA := Lib.hid OA
          have aO := OA
          have a0 := aO.cell 0 (by simp)
          have af0 := aO.frozen 0
          simp only [Nat.zero_add, List.getD_cons_zero] at a0
          clear aO
          have tO := OT
          have t0 := tO.cell 0 (by simp)
          have tf0 := tO.frozen 0
          simp only [Nat.zero_add, List.getD_cons_zero] at t0
          clear tO
          clear hc OT OW OA OO OR hge hAle
          generalize List.getD (List.map I (mixI (baseL T ws.sum ws) k ws.length)) k undef = uo at *
          generalize List.getD (List.map I (mixI (idxL ws.length) k ws.length)) k undef = uq at *
          generalize ws.getD k 0 = x at *
          have SN := Lib.hid (rfl : ws.sum = ws.sum)
          have m0 : 0 ≤ T * x := Int.mul_nonneg T0 x0
          have m1 : T * x ≤ 1000000000000 * 1000000 := Int.mul_le_mul T1 x1 x0 (by omega)
          have ht : Int.tdiv (T * x) ws.sum = T * x / ws.sum := Int.tdiv_eq_ediv_of_nonneg m0
          obtain ⟨l0, l1⟩ := lb
          obtain ⟨d0, d1⟩ := hbd
          have c1 : (ws.sum == 0) = false := by simp; omega
          have c2 : ¬ ws.sum = 0 := by omega
          have nOR : ¬ gO = gR := by omega
          have nRO : ¬ gR = gO := by omega
          have nTO : ¬ gO = w.heap.size := by omega
          have nAO : ¬ gO = w.heap.size + 2 := by omega
          generalize hL : leftI T ws.sum ws k = L at *
          generalize hL1 : leftI T ws.sum ws (k + 1) = L1 at *
          generalize ws.sum = A at *
          go_wp2_with fail
          refine ⟨⟨k + 1, by omega, eI (by rw [hL1, hs.out]), by go_num, (QT.out.other (by show gO ≠ w.heap.size; omega) _).other (by show gR ≠ w.heap.size; omega) _, (QW.out.other (by show gO ≠ w.heap.size + 1; omega) _).other (by show gR ≠ w.heap.size + 1; omega) _, (QA.out.other (by show gO ≠ w.heap.size + 2; omega) _).other (by show gR ≠ w.heap.size + 2; omega) _, (SO.out _ QO.out).other (by show gR ≠ gO; omega) _, SR.out _ (QR.out.other (by show gO ≠ gR; omega) _), (KB.setCell (by show w.heap.size ≤ gO; omega) _).setCell (by show w.heap.size ≤ gR; omega) _⟩, by simp [intOf]; omega⟩
        · obtain rfl : k = ws.length := by omega
          rw [mixI_all _ _ (baseL_len _ _ _)] at OO
          rw [mixI_all _ _ (idxL_len _)] at OR
          obtain ⟨lb0, lb1⟩ := left_bd (T := T) (ws := ws) hz
          obtain ⟨L, hL⟩ : ∃ L : Nat, leftI T ws.sum ws ws.length = (L : Int) := ⟨(leftI T ws.sum ws ws.length).toNat, by omega⟩
          have hdl : dealL T ws = bumps (baseL T ws.sum ws) ((ordO (cutI T ws.sum ws) ws.length).take L) := by unfold dealL; rw [hL]; rfl
          have hLn : L ≤ ws.length := by omega
          have l0 : (0 : Int) ≤ (L : Int) := by omega
          have l1 : (L : Int) ≤ (ws.length : Int) := by omega
          obtain ⟨m, hm⟩ : ∃ m, ws.length = m + 1 := ⟨ws.length - 1, by omega⟩
          have C := Lib.hid (fun W gC oc (hCut : CutM W w.heap.size (w.heap.size + 1) (w.heap.size + 2) gC b off cap T ws.sum ws) hb hH h1 h2 h3 h4 h5 => SortStable_any m hm hCut ⟨T0, T1⟩ hz HW.out (by omega) gR oc hb hH h1 h2 h3 h4 h5)
          have hbase := Lib.hid (baseL_bd (T := T) (A := ws.sum) (ws := ws) ⟨T0, T1⟩ hz hAle.out)
          have HC := Lib.hid hc
          have HM := Lib.hid hm
          have hOlt := OO.lt
          have hRlt := OR.lt
          have QO := Lib.hid OO
          have QR := Lib.hid OR
          have QT := Lib.hid OT
          have QW := Lib.hid OW
          have QA := Lib.hid OA
          rw [hL]
          have HD := Lib.hid hdl
          clear hc OT OW OA OO OR hAle lb0 lb1 hL hdl hlt hk hm hz hzz
          generalize ws.sum = A at *
          have hst : ∀ (f : Fn) (x y : Array Value) (a : Addr) (m : Mode) (W : World), (store a (.func f x y) m).run Try.prog W = stored Try.prog W a (.func f x y) m := fun f x y a m W => run_store Try.prog W a _ m rfl
          have hcl : ∀ (f : Fn) (x y : Array Value), (Value.func f x y).cells = #[.func f x y] := fun _ _ _ => rfl
          go_wp2_with fail
          have kW := boxed_below wr (.cells #[Value.func (Fn.func 9) #[] #[Value.pointer (some ⟨w.heap.size, 0, none⟩), Value.pointer (some ⟨w.heap.size + 1, 0, none⟩), Value.pointer (some ⟨w.heap.size + 1 + 1, 0, none⟩)]] 30)
          have kc := cell_one wr (Value.func (Fn.func 9) #[] #[Value.pointer (some ⟨w.heap.size, 0, none⟩), Value.pointer (some ⟨w.heap.size + 1, 0, none⟩), Value.pointer (some ⟨w.heap.size + 1 + 1, 0, none⟩)]) 30
          have ks : wr.heap.size < (wr.alloc (.cells #[Value.func (Fn.func 9) #[] #[Value.pointer (some ⟨w.heap.size, 0, none⟩), Value.pointer (some ⟨w.heap.size + 1, 0, none⟩), Value.pointer (some ⟨w.heap.size + 1 + 1, 0, none⟩)]] 30)).heap.size := by simp
          generalize wr.alloc (.cells #[Value.func (Fn.func 9) #[] #[Value.pointer (some ⟨w.heap.size, 0, none⟩), Value.pointer (some ⟨w.heap.size + 1, 0, none⟩), Value.pointer (some ⟨w.heap.size + 1 + 1, 0, none⟩)]] 30) = W6 at *
          have KB6 := KB.trans (kW.mono KB.size)
          have PO := QO.out.below kW
          have PR := QR.out.below kW
          have hn1 := KB.size
          have hb6 : b < w.heap.size := hb
          have cell6 : ∀ j, j < ws.length → W6.cell? ⟨b, off + j, none⟩ = some (I (ws.getD j 0)) := fun j hj => by
            have := (KB6.cell (p := ⟨b, off + j, none⟩) hb).trans (HC.out j (by simpa using hj))
            rwa [getD_map' _ _ hj] at this
          have hCut : CutM W6 w.heap.size (w.heap.size + 1) (w.heap.size + 2) wr.heap.size b off cap T A ws := ⟨(QT.out.below kW).at0, (QW.out.below kW).at0, (QA.out.below kW).at0, kc, cell6⟩
          have hRm : gR < W6.heap.size := by omega
          have hH : Holds (fun x : Fin (m + 1) => Value.int .i64 (x.val : Int)) W6 gR 0 (ordA m) := fun j hj => by
            rw [ordA_size] at hj
            have hjn : j < ws.length := by rw [HM.out]; exact hj
            refine ⟨?_, PR.frozen _⟩
            rw [ordA_get m j hj]
            have := PR.cell j (by rw [List.length_map, idxL_len]; exact hjn)
            rw [getD_map' _ _ (by rw [idxL_len]; exact hjn), idxL_get _ _ hjn] at this
            exact this
          refine (C.out W6 wr.heap.size ws.length hCut hRm hH ⟨by omega, by omega⟩ ⟨by omega, by omega⟩ ⟨by omega, by omega⟩ ⟨by omega, by omega⟩ ⟨by omega, by omega⟩).mono ?_
          rintro e w7 ⟨rfl, d, q, os, hds, hO, hw7⟩
          have hH7 := (show SW (fun x : Fin (m + 1) => Value.int .i64 (x.val : Int)) W6 gR 0 d w7 from ⟨q, os, hw7⟩).holds hRm hH (by rw [hds, ordA_size])
          have PO7 : Own w7 gO ((baseL T A ws).map I) := by rw [hw7]; exact PO.sorted (by omega)
          have KB7 : RowKit.Below w.heap.size w w7 := by rw [hw7]; exact KB6.trans (sort_below _ _ _ _ _ _ _ (by omega) (by omega))
          have hR7 : gR < w7.heap.size := by
            have := (sort_below (fun x : Fin (m + 1) => Value.int .i64 (x.val : Int)) W6 gR q d os gR (Nat.le_refl _) (by omega)).size
            have h2 := (show SW (fun x : Fin (m + 1) => Value.int .i64 (x.val : Int)) W6 gR 0 d w7 from ⟨q, os, hw7⟩).le
            omega
          obtain ⟨o, ho⟩ : ∃ o, o = d.toList.map (fun x => x.val) := ⟨_, rfl⟩
          have hOd : Ord (cutI T A ws) ws.length o := by rw [ho]; exact hO
          have hcell : ∀ j, j < ws.length → w7.cell? ⟨gR, j, none⟩ = some (I (o.getD j 0 : Nat)) := fun j hj => by
            have hj' : j < d.size := by rw [hds, ← HM.out]; exact hj
            have := (hH7 j hj').1
            rw [Nat.zero_add] at this
            rw [this, ho, List.getD_eq_getElem?_getD, List.getElem?_map, Array.getElem?_toList, Array.getElem?_eq_getElem hj', getElem!_pos d j hj']; rfl
          have HD2 := Lib.hid (show dealL T ws = bumps (baseL T A ws) (o.take L) by rw [HD.out, hOd.eq])
          have HOd := Lib.hid hOd
          have HCl := Lib.hid hcell
          clear hcell hOd ho hR7 hH7 hw7 hO hds hH hRm hCut cell6 PO PR KB6 kc kW ks C QO QR QT QW QA HC KB hst hcl HD
          go_wp2_with fail
          go_loopw [87] (fun s87 wr => ∃ k : Nat, k ≤ L ∧ s87 = I k ∧ Own wr gO ((bumps (baseL T A ws) (o.take k)).map I) ∧ Hid (∀ j, j < ws.length → wr.cell? ⟨gR, j, none⟩ = some (I (o.getD j 0 : Nat))) ∧ RowKit.Below w.heap.size w wr) (fun i _ => L - (intOf i).toNat)
          case atStart => exact ⟨0, Nat.zero_le _, rfl, by simpa [bumps] using PO7, HCl.out, KB7⟩
          case round =>
            clear PO7 KB7 HCl
            obtain ⟨k, hk, rfl, OO, HCl, KB⟩ := hrel
            have ol := HOd.out.len
            by_cases hlt : k < L
            · have r0 := HCl.out k (by omega)
              have hi : o.getD k 0 < ws.length := by
                rw [List.getD_eq_getElem?_getD, List.getElem?_eq_getElem (by omega)]
                exact (HOd.out.mem _).1 (List.getElem_mem _)
              have hbm := bumps_bd o hbase.out k (by omega) (o.getD k 0)
              have hlen : (bumps (baseL T A ws) (o.take k)).length = ws.length := by rw [bumps_len, baseL_len]
              have o0 := OO.cell (o.getD k 0) (by rw [List.length_map, hlen]; exact hi)
              rw [Nat.zero_add, getD_map' _ _ (by rw [hlen]; exact hi)] at o0
              have of0 := OO.frozen (o.getD k 0)
              have hsn := bumps_snoc (baseL T A ws) o k (by omega)
              have SO := Lib.hid (show ∀ W, Own W gO ((bumps (baseL T A ws) (o.take k)).map I) → Own (W.setCell ⟨gO, o.getD k 0, none⟩ (I ((bumps (baseL T A ws) (o.take k)).getD (o.getD k 0) 0 + 1))) gO ((bumps (baseL T A ws) (o.take (k + 1))).map I) from fun W h => by
                rw [hsn]; unfold bump; rw [List.map_set]; exact h.set _ _)
              have QO := Lib.hid OO
              clear OO hsn hlen
              generalize o.getD k 0 = i at *
              generalize (bumps (baseL T A ws) (o.take k)).getD i 0 = y at *
              obtain ⟨y0, y1⟩ := hbm
              have j0 : (0 : Int) ≤ (k : Int) := by omega
              have j1 : (k : Int) < (L : Int) := by omega
              have j2 : (0 : Int) ≤ (i : Int) := by omega
              have j3 : (i : Int) < (ws.length : Int) := by omega
              go_wp2_with fail
              refine ⟨⟨k + 1, by omega, by go_num, SO.out _ QO.out, (fun j hj => (World.cell?_setCell_other _ _ _ _ (by intro e; simp only [Addr.mk.injEq] at e; omega)).trans (HCl.out j hj)), KB.setCell (by show w.heap.size ≤ gO; omega) _⟩, by simp [intOf]; omega⟩
            · obtain rfl : k = L := by omega
              have j1 : ¬ (k : Int) < (k : Int) := by omega
              go_wp2_with fail
              go_ret2
              refine ⟨_, rfl, ?_, KB⟩
              rw [HD2.out]
              have := OO.sl (sz := 1) (n := ws.length) (cap := ws.length) (by omega) (Nat.le_refl _) (by rw [List.length_map, bumps_len, baseL_len, Nat.mul_one])
              exact this
end Go.Proofs.Ytdjgcenjonegjaa
