/- pocket.moved and the reference's stored: what is written where a meter moves on -/
import Derived.Test.YtclfbpgfnhjfcaaEqMM
import Derived.Test.YtclfbpgfnhjfcaaMeterWords
import Derived.Test.YtclfbpgfnhjfcaaSlotStored
import Derived.Test.YtclfbpgfnhjfcaaDiffers
namespace Go.Proofs.Ytclfbpgfnhjfcaa
open Go.RowKit
set_option maxRecDepth 20000

def movedL (xs : List Int) (m n : MM) : List AWrite := if eqM m n then [] else if wordsE n = 0 then storeL xs (wordsL n) else []
def storedL (xs : List Int) (m n : MM) : List AWrite := if (diffL (wordsL m) (wordsL n)).length = 0 then [] else storeL xs (wordsL n)
theorem words_inj {m n : MM} (hm : m.ok = true) (hn : n.ok = true) (h : wordsL m = wordsL n) : m = n := by
  obtain ⟨m1, m2, m3, m4, m5, m6, m7⟩ := m
  obtain ⟨n1, n2, n3, n4, n5, n6, n7⟩ := n
  rw [wordsL, wordsL, if_pos hm, if_pos hn] at h
  obtain ⟨⟨a1, a2, a3, a4, a5, a6, a7, a8, a9, a10, -⟩, -⟩ := mayM_true.1 (show mayM m1 m2 m3 m4 m5 m6 m7 = true from hm)
  obtain ⟨⟨b1, b2, b3, b4, b5, b6, b7, b8, b9, b10, -⟩, -⟩ := mayM_true.1 (show mayM n1 n2 n3 n4 n5 n6 n7 = true from hn)
  simp only [flagsM, List.cons.injEq, and_true] at h
  obtain ⟨h1, h2, h3, h4, h5⟩ := h
  simp only [MM.mk.injEq]
  refine ⟨by omega, by omega, h1, h3, by omega, by omega, by omega⟩
theorem diffL_nil {xs ys : List Int} (hl : xs.length = ys.length) (h1 : 1 ≤ xs.length) (h2 : xs.length ≤ 2048) : (diffL xs ys).length = 0 ↔ xs = ys := by
  have hok : diffOk xs.length ys.length = true := by
    simp only [diffOk, Bool.and_eq_true, beq_iff_eq, inB_true]; omega
  rw [List.length_eq_zero_iff, diffL, if_pos hok, diffTo, List.filterMap_eq_nil_iff]
  constructor
  · intro h
    apply List.ext_getElem hl
    intro i hi hi'
    have := h i (List.mem_range.2 hi)
    split at this
    · rename_i he
      rw [List.getD_eq_getElem?_getD, List.getD_eq_getElem?_getD, List.getElem?_eq_getElem hi, List.getElem?_eq_getElem hi'] at he
      exact he
    · cases this
  · rintro rfl i _
    simp
theorem words_len {m : MM} (h : m.ok = true) : (wordsL m).length = 5 := by rw [wordsL, if_pos h]; rfl
theorem moved_law {xs : List Int} {m n : MM} (hm : m.ok = true) (hn : n.ok = true) : movedL xs m n = storedL xs m n := by
  have hE : wordsE n = 0 := by rw [wordsE, if_pos hn]
  have hd := diffL_nil (xs := wordsL m) (ys := wordsL n) (by rw [words_len hm, words_len hn]) (by rw [words_len hm]; omega) (by rw [words_len hm]; omega)
  unfold movedL storedL
  by_cases h : m = n
  · subst h
    rw [if_pos (eqM_true.2 rfl), if_pos (hd.2 rfl)]
  · rw [if_neg (fun he => h (eqM_true.1 he)), if_pos hE, if_neg (fun he => h (words_inj hm hn (hd.1 he)))]
set_option maxHeartbeats 2000000 in
theorem moved_any (v : Value) (xs : List Int) (m n : MM) (w : World) (h : Sl w v 1 xs.length (xs.map U32)) (hw : ∀ x ∈ xs, W32 x) (hb : n.b < 18446744073709551616) :
    Calls Try.prog 60 #[v, m.v, n.v] w (GrewSl 2 (movedL xs m n).length ((movedL xs m n).flatMap AWrite.cells) w) := by
  have EQ := fun W => eqlMM_run m n W
  have hg := guardMM
  have W := Lib.hid (fun W => WordsM_any n W hb)
  have S := Lib.hid (fun u W hW hR => Store_any v xs u (wordsL n) W hW hw hR)
  have HM := Lib.hid (show movedL xs m n = if eqM m n then [] else if wordsE n = 0 then storeL xs (wordsL n) else [] from rfl)
  generalize movedL xs m n = L at *
  generalize eqM m n = q at *
  generalize wordsL n = ws at *
  generalize wordsE n = we at *
  generalize storeL xs ws = ls at *
  generalize storeE xs ws = le at *
  obtain ⟨m1, m2, m3, m4, m5, m6, m7⟩ := m
  obtain ⟨n1, n2, n3, n4, n5, n6, n7⟩ := n
  simp only [MM.v] at EQ W
  have kb := (boxed_below w (.cells #[I m1, I m2, I m3, I m4, .int .u64 m5, I m6, I m7] 53)).alloc (by simp) (.cells #[I n1, I n2, I n3, I n4, .int .u64 n5, I n6, I n7] 53)
  have hS := h.below kb
  obtain ⟨a, cap, rfl, -⟩ := id h
  cases q
  · by_cases he : we = 0
    · subst he
      have hL := HM.out
      simp only [Bool.false_eq_true, if_false, if_true] at hL
      subst hL
      clear HM
      go_enter Try.func60, Try.ntmps60
      go_wp2_with fail
      refine (W.out _).mono ?_
      rintro e w1 ⟨u, rfl, hu, k1⟩
      have hS1 := hS.below k1
      have k := kb.trans (k1.mono kb.size)
      clear kb k1 hS
      go_wp2_with fail
      refine (S.out _ _ hS1 hu).mono ?_
      rintro e w2 ⟨r, rfl, hr, k2⟩
      go_wp2
      go_ret
      exact ⟨_, rfl, hr, k.trans (k2.mono k.size)⟩
    · have hL := HM.out
      simp only [Bool.false_eq_true, if_false, if_neg he] at hL
      subst hL
      have hb1 : (we != 0) = true := by simp [he]
      clear HM
      go_enter Try.func60, Try.ntmps60
      go_wp2_with fail
      refine (W.out _).mono ?_
      rintro e w1 ⟨u, rfl, hu, k1⟩
      go_wp2
      go_ret
      exact ⟨_, rfl, Sl.nil _ _, kb.trans (k1.mono kb.size)⟩
  · have hL := HM.out
    simp only [if_true] at hL
    subst hL
    clear HM
    go_enter Try.func60, Try.ntmps60
    go_wp2
    go_ret
    exact ⟨_, rfl, Sl.nil _ _, kb⟩
set_option maxHeartbeats 2000000 in
theorem stored_any (v : Value) (xs : List Int) (m n : MM) (w : World) (h : Sl w v 1 xs.length (xs.map U32)) (hw : ∀ x ∈ xs, W32 x) (ha : m.b < 18446744073709551616) (hb : n.b < 18446744073709551616) :
    Calls Try.prog 62 #[v, m.v, n.v] w (GrewSl 2 (storedL xs m n).length ((storedL xs m n).flatMap AWrite.cells) w) := by
  have WA := Lib.hid (fun W => MeterWorded_any m W ha)
  have W := Lib.hid (fun W => MeterWorded_any n W hb)
  have S := Lib.hid (fun u W hW hR => SlotStored_any v xs u (wordsL n) W hW hw hR)
  have D := Lib.hid (fun u1 u2 W h1 h2 => Differs_any u1 u2 (wordsL m) (wordsL n) W h1 h2)
  have HM := Lib.hid (show storedL xs m n = if (diffL (wordsL m) (wordsL n)).length = 0 then [] else storeL xs (wordsL n) from rfl)
  generalize storedL xs m n = L at *
  generalize wordsL n = ws at *
  generalize wordsE n = we at *
  generalize wordsL m = wa at *
  generalize wordsE m = wf at *
  generalize storeL xs ws = ls at *
  generalize storeE xs ws = le at *
  generalize diffL wa ws = dl at *
  generalize diffE wa.length ws.length = de at *
  obtain ⟨m1, m2, m3, m4, m5, m6, m7⟩ := m
  obtain ⟨n1, n2, n3, n4, n5, n6, n7⟩ := n
  simp only [MM.v] at W WA
  have kz := boxed_below w (.cells #[I m1, I m2, I m3, I m4, .int .u64 m5, I m6, I m7] 53)
  have kb := kz.alloc (by simp) (.cells #[I n1, I n2, I n3, I n4, .int .u64 n5, I n6, I n7] 53)
  have on := Own.new (w := w.alloc (.cells #[I m1, I m2, I m3, I m4, .int .u64 m5, I m6, I m7] 53)) (g := w.heap.size + 1) (by simp) [I n1, I n2, I n3, I n4, .int .u64 n5, I n6, I n7] 53
  have hS := h.below kb
  obtain ⟨a, cap, rfl, -⟩ := id h
  go_enter Try.func62, Try.ntmps62
  go_wp2_with fail
  refine (WA.out _).mono ?_
  rintro e w1 ⟨u, rfl, hu, k1⟩
  have hS1 := hS.below k1
  have zO := on.below k1
  have z0 := zO.cell 0 (by simp)
  have zf0 := zO.frozen 0
  have z1 := zO.cell 1 (by simp)
  have zf1 := zO.frozen 1
  have z2 := zO.cell 2 (by simp)
  have zf2 := zO.frozen 2
  have z3 := zO.cell 3 (by simp)
  have zf3 := zO.frozen 3
  have z4 := zO.cell 4 (by simp)
  have zf4 := zO.frozen 4
  have z5 := zO.cell 5 (by simp)
  have zf5 := zO.frozen 5
  have z6 := zO.cell 6 (by simp)
  have zf6 := zO.frozen 6
  simp only [Nat.zero_add, List.getD_cons_zero, List.getD_cons_succ] at z0 z1 z2 z3 z4 z5 z6
  clear zO
  have k := kb.trans (k1.mono kb.size)
  clear kz kb k1 hS on
  go_wp2_with fail
  refine (W.out _).mono ?_
  rintro e w2 ⟨u2, rfl, hu2, k2⟩
  have hS2 := hS1.below k2
  have hu' := hu.below k2
  have kk := k.trans (k2.mono k.size)
  clear k k2 hS1 hu z0 z1 z2 z3 z4 z5 z6 zf0 zf1 zf2 zf3 zf4 zf5 zf6
  go_wp2_with fail
  refine (D.out _ _ _ hu' hu2).mono ?_
  rintro e w3 ⟨d, rfl, hd, k3⟩
  obtain ⟨ad, dcap, rfl, -⟩ := id hd
  have hS3 := hS2.below k3
  have hu3 := hu2.below k3
  have k4 := kk.trans (k3.mono kk.size)
  clear kk k3 hS2 hu2 hu' hd
  by_cases hz : dl.length = 0
  · have hL := HM.out
    rw [if_pos hz] at hL
    subst hL
    clear HM
    have hz' : (dl.length : Int) = 0 := by omega
    go_wp2
    go_ret
    exact ⟨_, rfl, Sl.nil _ _, k4⟩
  · have hL := HM.out
    rw [if_neg hz] at hL
    subst hL
    clear HM
    have hz' : ((dl.length : Int) == 0) = false := by rw [beq_eq_false_iff_ne]; omega
    go_wp2_with fail
    refine (S.out _ _ hS3 hu3).mono ?_
    rintro e w5 ⟨r, rfl, hr, k5⟩
    go_wp2
    go_ret
    exact ⟨_, rfl, hr, k4.trans (k5.mono k4.size)⟩
end Go.Proofs.Ytclfbpgfnhjfcaa
