/- ref.Differs · pocket.moved and the reference's stored: what is written where a meter moves on -/
import Derived.Test.YtmciccnmpoijdaaGreatDoorPk04
import Derived.Test.YtmciccnmpoijdaaGreatDoorApi
import Derived.Test.YtmciccnmpoijdaaGreatDoorPk21
import Derived.Test.YtmciccnmpoijdaaGreatDoorSlotStored
namespace Go.Proofs.YtmciccnmpoijdaaGreatDoor
open Go.RowKit
set_option maxRecDepth 20000
theorem infoWrite : (Tryz.prog.info? 53).map (fun i => (i.zero, i.size, i.bytes)) = some (some (.agg #[.int .i64 0, .int .u32 0]), 2, 16) := by kernel_rfl

def diffOk (n m : Nat) : Bool := inB n 1 2048 && n == m
def diffE (n m : Nat) : Int := if diffOk n m then 0 else 1
def diffTo (xs ys : List Int) (k : Nat) : List AWrite := (List.range k).filterMap fun i => if xs.getD i 0 = ys.getD i 0 then none else some ⟨i, ys.getD i 0⟩
def diffL (xs ys : List Int) : List AWrite := if diffOk xs.length ys.length then diffTo xs ys xs.length else []
theorem diffTo_len (xs ys : List Int) (k : Nat) : (diffTo xs ys k).length ≤ k := by
  unfold diffTo
  exact Nat.le_trans (List.length_filterMap_le _ _) (by simp)
theorem diffTo_eq {xs ys : List Int} {k : Nat} (h : xs.getD k 0 = ys.getD k 0) : diffTo xs ys (k + 1) = diffTo xs ys k := by
  unfold diffTo
  rw [List.range_succ, List.filterMap_append]
  simp only [List.filterMap_cons, List.filterMap_nil, if_pos h, List.append_nil]
theorem diffTo_ne {xs ys : List Int} {k : Nat} (h : xs.getD k 0 ≠ ys.getD k 0) : diffTo xs ys (k + 1) = diffTo xs ys k ++ [⟨k, ys.getD k 0⟩] := by
  unfold diffTo
  rw [List.range_succ, List.filterMap_append]
  simp only [List.filterMap_cons, List.filterMap_nil, if_neg h]

theorem cells_app (l : List AWrite) (x : AWrite) : l.flatMap AWrite.cells ++ [I x.at_, U32 x.word] = (l ++ [x]).flatMap AWrite.cells := by simp [AWrite.cells]

/-- the relation of both loops -/
def DRel (w : World) (xs ys : List Int) (k : Nat) (v : Value) (wr : World) : Prop :=
  wr.ownsRow w.heap.size 53 2 v (diffTo xs ys k).length ((diffTo xs ys k).flatMap AWrite.cells) ∧ Below w.heap.size w wr

theorem Differs_any (v1 v2 : Value) (xs ys : List Int) (w : World) (h1 : Sl w v1 1 xs.length (xs.map U32)) (h2 : Sl w v2 1 ys.length (ys.map U32)) :
    Calls Tryz.prog 53 #[v1, v2] w (GrewSl2 2 (diffL xs ys).length ((diffL xs ys).flatMap AWrite.cells) (diffE xs.length ys.length) w) := by
  obtain ⟨i0, hi, hz0, hz1, hz2⟩ := info_parts infoWrite
  have hf := Lib.hid h1
  obtain ⟨a1, c1, rfl, hn1, _, _, h1⟩ := h1
  obtain ⟨a2, c2, rfl, hn2, _, _, h2⟩ := h2
  by_cases hin : inB xs.length 1 2048 = true
  · obtain ⟨hin1, hin2⟩ := inB_true.1 hin
    by_cases hl : xs.length = ys.length
    · have hok : diffOk xs.length ys.length = true := by simp only [diffOk, hin, Bool.true_and, beq_iff_eq]; exact hl
      have hE : diffE xs.length ys.length = 0 := by simp [diffE, hok]
      have hL : diffL xs ys = diffTo xs ys xs.length := by simp [diffL, hok]
      rw [hE, hL]
      have hb : ((xs.length : Int) != (ys.length : Int)) = false := by simp [hl]
      have hl1 : xs.length ≤ ys.length := by omega
      have hl2 : ys.length ≤ xs.length := by omega
      have Hl := Lib.hid hl
      clear hl hE hL hok
      go_enter Tryz.func53, Tryz.ntmps53
      go_wp2_with (go_at_call 84; refine (In_any _ _ _ _).mono ?_; rintro e w' ⟨rfl, rfl⟩)
      go_loopw [6, 7] (fun v i wr => ∃ k : Nat, k ≤ xs.length ∧ i = I k ∧ Hid (DRel w xs ys k v wr)) (fun _ i _ => xs.length - (intOf i).toNat)
      case atStart => exact ⟨0, Nat.zero_le _, rfl, World.ownsRow_nil _ _ _ _, Below.refl _ _⟩
      case round =>
        obtain ⟨k, hk, rfl, hD⟩ := hrel
        by_cases hlt : k < xs.length
        · obtain ⟨hown, hbw⟩ := hD.out
          have hsz := hbw.size
          have hdl := diffTo_len xs ys k
          obtain ⟨b1, o1, rfl, hb1, hc1⟩ := h1.resolve_left (by omega)
          obtain ⟨b2, o2, rfl, hb2, hc2⟩ := h2.resolve_left (by omega)
          have e1 := (hbw.cell (p := ⟨b1, o1 + k, none⟩) hb1).trans (hc1 k (by simp; omega))
          have e2 := (hbw.cell (p := ⟨b2, o2 + k, none⟩) hb2).trans (hc2 k (by simp; omega))
          rw [getD_map' _ _ (by omega)] at e1
          rw [getD_map' _ _ (by omega)] at e2
          clear hc1 hc2 h1 h2
          have hi0 : (0 : Int) ≤ (k : Int) := by omega
          have hi1 : (k : Int) < (xs.length : Int) := by omega
          have hi2 : (k : Int) < (ys.length : Int) := by omega
          by_cases hv : xs.getD k 0 = ys.getD k 0
          · have hv' : (xs.getD k 0 != ys.getD k 0) = false := by rw [bne_eq_false_iff_eq]; exact hv
            have hs := Lib.hid (diffTo_eq hv)
            clear hv hown hbw
            generalize xs.getD k 0 = x at *
            generalize ys.getD k 0 = y at *
            go_wp2
            go_quiet (fail)
            go_wp2
            exact ⟨⟨k + 1, by omega, by go_num, by unfold Hid DRel; rw [hs.out]; exact ⟨owns_drewN hD.out.1 _, drewN_below hD.out.2 _⟩⟩, by simp [intOf]; omega⟩
          · have hv' : (xs.getD k 0 != ys.getD k 0) = true := by rw [bne_iff_ne]; exact hv
            have hs := Lib.hid (diffTo_ne hv)
            clear hv
            generalize xs.getD k 0 = x at *
            generalize ys.getD k 0 = y at *
            go_wp2
            go_quiet (fail)
            have hown0 := hown
            have hsz0 := hsz
            have hbw0 := hbw
            clear hown hsz hbw hD
            rename_i nq
            have hown := owns_drewN hown0 nq
            have hbw := drewN_below hbw0 nq
            have hsz := hbw.size
            have e2 : (wr.drewN nq).cell? ⟨b2, o2 + k, none⟩ = some (U32 y) := e2
            clear hown0 hsz0 hbw0
            generalize wr.drewN nq = wr2 at *
            go_wp2_with (at_builtin; refine wpList_append_own _ rfl _ _ 28 rfl w.heap.size 53 i0 (.agg #[.int .i64 0, .int .u32 0]) 2 16 Tryz.underlying28 hi hz0 hz1 hz2 rfl (by decide) _ _ _ rfl (hown.alloc _) ⟨wr2.heap.size, 0, none⟩ 1 1 [I k, U32 y] rfl rfl (news_lit _ [I k, U32 y] _) (oneCells_lit rfl) (by unfold maxLen; omega) (by omega) (by simp; omega) ?_; intro v' w1 hown' hgrow _)
            have hbel := grown_below (hbw.alloc hsz _) (hown.alloc _) (Nat.le_refl _) hgrow
            have hD' : Hid (DRel w xs ys (k + 1) v' w1) := by
              refine ⟨?_, hbel⟩
              rw [hs.out, List.length_append, ← cells_app]
              exact hown'
            clear hown hown' hgrow hbel hbw
            go_wp2
            exact ⟨⟨k + 1, by omega, by go_num, hD'⟩, by simp [intOf]; omega⟩
        · have hkm : k = xs.length := by omega
          have hS := Sl.of_owns hD.out.1 (by have := diffTo_len xs ys k; omega)
          have hb' := hD.out.2
          rw [hkm] at hS
          clear hkm hD
          go_wp2
          go_ret2
          exact ⟨_, rfl, hS, hb'⟩
    · have hok : diffOk xs.length ys.length = false := by simp [diffOk, hl]
      have hE : diffE xs.length ys.length = 1 := by simp [diffE, hok]
      have hL : diffL xs ys = [] := by simp [diffL, hok]
      rw [hE, hL]
      have hb : ((xs.length : Int) != (ys.length : Int)) = true := by simp; omega
      clear hl hE hL hok
      go_enter Tryz.func53, Tryz.ntmps53
      go_wp2_with (go_at_call 84; refine (In_any _ _ _ _).mono ?_; rintro e w' ⟨rfl, rfl⟩)
      go_ret2
      exact ⟨_, rfl, Sl.nil _ _, Below.refl _ _⟩
  · have hok : diffOk xs.length ys.length = false := by simp [diffOk, hin]
    have hE : diffE xs.length ys.length = 1 := by simp [diffE, hok]
    have hL : diffL xs ys = [] := by simp [diffL, hok]
    rw [hE, hL]
    simp only [Bool.not_eq_true] at hin
    clear hE hL hok
    go_enter Tryz.func53, Tryz.ntmps53
    go_wp2_with (go_at_call 84; refine (In_any _ _ _ _).mono ?_; rintro e w' ⟨rfl, rfl⟩)
    go_ret2
    exact ⟨_, rfl, Sl.nil _ _, Below.refl _ _⟩
end Go.Proofs.YtmciccnmpoijdaaGreatDoor
namespace Go.Proofs.YtmciccnmpoijdaaGreatDoor
open Go.RowKit
set_option maxRecDepth 20000

def movedL (xs : List Int) (m n : MM) : List AWrite := if eqM m n then [] else if wordsE n = 0 then storeL xs (wordsL n) else []
def storedL (xs : List Int) (m n : MM) : List AWrite := if (diffL (wordsL m) (wordsL n)).length = 0 then [] else storeL xs (wordsL n)
theorem words_inj {m n : MM} (hm : m.ok = true) (hn : n.ok = true) (h : wordsL m = wordsL n) : m = n := by
  obtain ⟨m1, m2, m3, m4, m5, m6, m7⟩ := m
  obtain ⟨n1, n2, n3, n4, n5, n6, n7⟩ := n
  rw [wordsL, wordsL, if_pos hm, if_pos hn] at h
  obtain ⟨⟨a1, a2, a3, a4, a5, a6, a7, a8, a9, a10, -⟩, -⟩ := mayM_true.1 (show mayM m1 m2 m3 m4 m5 m6 m7 = true from hm)
  obtain ⟨⟨b1, b2, b3, b4, b5, b6, b7, b8, b9, b10, -⟩, -⟩ := mayM_true.1 (show mayM n1 n2 n3 n4 n5 n6 n7 = true from hn)
  simp only [flagsM, List.cons.injEq, and_true] at h
  obtain ⟨h1, h2, h3, h4, h5⟩ := h
  simp only [MM.mk.injEq]
  refine ⟨by omega, by omega, h1, h3, by omega, by omega, by omega⟩
theorem diffL_nil {xs ys : List Int} (hl : xs.length = ys.length) (h1 : 1 ≤ xs.length) (h2 : xs.length ≤ 2048) : (diffL xs ys).length = 0 ↔ xs = ys := by
  have hok : diffOk xs.length ys.length = true := by
    simp only [diffOk, Bool.and_eq_true, beq_iff_eq, inB_true]; omega
  rw [List.length_eq_zero_iff, diffL, if_pos hok, diffTo, List.filterMap_eq_nil_iff]
  constructor
  · intro h
    apply List.ext_getElem hl
    intro i hi hi'
    have := h i (List.mem_range.2 hi)
    split at this
    · rename_i he
      rw [List.getD_eq_getElem?_getD, List.getD_eq_getElem?_getD, List.getElem?_eq_getElem hi, List.getElem?_eq_getElem hi'] at he
      exact he
    · cases this
  · rintro rfl i _
    simp
theorem words_len {m : MM} (h : m.ok = true) : (wordsL m).length = 5 := by rw [wordsL, if_pos h]; rfl
theorem moved_law {xs : List Int} {m n : MM} (hm : m.ok = true) (hn : n.ok = true) : movedL xs m n = storedL xs m n := by
  have hE : wordsE n = 0 := by rw [wordsE, if_pos hn]
  have hd := diffL_nil (xs := wordsL m) (ys := wordsL n) (by rw [words_len hm, words_len hn]) (by rw [words_len hm]; omega) (by rw [words_len hm]; omega)
  unfold movedL storedL
  by_cases h : m = n
  · subst h
    rw [if_pos (eqM_true.2 rfl), if_pos (hd.2 rfl)]
  · rw [if_neg (fun he => h (eqM_true.1 he)), if_pos hE, if_neg (fun he => h (words_inj hm hn (hd.1 he)))]
set_option maxHeartbeats 2000000 in
theorem moved_any (v : Value) (xs : List Int) (m n : MM) (w : World) (h : Sl w v 1 xs.length (xs.map U32)) (hw : ∀ x ∈ xs, W32 x) (hb : n.b < 18446744073709551616) :
    Calls Tryz.prog 14 #[v, m.v, n.v] w (GrewSl 2 (movedL xs m n).length ((movedL xs m n).flatMap AWrite.cells) w) := by
  have EQ := fun W => eqlMM_run m n W
  have hg := guardMM
  have W := Lib.hid (fun W => WordsM_any n W hb)
  have S := Lib.hid (fun u W hW hR => Store_any v xs u (wordsL n) W hW hw hR)
  have HM := Lib.hid (show movedL xs m n = if eqM m n then [] else if wordsE n = 0 then storeL xs (wordsL n) else [] from rfl)
  generalize movedL xs m n = L at *
  generalize eqM m n = q at *
  generalize wordsL n = ws at *
  generalize wordsE n = we at *
  generalize storeL xs ws = ls at *
  generalize storeE xs ws = le at *
  obtain ⟨m1, m2, m3, m4, m5, m6, m7⟩ := m
  obtain ⟨n1, n2, n3, n4, n5, n6, n7⟩ := n
  simp only [MM.v] at EQ W
  have kb := (boxed_below w (.cells #[I m1, I m2, I m3, I m4, .int .u64 m5, I m6, I m7] 40)).alloc (by simp) (.cells #[I n1, I n2, I n3, I n4, .int .u64 n5, I n6, I n7] 40)
  have hS := h.below kb
  obtain ⟨a, cap, rfl, -⟩ := id h
  cases q
  · by_cases he : we = 0
    · subst he
      have hL := HM.out
      simp only [Bool.false_eq_true, if_false, if_true] at hL
      subst hL
      clear HM
      go_enter Tryz.func14, Tryz.ntmps14
      go_wp2_with fail
      refine (W.out _).mono ?_
      rintro e w1 ⟨u, rfl, hu, k1⟩
      have hS1 := hS.below k1
      have k := kb.trans (k1.mono kb.size)
      clear kb k1 hS
      go_wp2_with fail
      refine (S.out _ _ hS1 hu).mono ?_
      rintro e w2 ⟨r, rfl, hr, k2⟩
      go_wp2
      go_ret
      exact ⟨_, rfl, hr, k.trans (k2.mono k.size)⟩
    · have hL := HM.out
      simp only [Bool.false_eq_true, if_false, if_neg he] at hL
      subst hL
      have hb1 : (we != 0) = true := by simp [he]
      clear HM
      go_enter Tryz.func14, Tryz.ntmps14
      go_wp2_with fail
      refine (W.out _).mono ?_
      rintro e w1 ⟨u, rfl, hu, k1⟩
      go_wp2
      go_ret
      exact ⟨_, rfl, Sl.nil _ _, kb.trans (k1.mono kb.size)⟩
  · have hL := HM.out
    simp only [if_true] at hL
    subst hL
    clear HM
    go_enter Tryz.func14, Tryz.ntmps14
    go_wp2
    go_ret
    exact ⟨_, rfl, Sl.nil _ _, kb⟩
set_option maxHeartbeats 2000000 in
theorem stored_any (v : Value) (xs : List Int) (m n : MM) (w : World) (h : Sl w v 1 xs.length (xs.map U32)) (hw : ∀ x ∈ xs, W32 x) (ha : m.b < 18446744073709551616) (hb : n.b < 18446744073709551616) :
    Calls Tryz.prog 19 #[v, m.v, n.v] w (GrewSl 2 (storedL xs m n).length ((storedL xs m n).flatMap AWrite.cells) w) := by
  have WA := Lib.hid (fun W => MeterWorded_any m W ha)
  have W := Lib.hid (fun W => MeterWorded_any n W hb)
  have S := Lib.hid (fun u W hW hR => SlotStored_any v xs u (wordsL n) W hW hw hR)
  have D := Lib.hid (fun u1 u2 W h1 h2 => Differs_any u1 u2 (wordsL m) (wordsL n) W h1 h2)
  have HM := Lib.hid (show storedL xs m n = if (diffL (wordsL m) (wordsL n)).length = 0 then [] else storeL xs (wordsL n) from rfl)
  generalize storedL xs m n = L at *
  generalize wordsL n = ws at *
  generalize wordsE n = we at *
  generalize wordsL m = wa at *
  generalize wordsE m = wf at *
  generalize storeL xs ws = ls at *
  generalize storeE xs ws = le at *
  generalize diffL wa ws = dl at *
  generalize diffE wa.length ws.length = de at *
  obtain ⟨m1, m2, m3, m4, m5, m6, m7⟩ := m
  obtain ⟨n1, n2, n3, n4, n5, n6, n7⟩ := n
  simp only [MM.v] at W WA
  have kz := boxed_below w (.cells #[I m1, I m2, I m3, I m4, .int .u64 m5, I m6, I m7] 40)
  have kb := kz.alloc (by simp) (.cells #[I n1, I n2, I n3, I n4, .int .u64 n5, I n6, I n7] 40)
  have on := Own.new (w := w.alloc (.cells #[I m1, I m2, I m3, I m4, .int .u64 m5, I m6, I m7] 40)) (g := w.heap.size + 1) (by simp) [I n1, I n2, I n3, I n4, .int .u64 n5, I n6, I n7] 40
  have hS := h.below kb
  obtain ⟨a, cap, rfl, -⟩ := id h
  go_enter Tryz.func19, Tryz.ntmps19
  go_wp2_with fail
  refine (WA.out _).mono ?_
  rintro e w1 ⟨u, rfl, hu, k1⟩
  have hS1 := hS.below k1
  have zO := on.below k1
  have z0 := zO.cell 0 (by simp)
  have zf0 := zO.frozen 0
  have z1 := zO.cell 1 (by simp)
  have zf1 := zO.frozen 1
  have z2 := zO.cell 2 (by simp)
  have zf2 := zO.frozen 2
  have z3 := zO.cell 3 (by simp)
  have zf3 := zO.frozen 3
  have z4 := zO.cell 4 (by simp)
  have zf4 := zO.frozen 4
  have z5 := zO.cell 5 (by simp)
  have zf5 := zO.frozen 5
  have z6 := zO.cell 6 (by simp)
  have zf6 := zO.frozen 6
  simp only [Nat.zero_add, List.getD_cons_zero, List.getD_cons_succ] at z0 z1 z2 z3 z4 z5 z6
  clear zO
  have k := kb.trans (k1.mono kb.size)
  clear kz kb k1 hS on
  go_wp2_with fail
  refine (W.out _).mono ?_
  rintro e w2 ⟨u2, rfl, hu2, k2⟩
  have hS2 := hS1.below k2
  have hu' := hu.below k2
  have kk := k.trans (k2.mono k.size)
  clear k k2 hS1 hu z0 z1 z2 z3 z4 z5 z6 zf0 zf1 zf2 zf3 zf4 zf5 zf6
  go_wp2_with fail
  refine (D.out _ _ _ hu' hu2).mono ?_
  rintro e w3 ⟨d, rfl, hd, k3⟩
  obtain ⟨ad, dcap, rfl, -⟩ := id hd
  have hS3 := hS2.below k3
  have hu3 := hu2.below k3
  have k4 := kk.trans (k3.mono kk.size)
  clear kk k3 hS2 hu2 hu' hd
  by_cases hz : dl.length = 0
  · have hL := HM.out
    rw [if_pos hz] at hL
    subst hL
    clear HM
    have hz' : (dl.length : Int) = 0 := by omega
    go_wp2
    go_ret
    exact ⟨_, rfl, Sl.nil _ _, k4⟩
  · have hL := HM.out
    rw [if_neg hz] at hL
    subst hL
    clear HM
    have hz' : ((dl.length : Int) == 0) = false := by rw [beq_eq_false_iff_ne]; omega
    go_wp2_with fail
    refine (S.out _ _ hS3 hu3).mono ?_
    rintro e w5 ⟨r, rfl, hr, k5⟩
    go_wp2
    go_ret
    exact ⟨_, rfl, hr, k4.trans (k5.mono k4.size)⟩
end Go.Proofs.YtmciccnmpoijdaaGreatDoor
