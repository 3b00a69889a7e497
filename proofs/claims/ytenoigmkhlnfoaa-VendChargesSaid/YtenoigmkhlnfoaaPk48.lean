/- vend.Load, ref.Loaded · disk.Append and its reference -/
import Derived.Test.YtenoigmkhlnfoaaPk44
import Derived.Test.YtenoigmkhlnfoaaBookOfR
import Derived.Test.YtenoigmkhlnfoaaDiskWalk
import Derived.Test.YtenoigmkhlnfoaaPk06
namespace Go.Proofs.Ytenoigmkhlnfoaa
set_option linter.unusedSimpArgs false
set_option linter.unusedVariables false
open Go Go.RowKit
set_option maxRecDepth 20000
theorem LoadP.no {t : PTerms} {xs : List Int} {w w' : World} {k : Int} (h : loadE t xs = k) (hk : k ≠ 0) (hb : Below w.heap.size w w') : LoadP t xs w (.returned (T2 (.agg #[.slice none 0 0]) (I k))) w' := by
  unfold LoadP
  rw [loadC_none (by rw [h]; exact hk), h]
  exact ⟨_, [], rfl, BookAt.nil _ _, hb⟩
theorem LoadP.yes {t : PTerms} {xs : List Int} {w w' : World} {v : Value} {B : Nat} {ys : List ACust} (h : loadE t xs = 0) (hB : BookAt w' B v (loadC t xs) ys) (hw : w.heap.size ≤ B) (hb : Below w.heap.size w w') : LoadP t xs w (.returned (T2 (.agg #[v]) (I 0))) w' := by
  unfold LoadP
  rw [h]
  exact ⟨_, ys, rfl, hB.mono hw, hb⟩
set_option maxHeartbeats 4000000 in
theorem Load_any (t : PTerms) (tv cv : Value) (xs : List Int) (w : World) (ht : Sl w tv 2 t.ts.length (t.ts.flatMap AStep.cells)) (hc : Sl w cv 1 xs.length (xs.map U32)) (hw : ∀ x ∈ xs, W32 x) :
    Calls Try.prog 19 #[.agg #[tv, I t.f, I t.b, I t.d, I t.al], cv] w (LoadP t xs w) := by
  have oT := (Own.new (w := w) (g := w.heap.size) (by rfl) [tv, I t.f, I t.b, I t.d, I t.al] 24).alloc (.cells #[.slice none 0 0] 29)
  have oZ := Own.new (w := (w.alloc (.cells #[tv, I t.f, I t.b, I t.d, I t.al] 24))) (g := w.heap.size + 1) (by simp) [.slice none 0 0] 29
  have bx0 := boxed_below w (.cells #[tv, I t.f, I t.b, I t.d, I t.al] 24)
  have kB := bx0.alloc bx0.size (.cells #[.slice none 0 0] 29)
  clear bx0
  have P := Lib.hid (open_any t tv cv xs _ (ht.below kB) (hc.below kB) hw)
  have KB := Lib.hid kB
  have OZ := Lib.hid oZ
  have tO := oT
  have tfA := tO.f; have t0 := tO.c0; have t1 := tO.c1; have t2 := tO.c2; have t3 := tO.c3; have t4 := tO.c4
  clear tO
  obtain ⟨a, cap, rfl, -⟩ := hc
  clear hw ht kB oT oZ
  go_enter Try.func19, Try.ntmps19
  go_wp2_with fail
  refine P.out.mono ?_
  rintro e w1 hP
  unfold OpenP at hP
  clear t0 t1 t2 t3 t4 tfA
  by_cases h0 : loadE t xs = 0
  · obtain ⟨sg, bv, ys, rfl, hs, hb, k1⟩ := hP.1 h0
    have oZ1 := OZ.out.below k1
    have kk := KB.out.trans (k1.mono KB.out.size)
    have hsz := KB.out.size
    have HB := Lib.hid hb
    have H0 := Lib.hid h0
    have KK := Lib.hid kk
    have sO := hs
    have sfA := sO.f; have s0 := sO.c0; have s1 := sO.c1; have s2 := sO.c2; have s3 := sO.c3; have s4 := sO.c4; have s5 := sO.c5; have s6 := sO.c6; have s7 := sO.c7
    clear sO
    have zO := oZ1
    have zfA := zO.f; have z0 := zO.c0
    clear zO
    have r1 := set_same
    obtain ⟨ba, bc, rfl⟩ := book_slice hb
    have hB2 := Lib.hid (HB.out.low (z := w.heap.size + 1) (by simp) 0 (.slice ba (loadC t xs).length bc))
    have kk2 := kk.setCell (p := ⟨w.heap.size + 1, 0, none⟩) (by simp) (.slice ba (loadC t xs).length bc)
    clear hP h0 P hs oZ1 k1 hb
    go_wp2
    exact bodyPost_ret (v := T2 (.agg #[.slice ba (loadC t xs).length bc]) (I 0)) (by simp [results, Try.results19, go_sem, *]; try omega) rfl (LoadP.yes H0.out hB2.out hsz kk2)
  · obtain ⟨rfl, k1⟩ := hP.2 h0
    have oZ1 := OZ.out.below k1
    have kk := KB.out.trans (k1.mono KB.out.size)
    have HL := Lib.hid (show loadE t xs = loadE t xs from rfl)
    have H0 := Lib.hid h0
    have hb : (loadE t xs != 0) = true := by simp [h0]
    have r1 := set_same
    have zO := oZ1
    have zfA := zO.f; have z0 := zO.c0
    clear zO
    clear hP P oZ1 k1 h0
    generalize hE : loadE t xs = E at *
    have HE := Lib.hid hE
    clear hE HL
    go_wp2
    exact bodyPost_ret (v := T2 (.agg #[.slice none 0 0]) (I E)) (by simp [results, Try.results19, go_sem, *]; try omega) rfl (LoadP.no HE.out H0.out below_autor)
set_option maxHeartbeats 4000000 in
theorem Loaded_any (t : PTerms) (tv cv : Value) (xs : List Int) (w : World) (ht : Sl w tv 2 t.ts.length (t.ts.flatMap AStep.cells)) (hc : Sl w cv 1 xs.length (xs.map U32)) (hw : ∀ x ∈ xs, W32 x) :
    Calls Try.prog 20 #[.agg #[tv, I t.f, I t.b, I t.d, I t.al], cv] w (LoadP t xs w) := by
  have oT := (Own.new (w := w) (g := w.heap.size) (by rfl) [tv, I t.f, I t.b, I t.d, I t.al] 24).alloc (.cells #[.slice none 0 0] 29)
  have oZ := Own.new (w := (w.alloc (.cells #[tv, I t.f, I t.b, I t.d, I t.al] 24))) (g := w.heap.size + 1) (by simp) [.slice none 0 0] 29
  have bx0 := boxed_below w (.cells #[tv, I t.f, I t.b, I t.d, I t.al] 24)
  have kB := bx0.alloc bx0.size (.cells #[.slice none 0 0] 29)
  clear bx0
  have K := Lib.hid (Kept_any cv xs _ (hc.below kB) hw)
  have OF := Lib.hid (fun lv W h1 h2 => BookOf_any t tv lv (keptL xs) W h1 h2)
  have HT := Lib.hid ht
  have KB := Lib.hid kB
  have OT := Lib.hid oT
  have OZ := Lib.hid oZ
  obtain ⟨a, cap, rfl, -⟩ := hc
  clear hw ht kB oT oZ
  go_enter Try.func20, Try.ntmps20
  go_wp2_with fail
  refine K.out.mono ?_
  rintro e w1 ⟨lv, rfl, hl, k1⟩
  have oZ1 := OZ.out.below k1
  have oT1 := OT.out.below k1
  have kk := KB.out.trans (k1.mono KB.out.size)
  have hsz := kk.size
  by_cases h0 : keptE xs = 0
  · have P := Lib.hid (OF.out lv w1 (HT.out.below kk) hl)
    have H0 := Lib.hid h0
    rw [h0]
    have OZ1 := Lib.hid oZ1
    have KK := Lib.hid kk
    obtain ⟨la, lc, rfl, -⟩ := id hl
    have tO := oT1
    have tfA := tO.f; have t0 := tO.c0; have t1 := tO.c1; have t2 := tO.c2; have t3 := tO.c3; have t4 := tO.c4
    clear tO
    clear hl k1 h0 OF K OT OZ oT1 oZ1 kk
    go_wp2_with fail
    refine P.out.mono ?_
    rintro e w5 ⟨bv, ys, rfl, hb5, k5⟩
    have kk5 := KK.out.trans (k5.mono KK.out.size)
    have oZ5 := OZ1.out.below k5
    have kA := boxed_below w5 (.cells #[bv] 29)
    have oA := Own.new (w := w5) rfl [bv] 29
    have oZ6 := oZ5.below kA
    have hb6 := hb5.below kA
    have kk6 := kk5.trans (kA.mono kk5.size)
    have n6 : ¬ w.heap.size + 1 = w5.heap.size := by have := oZ5.lt; omega
    have n7 : ¬ w5.heap.size = w.heap.size + 1 := by omega
    have hlt : w.heap.size + 1 < w1.heap.size := OZ1.out.lt
    obtain ⟨ba, bc, rfl⟩ := book_slice hb6
    have hB2 := Lib.hid (hb6.low (z := w.heap.size + 1) hlt 0 (.slice ba (bookR t (keptL xs)).2.2.length bc))
    have kk7 := kk6.setCell (p := ⟨w.heap.size + 1, 0, none⟩) (by simp) (.slice ba (bookR t (keptL xs)).2.2.length bc)
    have r1 := set_same
    have r2 := set_off
    have r3 := set_blk
    have zO := oZ6
    have zfA := zO.f; have z0 := zO.c0
    clear zO
    have bO := oA
    have bfA := bO.f; have b0 := bO.c0
    clear bO
    have HC := Lib.hid (show (bookR t (keptL xs)).2.2 = (bookR t (keptL xs)).2.2 from rfl)
    generalize hE : (bookR t (keptL xs)).1 = E at *
    have HE := Lib.hid hE
    generalize (bookR t (keptL xs)).2.1 = pl at *
    generalize hcs : (bookR t (keptL xs)).2.2 = cs at *
    have HCS := Lib.hid hcs
    clear t0 t1 t2 t3 t4 tfA k5 P hb5 oZ5 oZ6 oA kA kk5 kk6 hb6 hE hcs HC
    go_wp2
    exact bodyPost_ret (v := T2 (.agg #[.slice ba cs.length bc]) (I E)) (by simp [results, Try.results20, go_sem, *]; try omega) rfl (LoadP.good H0.out HE.out HCS.out hB2.out hsz kk7)
  · have hb : (keptE xs != 0) = true := by simp [h0]
    have H0 := Lib.hid h0
    have r1 := set_same
    have zO := oZ1
    have zfA := zO.f; have z0 := zO.c0
    clear zO
    clear hl k1 h0 OF K OT OZ oT1 oZ1
    generalize hE : keptE xs = E at *
    have HE := Lib.hid hE
    clear hE
    go_wp2
    exact bodyPost_ret (v := T2 (.agg #[.slice none 0 0]) (I E)) (by simp [results, Try.results20, go_sem, *]; try omega) rfl (LoadP.bad HE.out H0.out below_autor)
end Go.Proofs.Ytenoigmkhlnfoaa
namespace Go.Proofs.Ytenoigmkhlnfoaa
set_option linter.unusedSimpArgs false
set_option linter.unusedVariables false
open Go.RowKit
set_option maxRecDepth 20000
theorem infoWriteD : (Try.prog.info? 110).map (fun i => (i.zero, i.size, i.bytes)) = some (some (.agg #[.int .i64 0, .int .u32 0]), 2, 16) := by kernel_rfl
def putD (a : Int) (rec : List Int) (k : Nat) : List AWrite := (List.range k).map fun (i : Nat) => ⟨a + 1 + i, rec.getD i 0⟩
theorem putD_len (a : Int) (rec : List Int) (k : Nat) : (putD a rec k).length = k := by simp [putD]
theorem putD_succ (a : Int) (rec : List Int) (k : Nat) : putD a rec (k + 1) = putD a rec k ++ [⟨a + 1 + k, rec.getD k 0⟩] := by simp [putD, List.range_succ]
def appE (xs rec : List Int) : Int := if inB rec.length 1 64 then (if tapeE xs = 0 then (if (xs.length : Int) < tapeA xs + 1 + rec.length then 16 else 0) else tapeE xs) else 1
def appL (xs rec : List Int) : List AWrite :=
  if appE xs rec = 0 then putD (tapeA xs) rec rec.length ++ (if tapeA xs + 1 + rec.length < xs.length then [⟨tapeA xs + 1 + rec.length, 0⟩] else []) ++ [⟨tapeA xs, rec.length⟩] else []
def OutD (w : World) (L : List AWrite) (v : Value) (wr : World) : Prop := wr.ownsRow w.heap.size 110 2 v L.length (L.flatMap AWrite.cells) ∧ Below w.heap.size w wr
theorem OutD.push {w wr : World} {L : List AWrite} {v : Value} (x : AWrite) (h : wr.ownsRow w.heap.size 110 2 v (L.length + 1) (L.flatMap AWrite.cells ++ [I x.at_, U32 x.word])) (hb : Below w.heap.size w wr) : OutD w (L ++ [x]) v wr :=
  ⟨by rw [List.length_append, List.flatMap_append]; exact h, hb⟩
theorem tapeA_bd {xs : List Int} (hw : ∀ x ∈ xs, W32 x) : 0 ≤ tapeA xs ∧ tapeA xs ≤ xs.length := by
  have := runT_le hw (xs.length + 1) 0 (Nat.zero_le _)
  unfold tapeA tapeR
  split <;> omega

set_option maxHeartbeats 2000000 in
theorem AppendD_any (v : Value) (xs : List Int) (v2 : Value) (rec : List Int) (w : World) (h : Sl w v 1 xs.length (xs.map U32)) (hw : ∀ x ∈ xs, W32 x) (h2 : Sl w v2 1 rec.length (rec.map U32)) :
    Calls Try.prog 78 #[v, v2] w (GrewSl2 2 (appL xs rec).length ((appL xs rec).flatMap AWrite.cells) (appE xs rec) w) := by
  obtain ⟨i0, hi, hz0, hz1, hz2⟩ := info_parts infoWriteD
  have T := Lib.hid (walk0_any v xs w h hw)
  obtain ⟨t0, t1⟩ := tapeA_bd hw
  have hS := h
  obtain ⟨a, cap, rfl, hn, hl, h0, hr⟩ := h
  obtain ⟨a2, cap2, rfl, hn2, hl2, h02, hr2⟩ := h2
  clear hl h0 hl2 h02 hr
  have HE := Lib.hid (show appE xs rec = if inB rec.length 1 64 then (if tapeE xs = 0 then (if (xs.length : Int) < tapeA xs + 1 + rec.length then 16 else 0) else tapeE xs) else 1 from rfl)
  have HL := Lib.hid (show appL xs rec = if appE xs rec = 0 then putD (tapeA xs) rec rec.length ++ (if tapeA xs + 1 + rec.length < xs.length then [⟨tapeA xs + 1 + rec.length, 0⟩] else []) ++ [⟨tapeA xs, rec.length⟩] else [] from rfl)
  generalize appE xs rec = RE at *
  generalize appL xs rec = RL at *
  cases hi1 : inB rec.length 1 64
  · have e1 : RE = 1 := by rw [HE.out, hi1]; rfl
    have e2 : RL = [] := by rw [HL.out, e1]; rfl
    have hcase : (rec.length : Int) < 1 ∨ (1 ≤ (rec.length : Int) ∧ 64 < (rec.length : Int)) := by rw [← Bool.not_eq_true, inB_true] at hi1; omega
    rw [e1, e2]
    clear e1 e2 HE HL hr2 hi1 hw
    rcases hcase with c1 | ⟨c1, c2⟩
    all_goals
      go_enter Try.func78, Try.ntmps78
      go_wp2
      go_ret2
      exact ⟨_, rfl, Sl.nil _ _, Below.refl _ _⟩
  · obtain ⟨m0, m1⟩ := inB_true.1 hi1
    have c1 : ¬ (rec.length : Int) < 1 := by omega
    have c2 : ¬ 64 < (rec.length : Int) := by omega
    rw [hi1] at HE
    clear hi1
    by_cases hE : tapeE xs = 0
    · rw [hE] at T HE
      by_cases hfull : (xs.length : Int) < tapeA xs + 1 + rec.length
      · have e1 : RE = 16 := by rw [HE.out]; simp [hfull]
        have e2 : RL = [] := by rw [HL.out, e1]; rfl
        rw [e1, e2]
        clear e1 e2 HE HL hr2 hw hE
        generalize tapeA xs = A at *
        go_enter Try.func78, Try.ntmps78
        go_wp2_with (go_at_call 94; refine (T.out).mono ?_; rintro e w' ⟨rfl, rfl⟩)
        go_ret2
        exact ⟨_, rfl, Sl.nil _ _, Below.refl _ _⟩
      · have e1 : RE = 0 := by rw [HE.out]; simp [hfull]
        rw [e1, if_pos rfl] at HL
        rw [e1]
        clear e1 HE hw hE
        generalize tapeA xs = A at *
        go_enter Try.func78, Try.ntmps78
        go_wp2_with (go_at_call 94; refine (T.out).mono ?_; rintro e w' ⟨rfl, rfl⟩)
        go_loopw [9, 39] (fun v i wr => ∃ k : Nat, k ≤ rec.length ∧ i = I k ∧ Hid (OutD w (putD A rec k) v wr)) (fun _ i _ => rec.length - (intOf i).toNat)
        case atStart => exact ⟨0, Nat.zero_le _, rfl, World.ownsRow_nil _ _ _ _, Below.refl _ _⟩
        case round =>
          obtain ⟨k, hk, rfl, hD⟩ := hrel
          obtain ⟨hown, hbw⟩ := hD.out
          have hsz := hbw.size
          rw [putD_len] at hown
          by_cases hlt : k < rec.length
          · obtain ⟨b2, o2, rfl, hb2, hc2⟩ := hr2.resolve_left (by omega)
            have e1 := (hbw.cell (p := ⟨b2, o2 + k, none⟩) hb2).trans (hc2 k (by simpa using hlt))
            rw [getD_map' _ _ hlt] at e1
            have hps := Lib.hid (putD_succ A rec k)
            have hpl := putD_len A rec k
            have hi0 : (0 : Int) ≤ (k : Int) := by omega
            have hi1 : (k : Int) < (rec.length : Int) := by omega
            clear hc2 hr2
            generalize rec.getD k 0 = x at *
            go_wp2_with (at_builtin; refine wpList_append_own _ rfl _ _ 54 rfl w.heap.size 110 i0 (.agg #[.int .i64 0, .int .u32 0]) 2 16 Try.underlying54 hi hz0 hz1 hz2 rfl (by decide) _ _ _ rfl (hown.alloc _) ⟨wr.heap.size, 0, none⟩ 1 1 [I (A + 1 + k), U32 x] rfl rfl (news_lit _ [I (A + 1 + k), U32 x] _) (oneCells_lit rfl) (by unfold maxLen; omega) (by omega) (by simp; omega) ?_; intro v' w1 hown' hgrow _)
            have hbel := grown_below (hbw.alloc hsz _) (hown.alloc _) (Nat.le_refl _) hgrow
            have hD' : Hid (OutD w (putD A rec (k + 1)) v' w1) := by
              have := OutD.push (L := putD A rec k) ⟨A + 1 + k, x⟩ (by rw [hpl]; exact hown') hbel
              rw [hps.out]; exact this
            clear hown hown' hgrow hbel hbw hD
            go_wp2
            exact ⟨⟨k + 1, by omega, by go_num, hD'⟩, by simp [intOf]; omega⟩
          · have hkm : k = rec.length := by omega
            have hge : (rec.length : Int) ≤ (k : Int) := by omega
            rw [hkm] at hown
            clear hD hkm hr2
            by_cases hmid : A + 1 + rec.length < xs.length
            · rw [if_pos hmid] at HL
              go_wp2_with (first
                | ((at_builtin; refine wpList_append_own _ rfl _ _ 54 rfl w.heap.size 110 i0 (.agg #[.int .i64 0, .int .u32 0]) 2 16 Try.underlying54 hi hz0 hz1 hz2 rfl (by decide) _ _ _ rfl (hown.alloc _) ⟨wr.heap.size, 0, none⟩ 1 1 [I (A + 1 + rec.length), U32 0] rfl rfl (news_lit _ [I (A + 1 + rec.length), U32 0] _) (oneCells_lit rfl) (by unfold maxLen; omega) (by omega) (by simp; omega) ?_; intro v' w1 hown' hgrow _); have hb1 := grown_below (hbw.alloc hsz _) (hown.alloc _) (Nat.le_refl _) hgrow; have hsz1 := hb1.size; have hown1 := hown'; generalize w1 = wA at *; generalize v' = vA at *; clear hown' hgrow)
                | (at_builtin; refine wpList_append_own _ rfl _ _ 54 rfl w.heap.size 110 i0 (.agg #[.int .i64 0, .int .u32 0]) 2 16 Try.underlying54 hi hz0 hz1 hz2 rfl (by decide) _ _ _ rfl (hown1.alloc _) ⟨wA.heap.size, 0, none⟩ 1 1 [I A, U32 rec.length] rfl rfl (news_lit _ [I A, U32 rec.length] _) (oneCells_lit rfl) (by unfold maxLen; omega) (by omega) (by simp; omega) ?_; intro v' w1 hown' hgrow _))
              clear hown hbw
              have hb2 := grown_below (hb1.alloc hsz1 _) (hown1.alloc _) (Nat.le_refl _) hgrow
              have hS3 := Sl.of_owns' (n := RL.length) hown' (by rw [HL.out]; simp [putD_len]) (by rw [HL.out]; simp [putD_len]; omega)
              have hS4 : Sl w1 v' 2 RL.length (RL.flatMap AWrite.cells) := by
                have e : RL.flatMap AWrite.cells = (putD A rec rec.length).flatMap AWrite.cells ++ [I (A + 1 + rec.length), U32 0] ++ [I A, U32 rec.length] := by
                  rw [HL.out, List.flatMap_append, List.flatMap_append]; simp [AWrite.cells]
                rw [e]; exact hS3
              clear hown1 hown' hgrow hS3 hb1
              go_wp2
              go_ret2
              exact ⟨_, rfl, hS4, hb2⟩
            · rw [if_neg hmid, List.append_nil] at HL
              go_wp2_with (at_builtin; refine wpList_append_own _ rfl _ _ 54 rfl w.heap.size 110 i0 (.agg #[.int .i64 0, .int .u32 0]) 2 16 Try.underlying54 hi hz0 hz1 hz2 rfl (by decide) _ _ _ rfl (hown.alloc _) ⟨wr.heap.size, 0, none⟩ 1 1 [I A, U32 rec.length] rfl rfl (news_lit _ [I A, U32 rec.length] _) (oneCells_lit rfl) (by unfold maxLen; omega) (by omega) (by simp; omega) ?_; intro v' w1 hown' hgrow _)
              have hb2 := grown_below (hbw.alloc hsz _) (hown.alloc _) (Nat.le_refl _) hgrow
              have hS3 := Sl.of_owns' (n := RL.length) hown' (by rw [HL.out]; simp [putD_len]) (by rw [HL.out]; simp [putD_len]; omega)
              have hS4 : Sl w1 v' 2 RL.length (RL.flatMap AWrite.cells) := by
                have e : RL.flatMap AWrite.cells = (putD A rec rec.length).flatMap AWrite.cells ++ [I A, U32 rec.length] := by
                  rw [HL.out, List.flatMap_append]; simp [AWrite.cells]
                rw [e]; exact hS3
              clear hown hown' hgrow hS3 hbw
              go_wp2
              go_ret2
              exact ⟨_, rfl, hS4, hb2⟩
    · have e1 : RE = tapeE xs := by rw [HE.out]; simp [hE]
      have e2 : RL = [] := by rw [HL.out, e1, if_neg hE]
      have hb2 : (tapeE xs != 0) = true := by simp [hE]
      rw [e1, e2]
      clear e1 e2 HE HL hr2 hw hE
      generalize tapeE xs = E at *
      generalize tapeA xs = A at *
      go_enter Try.func78, Try.ntmps78
      go_wp2_with (go_at_call 94; refine (T.out).mono ?_; rintro e w' ⟨rfl, rfl⟩)
      go_ret2
      exact ⟨_, rfl, Sl.nil _ _, Below.refl _ _⟩
end Go.Proofs.Ytenoigmkhlnfoaa
