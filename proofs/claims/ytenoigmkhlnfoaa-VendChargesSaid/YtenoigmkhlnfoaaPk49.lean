/- ref.Appended · (*vend.shop).customer, (*vend.shop).keep, ref.keeps · vend.Register, ref.VendRegister -/
import Derived.Test.YtenoigmkhlnfoaaPk48
import Derived.Test.YtenoigmkhlnfoaaPk05
namespace Go.Proofs.Ytenoigmkhlnfoaa
set_option linter.unusedSimpArgs false
set_option linter.unusedVariables false
open Go.RowKit
set_option maxRecDepth 20000
set_option maxHeartbeats 2000000 in
theorem Appended_any (v : Value) (xs : List Int) (v2 : Value) (rec : List Int) (w : World) (h : Sl w v 1 xs.length (xs.map U32)) (hw : ∀ x ∈ xs, W32 x) (h2 : Sl w v2 1 rec.length (rec.map U32)) :
    Calls Try.prog 80 #[v, v2] w (GrewSl2 2 (appL xs rec).length ((appL xs rec).flatMap AWrite.cells) (appE xs rec) w) := by
  obtain ⟨i0, hi, hz0, hz1, hz2⟩ := info_parts infoWriteD
  have T := Lib.hid (Replayed_at v xs w h hw)
  obtain ⟨t0, t1⟩ := tapeA_bd hw
  have hS := h
  obtain ⟨a, cap, rfl, hn, hl, h0, hr⟩ := h
  obtain ⟨a2, cap2, rfl, hn2, hl2, h02, hr2⟩ := h2
  clear hl h0 hl2 h02 hr
  have HE := Lib.hid (show appE xs rec = if inB rec.length 1 64 then (if tapeE xs = 0 then (if (xs.length : Int) < tapeA xs + 1 + rec.length then 16 else 0) else tapeE xs) else 1 from rfl)
  have HL := Lib.hid (show appL xs rec = if appE xs rec = 0 then putD (tapeA xs) rec rec.length ++ (if tapeA xs + 1 + rec.length < xs.length then [⟨tapeA xs + 1 + rec.length, 0⟩] else []) ++ [⟨tapeA xs, rec.length⟩] else [] from rfl)
  generalize appE xs rec = RE at *
  generalize appL xs rec = RL at *
  cases hi1 : inB rec.length 1 64
  · have e1 : RE = 1 := by rw [HE.out, hi1]; rfl
    have e2 : RL = [] := by rw [HL.out, e1]; rfl
    rw [e1, e2]
    clear e1 e2 HE HL hr2 hw
    go_enter Try.func80, Try.ntmps80
    go_wp2_with (go_at_call 43; refine (In_any _ _ _ _).mono ?_; rintro e w' ⟨rfl, rfl⟩)
    go_ret2
    exact ⟨_, rfl, Sl.nil _ _, Below.refl _ _⟩
  · obtain ⟨m0, m1⟩ := inB_true.1 hi1
    have c1 : ¬ (rec.length : Int) < 1 := by omega
    have c2 : ¬ 64 < (rec.length : Int) := by omega
    rw [hi1] at HE
    by_cases hE : tapeE xs = 0
    · rw [hE] at T HE
      by_cases hfull : (xs.length : Int) < tapeA xs + 1 + rec.length
      · have e1 : RE = 16 := by rw [HE.out]; simp [hfull]
        have e2 : RL = [] := by rw [HL.out, e1]; rfl
        rw [e1, e2]
        have hfull2 : (xs.length : Int) ≤ tapeA xs + rec.length := by omega
        clear e1 e2 HE HL hr2 hw hE
        generalize tapeA xs = A at *
        go_enter Try.func80, Try.ntmps80
        go_wp2_with (go_at_call 43; refine (In_any _ _ _ _).mono ?_; rintro e w' ⟨rfl, rfl⟩)
        refine T.out.mono ?_
        rintro e wT ⟨vT, rfl, kT⟩
        have hszT := kT.size
        go_wp2
        go_ret2
        exact ⟨_, rfl, Sl.nil _ _, kT⟩
      · have e1 : RE = 0 := by rw [HE.out]; simp [hfull]
        rw [e1, if_pos rfl] at HL
        rw [e1]
        have hfull2 : ¬ (xs.length : Int) ≤ tapeA xs + rec.length := by omega
        clear e1 HE hw hE
        generalize tapeA xs = A at *
        go_enter Try.func80, Try.ntmps80
        go_wp2_with (go_at_call 43; refine (In_any _ _ _ _).mono ?_; rintro e w' ⟨rfl, rfl⟩)
        refine T.out.mono ?_
        rintro e wT ⟨vT, rfl, kT⟩
        have hszT := kT.size
        go_wp2
        go_loopw [10, 11] (fun v i wr => ∃ k : Nat, k ≤ rec.length ∧ i = I k ∧ Hid (OutD w (putD A rec k) v wr)) (fun _ i _ => rec.length - (intOf i).toNat)
        case atStart => exact ⟨0, Nat.zero_le _, rfl, World.ownsRow_nil _ _ _ _, kT⟩
        case round =>
          obtain ⟨k, hk, rfl, hD⟩ := hrel
          obtain ⟨hown, hbw⟩ := hD.out
          have hsz := hbw.size
          rw [putD_len] at hown
          by_cases hlt : k < rec.length
          · obtain ⟨b2, o2, rfl, hb2, hc2⟩ := hr2.resolve_left (by omega)
            have e1 := (hbw.cell (p := ⟨b2, o2 + k, none⟩) hb2).trans (hc2 k (by simpa using hlt))
            rw [getD_map' _ _ hlt] at e1
            have hps := Lib.hid (putD_succ A rec k)
            have hpl := putD_len A rec k
            have hi0 : (0 : Int) ≤ (k : Int) := by omega
            have hi1 : (k : Int) < (rec.length : Int) := by omega
            clear hc2 hr2
            generalize rec.getD k 0 = x at *
            go_wp2_with (at_builtin; refine wpList_append_own _ rfl _ _ 54 rfl w.heap.size 110 i0 (.agg #[.int .i64 0, .int .u32 0]) 2 16 Try.underlying54 hi hz0 hz1 hz2 rfl (by decide) _ _ _ rfl (hown.alloc _) ⟨wr.heap.size, 0, none⟩ 1 1 [I (A + k + 1), U32 x] rfl rfl (news_lit _ [I (A + k + 1), U32 x] _) (oneCells_lit rfl) (by unfold maxLen; omega) (by omega) (by simp; omega) ?_; intro v' w1 hown' hgrow _)
            have hbel := grown_below (hbw.alloc hsz _) (hown.alloc _) (Nat.le_refl _) hgrow
            have hD' : Hid (OutD w (putD A rec (k + 1)) v' w1) := by
              have := OutD.push (L := putD A rec k) ⟨A + 1 + k, x⟩ (by rw [hpl]; simp only []; rw [show A + 1 + (k : Int) = A + k + 1 by omega]; exact hown') hbel
              rw [hps.out]; exact this
            clear hown hown' hgrow hbel hbw hD
            go_wp2
            exact ⟨⟨k + 1, by omega, by go_num, hD'⟩, by simp [intOf]; omega⟩
          · have hkm : k = rec.length := by omega
            have hge : (rec.length : Int) ≤ (k : Int) := by omega
            rw [hkm] at hown
            clear hD hkm hr2
            by_cases hmid : A + 1 + rec.length < xs.length
            · rw [if_pos hmid] at HL
              have hmid2 : A + rec.length + 1 < xs.length := by omega
              go_wp2_with (first
                | ((at_builtin; refine wpList_append_own _ rfl _ _ 54 rfl w.heap.size 110 i0 (.agg #[.int .i64 0, .int .u32 0]) 2 16 Try.underlying54 hi hz0 hz1 hz2 rfl (by decide) _ _ _ rfl (hown.alloc _) ⟨wr.heap.size, 0, none⟩ 1 1 [I (A + rec.length + 1), U32 0] rfl rfl (news_lit _ [I (A + rec.length + 1), U32 0] _) (oneCells_lit rfl) (by unfold maxLen; omega) (by omega) (by simp; omega) ?_; intro v' w1 hown' hgrow _); have hb1 := grown_below (hbw.alloc hsz _) (hown.alloc _) (Nat.le_refl _) hgrow; have hsz1 := hb1.size; have hown1 := hown'; generalize w1 = wA at *; generalize v' = vA at *; clear hown' hgrow)
                | (at_builtin; refine wpList_append_own _ rfl _ _ 54 rfl w.heap.size 110 i0 (.agg #[.int .i64 0, .int .u32 0]) 2 16 Try.underlying54 hi hz0 hz1 hz2 rfl (by decide) _ _ _ rfl (hown1.alloc _) ⟨wA.heap.size, 0, none⟩ 1 1 [I A, U32 rec.length] rfl rfl (news_lit _ [I A, U32 rec.length] _) (oneCells_lit rfl) (by unfold maxLen; omega) (by omega) (by simp; omega) ?_; intro v' w1 hown' hgrow _))
              clear hown hbw
              have hb2 := grown_below (hb1.alloc hsz1 _) (hown1.alloc _) (Nat.le_refl _) hgrow
              have hS3 := Sl.of_owns' (n := RL.length) hown' (by rw [HL.out]; simp [putD_len]) (by rw [HL.out]; simp [putD_len]; omega)
              have hS4 : Sl w1 v' 2 RL.length (RL.flatMap AWrite.cells) := by
                have e : RL.flatMap AWrite.cells = (putD A rec rec.length).flatMap AWrite.cells ++ [I (A + rec.length + 1), U32 0] ++ [I A, U32 rec.length] := by
                  rw [show A + (rec.length : Int) + 1 = A + 1 + rec.length by omega, HL.out, List.flatMap_append, List.flatMap_append]; simp [AWrite.cells]
                rw [e]; exact hS3
              clear hown1 hown' hgrow hS3 hb1
              go_wp2
              go_ret2
              exact ⟨_, rfl, hS4, hb2⟩
            · rw [if_neg hmid, List.append_nil] at HL
              have hmid2 : ¬ A + rec.length + 1 < xs.length := by omega
              go_wp2_with (at_builtin; refine wpList_append_own _ rfl _ _ 54 rfl w.heap.size 110 i0 (.agg #[.int .i64 0, .int .u32 0]) 2 16 Try.underlying54 hi hz0 hz1 hz2 rfl (by decide) _ _ _ rfl (hown.alloc _) ⟨wr.heap.size, 0, none⟩ 1 1 [I A, U32 rec.length] rfl rfl (news_lit _ [I A, U32 rec.length] _) (oneCells_lit rfl) (by unfold maxLen; omega) (by omega) (by simp; omega) ?_; intro v' w1 hown' hgrow _)
              have hb2 := grown_below (hbw.alloc hsz _) (hown.alloc _) (Nat.le_refl _) hgrow
              have hS3 := Sl.of_owns' (n := RL.length) hown' (by rw [HL.out]; simp [putD_len]) (by rw [HL.out]; simp [putD_len]; omega)
              have hS4 : Sl w1 v' 2 RL.length (RL.flatMap AWrite.cells) := by
                have e : RL.flatMap AWrite.cells = (putD A rec rec.length).flatMap AWrite.cells ++ [I A, U32 rec.length] := by
                  rw [HL.out, List.flatMap_append]; simp [AWrite.cells]
                rw [e]; exact hS3
              clear hown hown' hgrow hS3 hbw
              go_wp2
              go_ret2
              exact ⟨_, rfl, hS4, hb2⟩
    · have e1 : RE = tapeE xs := by rw [HE.out]; simp [hE]
      have e2 : RL = [] := by rw [HL.out, e1, if_neg hE]
      have hb2 : (tapeE xs != 0) = true := by simp [hE]
      rw [e1, e2]
      clear e1 e2 HE HL hr2 hw hE
      generalize tapeE xs = E at *
      generalize tapeA xs = A at *
      go_enter Try.func80, Try.ntmps80
      go_wp2_with (go_at_call 43; refine (In_any _ _ _ _).mono ?_; rintro e w' ⟨rfl, rfl⟩)
      refine T.out.mono ?_
      rintro e wT ⟨vT, rfl, kT⟩
      have hszT := kT.size
      go_wp2
      go_ret2
      exact ⟨_, rfl, Sl.nil _ _, kT⟩
end Go.Proofs.Ytenoigmkhlnfoaa
namespace Go.Proofs.Ytenoigmkhlnfoaa
set_option linter.unusedSimpArgs false
set_option linter.unusedVariables false
open Go Go.RowKit
set_option maxRecDepth 20000
/-- a shop's customer: its place in the book's row -/
def CustP (bv : Value) (cs : List PCust) (me : Int) (w : World) (e : Ending) (w' : World) : Prop :=
  (0 ≤ idxOf cs me → ∃ g cap, bv = .slice (some ⟨g, 0, none⟩) cs.length cap ∧ e = .returned (T2 (.pointer (some ⟨g, (idxOf cs me).toNat * 8, none⟩)) (I 0)) ∧ Below w.heap.size w w') ∧
  (idxOf cs me < 0 → e = .returned (T2 (.pointer none) (I 18)) ∧ Below w.heap.size w w')
set_option maxHeartbeats 2000000 in
theorem customer_any (sg B : Nat) (bv cv tv x1 x2 x3 x4 n : Value) (cs : List PCust) (ys : List ACust) (me : Int) (w : World) (hs : Own w sg [bv, tv, x1, x2, x3, x4, cv, n]) (hB : BookAt w B bv cs ys) (hn : cs.length ≤ 4096) :
    Calls Try.prog 52 #[.pointer (some ⟨sg, 0, none⟩), I me] w (CustP bv cs me w) := by
  have F := Lib.hid (Find_any bv ys me w (hB.sl (by omega)))
  unfold findA findE at F
  rw [book_found hB] at F
  have hbd := idxOf_bd cs me
  have HS := Lib.hid hs
  obtain ⟨a, c, rfl⟩ := book_slice hB
  by_cases h0 : idxOf cs me < 0
  · rw [if_pos h0, if_pos h0] at F
    have H0 := Lib.hid h0
    have sO := hs
    have sfA := sO.f; have s0 := sO.c0; have s1 := sO.c1; have s2 := sO.c2; have s3 := sO.c3; have s4 := sO.c4; have s5 := sO.c5; have s6 := sO.c6; have s7 := sO.c7
    clear sO
    clear hs hbd h0
    go_enter Try.func52, Try.ntmps52
    go_wp2_with fail
    refine F.out.mono ?_
    rintro e w1 ⟨rfl, k1⟩
    clear s0 s1 s2 s3 s4 s5 s6 s7 sfA
    go_wp2
    go_ret2
    exact ⟨fun h => absurd H0.out (by omega), fun _ => ⟨rfl, k1⟩⟩
  · rw [if_neg h0, if_neg h0] at F
    obtain ⟨j, hj⟩ := Int.eq_ofNat_of_zero_le (show 0 ≤ idxOf cs me by omega)
    have hjl : j < cs.length := by omega
    obtain ⟨g, cap, hv, hg1, hg2⟩ := owns_pos hB.2.1 (by omega)
    simp only [Value.slice.injEq] at hv
    obtain ⟨rfl, -, rfl⟩ := hv
    rw [hj] at F
    have HJ := Lib.hid hj
    have hj0 : (0 : Int) ≤ (j : Int) := by omega
    have hj1 : (j : Int) < (cs.length : Int) := by omega
    have sO := hs
    have sfA := sO.f; have s0 := sO.c0; have s1 := sO.c1; have s2 := sO.c2; have s3 := sO.c3; have s4 := sO.c4; have s5 := sO.c5; have s6 := sO.c6; have s7 := sO.c7
    clear sO
    clear hs hbd h0 hj
    go_enter Try.func52, Try.ntmps52
    go_wp2_with fail
    refine F.out.mono ?_
    rintro e w1 ⟨rfl, k1⟩
    clear s0 s1 s2 s3 s4 s5 s6 s7 sfA
    have sO := HS.out.below k1
    have sfA := sO.f; have s0 := sO.c0; have s1 := sO.c1; have s2 := sO.c2; have s3 := sO.c3; have s4 := sO.c4; have s5 := sO.c5; have s6 := sO.c6; have s7 := sO.c7
    clear sO
    go_wp2
    go_ret2
    refine ⟨fun _ => ⟨g, c, rfl, ?_, k1⟩, fun h => ?_⟩
    · rw [HJ.out]; rfl
    · have := HJ.out; omega
/-- the words of an event -/
def evWords (v : AEvent) : List Int := [v.kind, v.meter, v.month, v.bill.id, v.bill.tender, v.bill.debt, v.bill.fee, v.bill.price, v.bill.change, v.bill.units, v.tag, v.debt.owed, v.debt.bp]
def keepsE (xs : List Int) (v : AEvent) : Int := if 120 ≤ (keptL xs).length then 16 else if v.may then appE xs (evWords v) else 5
def keepsL (xs : List Int) (v : AEvent) : List AWrite := if 120 ≤ (keptL xs).length then [] else if v.may then appL xs (evWords v) else []
def KeepsP (xs : List Int) (v : AEvent) (w : World) (e : Ending) (w' : World) : Prop := GrewSl2 2 (keepsL xs v).length ((keepsL xs v).flatMap AWrite.cells) (keepsE xs v) w e w'
theorem KeepsP.none {xs : List Int} {v : AEvent} {w w' : World} {k : Int} (h : keepsE xs v = k) (hl : keepsL xs v = []) (hb : Below w.heap.size w w') : KeepsP xs v w (.returned (T2 (.slice none 0 0) (I k))) w' := by
  unfold KeepsP
  rw [h, hl]
  exact ⟨_, rfl, Sl.nil _ _, hb⟩
theorem KeepsP.some {xs : List Int} {v : AEvent} {w w' : World} {u : Value} {k : Int} {L : List AWrite} (h : keepsE xs v = k) (hl : keepsL xs v = L) (hS : Sl w' u 2 L.length (L.flatMap AWrite.cells)) (hb : Below w.heap.size w w') : KeepsP xs v w (.returned (T2 u (I k))) w' := by
  unfold KeepsP
  rw [h, hl]
  exact ⟨_, rfl, hS, hb⟩
set_option maxHeartbeats 4000000 in
theorem shopkeep_any (sg : Nat) (bv cv tv x1 x2 x3 x4 : Value) (xs : List Int) (ki me mo id te de fe pr ch un ta ow bp : Int) (w : World) (hs : Own w sg [bv, tv, x1, x2, x3, x4, cv, I ((keptL xs).length : Nat)]) (hc : Sl w cv 1 xs.length (xs.map U32)) (hw : ∀ x ∈ xs, W32 x) (h120 : (keptL xs).length ≤ 120) :
    Calls Try.prog 53 #[.pointer (some ⟨sg, 0, none⟩), evV ki me mo id te de fe pr ch un ta ow bp] w (KeepsP xs ⟨ki, me, mo, ⟨id, te, de, fe, pr, ch, un⟩, ta, ⟨ow, bp⟩⟩ w) := by
  have H1 : Hid (120 ≤ (keptL xs).length → keepsE xs ⟨ki, me, mo, ⟨id, te, de, fe, pr, ch, un⟩, ta, ⟨ow, bp⟩⟩ = 16 ∧ keepsL xs ⟨ki, me, mo, ⟨id, te, de, fe, pr, ch, un⟩, ta, ⟨ow, bp⟩⟩ = []) := fun h => ⟨by unfold keepsE; rw [if_pos h], by unfold keepsL; rw [if_pos h]⟩
  have H2 : Hid (¬ 120 ≤ (keptL xs).length → evMay ki me mo id te de fe pr ch un ta ow bp = false → keepsE xs ⟨ki, me, mo, ⟨id, te, de, fe, pr, ch, un⟩, ta, ⟨ow, bp⟩⟩ = 5 ∧ keepsL xs ⟨ki, me, mo, ⟨id, te, de, fe, pr, ch, un⟩, ta, ⟨ow, bp⟩⟩ = []) := fun h hm => by
    have hm' : AEvent.may ⟨ki, me, mo, ⟨id, te, de, fe, pr, ch, un⟩, ta, ⟨ow, bp⟩⟩ = false := hm
    unfold keepsE keepsL
    rw [if_neg h, if_neg h, hm']
    exact ⟨rfl, rfl⟩
  have H3 : Hid (¬ 120 ≤ (keptL xs).length → evMay ki me mo id te de fe pr ch un ta ow bp = true → keepsE xs ⟨ki, me, mo, ⟨id, te, de, fe, pr, ch, un⟩, ta, ⟨ow, bp⟩⟩ = appE xs [ki, me, mo, id, te, de, fe, pr, ch, un, ta, ow, bp] ∧ keepsL xs ⟨ki, me, mo, ⟨id, te, de, fe, pr, ch, un⟩, ta, ⟨ow, bp⟩⟩ = appL xs [ki, me, mo, id, te, de, fe, pr, ch, un, ta, ow, bp]) := fun h hm => by
    have hm' : AEvent.may ⟨ki, me, mo, ⟨id, te, de, fe, pr, ch, un⟩, ta, ⟨ow, bp⟩⟩ = true := hm
    unfold keepsE keepsL
    rw [if_neg h, if_neg h, hm']
    exact ⟨rfl, rfl⟩
  have E := Lib.hid (fun W => Encode_any ki me mo id te de fe pr ch un ta ow bp W)
  have A := Lib.hid (fun u r W h1 h2 => AppendD_any cv xs u r W h1 hw h2)
  have kB := boxed_below w (.cells #[I ki, I me, I mo, I id, I te, I de, I fe, I pr, I ch, I un, I ta, I ow, I bp] 72)
  have oV := Own.new (w := w) rfl [I ki, I me, I mo, I id, I te, I de, I fe, I pr, I ch, I un, I ta, I ow, I bp] 72
  have hs1 := hs.below kB
  have HS1 := Lib.hid hs1
  have KB := Lib.hid kB
  have HC := Lib.hid hc
  obtain ⟨ca, cc, rfl, -⟩ := _root_.id hc
  generalize (keptL xs).length = n at *
  have nss : ¬ sg = w.heap.size := by have := hs.lt; omega
  have sO := hs1
  have sfA := sO.f; have s0 := sO.c0; have s1 := sO.c1; have s2 := sO.c2; have s3 := sO.c3; have s4 := sO.c4; have s5 := sO.c5; have s6 := sO.c6; have s7 := sO.c7
  clear sO
  have vO := oV
  have vfA := vO.f; have v0 := vO.c0; have v1 := vO.c1; have v2 := vO.c2; have v3 := vO.c3; have v4 := vO.c4; have v5 := vO.c5; have v6 := vO.c6; have v7 := vO.c7; have v8 := vO.c8; have v9 := vO.c9; have v10 := vO.c10; have v11 := vO.c11; have v12 := vO.c12
  clear vO
  clear hs hs1 hc hw oV kB
  by_cases hn : 120 ≤ n
  · obtain rfl : n = 120 := by omega
    have HR := Lib.hid (H1.out hn)
    clear hn h120 H1 H2 H3
    go_enter Try.func53, Try.ntmps53
    go_wp2
    go_ret2
    exact KeepsP.none HR.out.1 HR.out.2 KB.out
  · have hn' : ((n : Int) == 120) = false := by rw [beq_eq_false_iff_ne]; omega
    have hn2 : ¬ (n : Int) = 120 := by omega
    cases hm : evMay ki me mo id te de fe pr ch un ta ow bp
    · have HR := Lib.hid (H2.out hn hm)
      rw [hm] at E
      clear hn h120 H1 H2 H3 hm
      go_enter Try.func53, Try.ntmps53
      go_wp2_with fail
      refine (E.out _).mono ?_
      rintro e w1 ⟨u, he, hu, k1⟩
      have he : e = .returned (T2 u (I 5)) := he
      subst he
      have kk := KB.out.trans (k1.mono KB.out.size)
      obtain ⟨ua, uc, rfl, -⟩ := _root_.id hu
      clear hu k1 s0 s1 s2 s3 s4 s5 s6 s7 sfA v0 v1 v2 v3 v4 v5 v6 v7 v8 v9 v10 v11 v12 vfA
      go_wp2
      go_ret2
      exact KeepsP.none HR.out.1 HR.out.2 kk
    · have HR := Lib.hid (H3.out hn hm)
      rw [hm] at E
      clear hn h120 H1 H2 H3 hm
      go_enter Try.func53, Try.ntmps53
      go_wp2_with fail
      refine (E.out _).mono ?_
      rintro e w1 ⟨u, he, hu, k1⟩
      have he : e = .returned (T2 u (I 0)) := he
      have hu : Sl w1 u 1 13 ([ki, me, mo, id, te, de, fe, pr, ch, un, ta, ow, bp].map U32) := hu
      subst he
      have kk := KB.out.trans (k1.mono KB.out.size)
      have KK := Lib.hid kk
      have P := Lib.hid (A.out u [ki, me, mo, id, te, de, fe, pr, ch, un, ta, ow, bp] w1 (HC.out.below kk) hu)
      obtain ⟨ua, uc, rfl, -⟩ := _root_.id hu
      clear s0 s1 s2 s3 s4 s5 s6 s7 sfA v0 v1 v2 v3 v4 v5 v6 v7 v8 v9 v10 v11 v12 vfA
      have sO := HS1.out.below k1
      have sfA := sO.f; have s0 := sO.c0; have s1 := sO.c1; have s2 := sO.c2; have s3 := sO.c3; have s4 := sO.c4; have s5 := sO.c5; have s6 := sO.c6; have s7 := sO.c7
      clear sO
      clear hu k1 A E
      go_wp2_with fail
      refine P.out.mono ?_
      rintro e w2 ⟨u, rfl, hu, k2⟩
      have kk2 := KK.out.trans (k2.mono KK.out.size)
      have HU := Lib.hid hu
      obtain ⟨ua, uc, rfl, -⟩ := _root_.id hu
      clear hu k2 P s0 s1 s2 s3 s4 s5 s6 s7 sfA
      go_wp2
      go_ret2
      exact KeepsP.some HR.out.1 HR.out.2 HU.out kk2
set_option maxHeartbeats 4000000 in
theorem keeps_any (cv : Value) (xs : List Int) (ki me mo id te de fe pr ch un ta ow bp : Int) (w : World) (hc : Sl w cv 1 xs.length (xs.map U32)) (hw : ∀ x ∈ xs, W32 x) :
    Calls Try.prog 54 #[cv, evV ki me mo id te de fe pr ch un ta ow bp] w (KeepsP xs ⟨ki, me, mo, ⟨id, te, de, fe, pr, ch, un⟩, ta, ⟨ow, bp⟩⟩ w) := by
  have H1 : Hid (120 ≤ (keptL xs).length → keepsE xs ⟨ki, me, mo, ⟨id, te, de, fe, pr, ch, un⟩, ta, ⟨ow, bp⟩⟩ = 16 ∧ keepsL xs ⟨ki, me, mo, ⟨id, te, de, fe, pr, ch, un⟩, ta, ⟨ow, bp⟩⟩ = []) := fun h => ⟨by unfold keepsE; rw [if_pos h], by unfold keepsL; rw [if_pos h]⟩
  have H2 : Hid (¬ 120 ≤ (keptL xs).length → evMay ki me mo id te de fe pr ch un ta ow bp = false → keepsE xs ⟨ki, me, mo, ⟨id, te, de, fe, pr, ch, un⟩, ta, ⟨ow, bp⟩⟩ = 5 ∧ keepsL xs ⟨ki, me, mo, ⟨id, te, de, fe, pr, ch, un⟩, ta, ⟨ow, bp⟩⟩ = []) := fun h hm => by
    have hm' : AEvent.may ⟨ki, me, mo, ⟨id, te, de, fe, pr, ch, un⟩, ta, ⟨ow, bp⟩⟩ = false := hm
    unfold keepsE keepsL
    rw [if_neg h, if_neg h, hm']
    exact ⟨rfl, rfl⟩
  have H3 : Hid (¬ 120 ≤ (keptL xs).length → evMay ki me mo id te de fe pr ch un ta ow bp = true → keepsE xs ⟨ki, me, mo, ⟨id, te, de, fe, pr, ch, un⟩, ta, ⟨ow, bp⟩⟩ = appE xs [ki, me, mo, id, te, de, fe, pr, ch, un, ta, ow, bp] ∧ keepsL xs ⟨ki, me, mo, ⟨id, te, de, fe, pr, ch, un⟩, ta, ⟨ow, bp⟩⟩ = appL xs [ki, me, mo, id, te, de, fe, pr, ch, un, ta, ow, bp]) := fun h hm => by
    have hm' : AEvent.may ⟨ki, me, mo, ⟨id, te, de, fe, pr, ch, un⟩, ta, ⟨ow, bp⟩⟩ = true := hm
    unfold keepsE keepsL
    rw [if_neg h, if_neg h, hm']
    exact ⟨rfl, rfl⟩
  have E := Lib.hid (fun W => Encoded_any ki me mo id te de fe pr ch un ta ow bp W)
  have A := Lib.hid (fun u r W h1 h2 => Appended_any cv xs u r W h1 hw h2)
  have kB := boxed_below w (.cells #[I ki, I me, I mo, I id, I te, I de, I fe, I pr, I ch, I un, I ta, I ow, I bp] 72)
  have oV := Own.new (w := w) rfl [I ki, I me, I mo, I id, I te, I de, I fe, I pr, I ch, I un, I ta, I ow, I bp] 72
  have KP := Lib.hid (Kept_any cv xs _ (hc.below kB) hw)
  have KB := Lib.hid kB
  have OV := Lib.hid oV
  have HC := Lib.hid hc
  have hll := keptL_len xs
  obtain ⟨ca, cc, rfl, -⟩ := _root_.id hc
  clear hc hw oV kB
  go_enter Try.func54, Try.ntmps54
  go_wp2_with fail
  refine KP.out.mono ?_
  rintro e w1 ⟨lv, rfl, hl, k1⟩
  generalize keptE xs = ke at *
  generalize (keptL xs).length = n at *
  have kk := KB.out.trans (k1.mono KB.out.size)
  obtain ⟨la, lc, rfl, -⟩ := _root_.id hl
  by_cases hn : 120 ≤ n
  · have HR := Lib.hid (H1.out hn)
    have hn' : (120 : Int) ≤ (n : Int) := by omega
    clear hl H1 H2 H3 KP
    go_wp2
    go_ret2
    exact KeepsP.none HR.out.1 HR.out.2 kk
  · have hn' : ¬ (120 : Int) ≤ (n : Int) := by omega
    have KK := Lib.hid kk
    cases hm : evMay ki me mo id te de fe pr ch un ta ow bp
    · have HR := Lib.hid (H2.out hn hm)
      rw [hm] at E
      have vO := OV.out.below k1
      have vfA := vO.f; have v0 := vO.c0; have v1 := vO.c1; have v2 := vO.c2; have v3 := vO.c3; have v4 := vO.c4; have v5 := vO.c5; have v6 := vO.c6; have v7 := vO.c7; have v8 := vO.c8; have v9 := vO.c9; have v10 := vO.c10; have v11 := vO.c11; have v12 := vO.c12
      clear vO
      clear hn H1 H2 H3 hm k1 hl KP
      go_wp2_with fail
      refine (E.out _).mono ?_
      rintro e w2 ⟨u, he, hu, k2⟩
      have he : e = .returned (T2 u (I 5)) := he
      subst he
      have kk2 := KK.out.trans (k2.mono KK.out.size)
      obtain ⟨ua, uc, rfl, -⟩ := _root_.id hu
      clear hu k2 kk v0 v1 v2 v3 v4 v5 v6 v7 v8 v9 v10 v11 v12 vfA
      go_wp2
      go_ret2
      exact KeepsP.none HR.out.1 HR.out.2 kk2
    · have HR := Lib.hid (H3.out hn hm)
      rw [hm] at E
      have vO := OV.out.below k1
      have vfA := vO.f; have v0 := vO.c0; have v1 := vO.c1; have v2 := vO.c2; have v3 := vO.c3; have v4 := vO.c4; have v5 := vO.c5; have v6 := vO.c6; have v7 := vO.c7; have v8 := vO.c8; have v9 := vO.c9; have v10 := vO.c10; have v11 := vO.c11; have v12 := vO.c12
      clear vO
      clear hn H1 H2 H3 hm k1 hl KP
      go_wp2_with fail
      refine (E.out _).mono ?_
      rintro e w2 ⟨u, he, hu, k2⟩
      have he : e = .returned (T2 u (I 0)) := he
      have hu : Sl w2 u 1 13 ([ki, me, mo, id, te, de, fe, pr, ch, un, ta, ow, bp].map U32) := hu
      subst he
      have kk2 := KK.out.trans (k2.mono KK.out.size)
      have KK2 := Lib.hid kk2
      have P := Lib.hid (A.out u [ki, me, mo, id, te, de, fe, pr, ch, un, ta, ow, bp] w2 (HC.out.below kk2) hu)
      obtain ⟨ua, uc, rfl, -⟩ := _root_.id hu
      clear v0 v1 v2 v3 v4 v5 v6 v7 v8 v9 v10 v11 v12 vfA hu k2 A E kk kk2
      go_wp2_with fail
      refine P.out.mono ?_
      rintro e w3 ⟨u, rfl, hu, k3⟩
      have kk3 := KK2.out.trans (k3.mono KK2.out.size)
      have HU := Lib.hid hu
      obtain ⟨ua, uc, rfl, -⟩ := _root_.id hu
      clear hu k3 P
      go_wp2
      go_ret2
      exact KeepsP.some HR.out.1 HR.out.2 HU.out kk3
end Go.Proofs.Ytenoigmkhlnfoaa
namespace Go.Proofs.Ytenoigmkhlnfoaa
set_option linter.unusedSimpArgs false
set_option linter.unusedVariables false
open Go Go.RowKit
set_option maxRecDepth 20000
def regV (me : Int) : AEvent := ⟨1, me, 0, ⟨0, 0, 0, 0, 0, 0, 0⟩, 0, ⟨0, 0⟩⟩
def regE (t : PTerms) (xs : List Int) (me : Int) : Int := if loadE t xs = 0 then (if inB me 0 49 then (if 0 ≤ idxOf (loadC t xs) me then 21 else keepsE xs (regV me)) else 2) else loadE t xs
def regL (t : PTerms) (xs : List Int) (me : Int) : List AWrite := if loadE t xs = 0 then (if inB me 0 49 then (if 0 ≤ idxOf (loadC t xs) me then [] else keepsL xs (regV me)) else []) else []
def RegP (t : PTerms) (xs : List Int) (me : Int) (w : World) (e : Ending) (w' : World) : Prop := GrewSl2 2 (regL t xs me).length ((regL t xs me).flatMap AWrite.cells) (regE t xs me) w e w'
theorem RegP.none {t : PTerms} {xs : List Int} {me : Int} {w w' : World} {k : Int} (h : regE t xs me = k ∧ regL t xs me = []) (hb : Below w.heap.size w w') : RegP t xs me w (.returned (T2 (.slice none 0 0) (I k))) w' := by
  unfold RegP
  rw [h.1, h.2]
  exact ⟨_, rfl, Sl.nil _ _, hb⟩
theorem RegP.some {t : PTerms} {xs : List Int} {me : Int} {w w' : World} {u : Value} (h : regE t xs me = keepsE xs (regV me) ∧ regL t xs me = keepsL xs (regV me)) (hS : Sl w' u 2 (keepsL xs (regV me)).length ((keepsL xs (regV me)).flatMap AWrite.cells)) (hb : Below w.heap.size w w') : RegP t xs me w (.returned (T2 u (I (keepsE xs (regV me))))) w' := by
  unfold RegP
  rw [h.1, h.2]
  exact ⟨_, rfl, hS, hb⟩
theorem reg_load {t : PTerms} {xs : List Int} {me : Int} (h : loadE t xs ≠ 0) : regE t xs me = loadE t xs ∧ regL t xs me = [] := by unfold regE regL; rw [if_neg h, if_neg h]; exact ⟨rfl, rfl⟩
theorem reg_range {t : PTerms} {xs : List Int} {me : Int} (h : loadE t xs = 0) (h2 : inB me 0 49 = false) : regE t xs me = 2 ∧ regL t xs me = [] := by unfold regE regL; rw [if_pos h, if_pos h, h2]; exact ⟨rfl, rfl⟩
theorem reg_twice {t : PTerms} {xs : List Int} {me : Int} (h : loadE t xs = 0) (h2 : inB me 0 49 = true) (h3 : 0 ≤ idxOf (loadC t xs) me) : regE t xs me = 21 ∧ regL t xs me = [] := by
  unfold regE regL; rw [if_pos h, if_pos h, h2, if_pos rfl, if_pos rfl, if_pos h3, if_pos h3]; exact ⟨rfl, rfl⟩
theorem reg_keep {t : PTerms} {xs : List Int} {me : Int} (h : loadE t xs = 0) (h2 : inB me 0 49 = true) (h3 : idxOf (loadC t xs) me < 0) : regE t xs me = keepsE xs (regV me) ∧ regL t xs me = keepsL xs (regV me) := by
  unfold regE regL; rw [if_pos h, if_pos h, h2, if_pos rfl, if_pos rfl, if_neg (by omega), if_neg (by omega)]; exact ⟨rfl, rfl⟩
theorem load_120 {t : PTerms} {xs : List Int} (h : loadE t xs = 0) : (keptL xs).length ≤ 120 := by
  have hk := loadE_kept h
  unfold loadE at h
  rw [if_pos hk] at h
  unfold bookR at h
  split at h
  · split at h
    · cases h
    · omega
  · rename_i h1; exact absurd h h1
set_option maxHeartbeats 4000000 in
theorem Register_any (t : PTerms) (tv cv : Value) (xs : List Int) (me : Int) (w : World) (ht : Sl w tv 2 t.ts.length (t.ts.flatMap AStep.cells)) (hc : Sl w cv 1 xs.length (xs.map U32)) (hw : ∀ x ∈ xs, W32 x) :
    Calls Try.prog 22 #[.agg #[tv, I t.f, I t.b, I t.d, I t.al], cv, I me] w (RegP t xs me w) := by
  have kB := boxed_below w (.cells #[tv, I t.f, I t.b, I t.d, I t.al] 24)
  have oT := Own.new (w := w) rfl [tv, I t.f, I t.b, I t.d, I t.al] 24
  have P := Lib.hid (open_any t tv cv xs _ (ht.below kB) (hc.below kB) hw)
  have KB := Lib.hid kB
  have HC := Lib.hid hc
  have HW := Lib.hid hw
  have O := Lib.hid (fun W => Open_any me W)
  have tO := oT
  have tfA := tO.f; have t0 := tO.c0; have t1 := tO.c1; have t2 := tO.c2; have t3 := tO.c3; have t4 := tO.c4
  clear tO
  obtain ⟨a, cap, rfl, -⟩ := id hc
  clear hw ht kB oT hc
  go_enter Try.func22, Try.ntmps22
  go_wp2_with fail
  refine P.out.mono ?_
  rintro e w1 hP
  unfold OpenP at hP
  clear t0 t1 t2 t3 t4 tfA
  by_cases h0 : loadE t xs = 0
  · obtain ⟨sg, bv, ys, rfl, hs, hb, k1⟩ := hP.1 h0
    have kk := KB.out.trans (k1.mono KB.out.size)
    have HS := Lib.hid hs
    have HB := Lib.hid hb
    have KK := Lib.hid kk
    have H0 := Lib.hid h0
    clear hP h0 P hs hb k1 kk
    cases hi : inB me 0 49
    · have HR := Lib.hid (reg_range (me := me) H0.out hi)
      have e2 : openE me = 2 := by unfold openE; rw [hi]; rfl
      rw [e2] at O
      generalize openX me = X at *
      obtain ⟨X1, X2, X3, X4, X5, X6⟩ := X
      clear hi e2
      go_wp2_with fail
      refine (O.out _).mono ?_
      rintro e w2 ⟨u, rfl, hu, k2⟩
      have kk2 := KK.out.trans (k2.mono KK.out.size)
      obtain ⟨ua, uc, rfl, -⟩ := id hu
      clear hu k2
      go_wp2
      go_ret2
      exact RegP.none HR.out below_auto
    · have e2 : openE me = 0 := by unfold openE; rw [hi]; rfl
      have HI := Lib.hid hi
      rw [e2] at O
      generalize openX me = X at *
      obtain ⟨X1, X2, X3, X4, X5, X6⟩ := X
      clear hi e2
      go_wp2_with fail
      refine (O.out _).mono ?_
      rintro e w2 ⟨u, rfl, hu, k2⟩
      obtain ⟨ua, uc, rfl, -⟩ := id hu
      have kA := boxed_below w2 (.cells #[I X1, I X2, I X3, I X4, I X5, I X6, .slice ua 0 uc] 79)
      have k2A := k2.trans (kA.mono k2.size)
      have kk2 := KK.out.trans (k2A.mono KK.out.size)
      have hs2 := HS.out.below k2A
      have hb2 := HB.out.below k2A
      have hbd := (loadC_bd t xs).1
      have CU := Lib.hid (customer_any sg _ bv (.slice a xs.length cap) tv (I t.f) (I t.b) (I t.d) (I t.al) (I ((keptL xs).length : Nat)) (loadC t xs) ys me _ hs2 hb2 (by omega))
      have HS2 := Lib.hid hs2
      have KK2 := Lib.hid kk2
      clear hu k2 kA k2A kk2 hs2 hb2 hbd
      go_wp2_with fail
      refine CU.out.mono ?_
      rintro e w3 hQ
      unfold CustP at hQ
      by_cases h3 : 0 ≤ idxOf (loadC t xs) me
      · have HR := Lib.hid (reg_twice H0.out HI.out h3)
        obtain ⟨g, gcap, -, rfl, k3⟩ := hQ.1 h3
        have kk3 := KK2.out.trans (k3.mono KK2.out.size)
        clear hQ h3 k3 CU
        generalize (idxOf (loadC t xs) me).toNat * 8 = z at *
        go_wp2
        go_ret2
        exact RegP.none HR.out below_auto
      · have HR := Lib.hid (reg_keep H0.out HI.out (by omega : idxOf (loadC t xs) me < 0))
        obtain ⟨rfl, k3⟩ := hQ.2 (by omega)
        have kk3 := KK2.out.trans (k3.mono KK2.out.size)
        have KP := Lib.hid (shopkeep_any sg bv (.slice a xs.length cap) tv (I t.f) (I t.b) (I t.d) (I t.al) xs 1 me 0 0 0 0 0 0 0 0 0 0 0 w3 (HS2.out.below k3) (HC.out.below kk3) HW.out (load_120 H0.out))
        have KK3 := Lib.hid kk3
        clear hQ h3 k3 CU kk3
        go_wp2_with fail
        refine KP.out.mono ?_
        rintro e w4 ⟨u, rfl, hu, k4⟩
        have kk4 := KK3.out.trans (k4.mono KK3.out.size)
        have HU := Lib.hid hu
        obtain ⟨ua, uc, rfl, -⟩ := id hu
        clear hu k4 KP
        go_wp2
        go_ret2
        exact RegP.some HR.out HU.out kk4
  · obtain ⟨rfl, k1⟩ := hP.2 h0
    have HR := Lib.hid (reg_load (me := me) h0)
    have kk := KB.out.trans (k1.mono KB.out.size)
    have hb : (loadE t xs != 0) = true := by simp [h0]
    clear hP h0 P k1
    generalize loadE t xs = E at *
    go_wp2
    go_ret2
    exact RegP.none HR.out kk
set_option maxHeartbeats 4000000 in
theorem VendRegister_any (t : PTerms) (tv cv : Value) (xs : List Int) (me : Int) (w : World) (ht : Sl w tv 2 t.ts.length (t.ts.flatMap AStep.cells)) (hc : Sl w cv 1 xs.length (xs.map U32)) (hw : ∀ x ∈ xs, W32 x) :
    Calls Try.prog 23 #[.agg #[tv, I t.f, I t.b, I t.d, I t.al], cv, I me] w (RegP t xs me w) := by
  have kB := boxed_below w (.cells #[tv, I t.f, I t.b, I t.d, I t.al] 24)
  have oT := Own.new (w := w) rfl [tv, I t.f, I t.b, I t.d, I t.al] 24
  have P := Lib.hid (Loaded_any t tv cv xs _ (ht.below kB) (hc.below kB) hw)
  have KB := Lib.hid kB
  have HC := Lib.hid hc
  have HW := Lib.hid hw
  have tO := oT
  have tfA := tO.f; have t0 := tO.c0; have t1 := tO.c1; have t2 := tO.c2; have t3 := tO.c3; have t4 := tO.c4
  clear tO
  obtain ⟨a, cap, rfl, -⟩ := id hc
  clear hw ht kB oT hc
  go_enter Try.func23, Try.ntmps23
  go_wp2_with fail
  refine P.out.mono ?_
  rintro e w1 ⟨bv, ys, rfl, hb, k1⟩
  have kA := boxed_below w1 (.cells #[bv] 29)
  have oA := Own.new (w := w1) rfl [bv] 29
  have kk := (KB.out.trans (k1.mono KB.out.size)).trans (kA.mono (Nat.le_trans KB.out.size k1.size))
  have HB := Lib.hid (hb.below kA)
  have KK := Lib.hid kk
  have OA := Lib.hid oA
  obtain ⟨ba, bc, rfl⟩ := book_slice hb
  clear t0 t1 t2 t3 t4 tfA P hb k1 kA oA kk
  by_cases h0 : loadE t xs = 0
  · have H0 := Lib.hid h0
    rw [h0]
    cases hi : inB me 0 49
    · have HR := Lib.hid (reg_range (me := me) H0.out hi)
      have IN := Lib.hid (fun W => In_any me 0 49 W)
      rw [hi] at IN
      have kk := KK.out
      clear hi h0
      go_wp2_with fail
      refine (IN.out _).mono ?_
      rintro e w' ⟨rfl, rfl⟩
      go_wp2
      go_ret2
      exact RegP.none HR.out kk
    · have HI := Lib.hid hi
      have IN := Lib.hid (fun W => In_any me 0 49 W)
      rw [hi] at IN
      have hbd := (loadC_bd t xs).1
      have FD := Lib.hid (Found_any _ ys me _ (HB.out.sl (by omega)))
      rw [book_found HB.out] at FD
      clear hi h0 hbd
      go_wp2_with fail
      refine (IN.out _).mono ?_
      rintro e w' ⟨rfl, rfl⟩
      have bO := OA.out
      have bfA := bO.f; have b0 := bO.c0
      clear bO
      go_wp2_with fail
      refine FD.out.mono ?_
      rintro e w3 ⟨rfl, k3⟩
      have kk3 := KK.out.trans (k3.mono KK.out.size)
      clear b0 bfA FD IN
      by_cases h3 : 0 ≤ idxOf (loadC t xs) me
      · have HR := Lib.hid (reg_twice H0.out HI.out h3)
        clear k3
        generalize idxOf (loadC t xs) me = at_ at *
        go_wp2
        go_ret2
        exact RegP.none HR.out kk3
      · have HR := Lib.hid (reg_keep H0.out HI.out (by omega : idxOf (loadC t xs) me < 0))
        have KP := Lib.hid (keeps_any (.slice a xs.length cap) xs 1 me 0 0 0 0 0 0 0 0 0 0 0 w3 (HC.out.below kk3) HW.out)
        have KK3 := Lib.hid kk3
        have h3' : idxOf (loadC t xs) me < 0 := by omega
        clear k3 kk3 h3
        generalize idxOf (loadC t xs) me = at_ at *
        go_wp2_with fail
        refine KP.out.mono ?_
        rintro e w4 ⟨u, rfl, hu, k4⟩
        have kk4 := KK3.out.trans (k4.mono KK3.out.size)
        have HU := Lib.hid hu
        obtain ⟨ua, uc, rfl, -⟩ := id hu
        clear hu k4 KP
        go_wp2
        go_ret2
        exact RegP.some HR.out HU.out kk4
  · have HR := Lib.hid (reg_load (me := me) h0)
    have hb : (loadE t xs != 0) = true := by simp [h0]
    have kk := KK.out
    clear h0 HB
    generalize loadE t xs = E at *
    go_wp2
    go_ret2
    exact RegP.none HR.out kk
end Go.Proofs.Ytenoigmkhlnfoaa
