/- vend.Load, ref.Loaded · disk.Append and its reference · ref.Appended · (*vend.shop).customer, (*vend.shop).keep, ref.keeps · token.fault, token.Body and their references -/
import Derived.Test.YtdjgcenjonegjaaGreatPk40
import Derived.Test.YtdjgcenjonegjaaGreatBookOfR
import Derived.Test.YtdjgcenjonegjaaGreatPk26
import Derived.Test.YtdjgcenjonegjaaGreatPk06
import Derived.Test.YtdjgcenjonegjaaGreatPk01
import Derived.Test.YtdjgcenjonegjaaGreatOwn
import Derived.OwnWalk
set_option maxRecDepth 20000
set_option maxHeartbeats 8000000
set_option linter.unusedSimpArgs false
set_option linter.unusedVariables false
namespace Go.Proofs.YtdjgcenjonegjaaGreat
section
open Go Go.RowKit
theorem Loaded_any (t : PTerms) (tv cv : Value) (xs : List Int) (w : World) (ht : Sl w tv 2 t.ts.length (t.ts.flatMap AStep.cells)) (hc : Sl w cv 1 xs.length (xs.map U32)) (hw : ∀ x ∈ xs, W32 x) :
    Calls Tryz.prog 23 #[.agg #[tv, I t.f, I t.b, I t.d, I t.al], cv] w (LoadP t xs w) := by
  obtain ⟨kB, oT, oZ⟩ := boxes2 w [tv, I t.f, I t.b, I t.d, I t.al] 24 [.slice none 0 0] 76; have K := Lib.hid (Kept_any cv xs _ (hc.below kB) hw); have OF := Lib.hid (fun lv W h1 h2 => BookOf_any t tv lv (keptL xs) W h1 h2); have HT := Lib.hid ht; have KB := Lib.hid kB; have OT := Lib.hid oT; have OZ := Lib.hid oZ; obtain ⟨a, cap, rfl, -⟩ := hc; clear hw ht kB oT oZ; go_enter Tryz.func23, Tryz.ntmps23
  go_wp2_with fail
  refine K.out.mono ?_; rintro e w1 ⟨lv, rfl, hl, k1⟩; have oZ1 := OZ.out.below k1; have oT1 := OT.out.below k1; have kk := KB.out.trans (k1.mono KB.out.size); have hsz := kk.size
  by_cases h0 : keptE xs = 0
  · have P := Lib.hid (OF.out lv w1 (HT.out.below kk) hl)
    have H0 := Lib.hid h0; rw [h0]; have OZ1 := Lib.hid oZ1; have KK := Lib.hid kk; obtain ⟨la, lc, rfl, -⟩ := id hl; have tO := oT1; have tA := tO.s5; clear tO; clear hl k1 h0 OF K OT OZ oT1 oZ1 kk
    go_wp2_with fail
    refine P.out.mono ?_; rintro e w5 ⟨bv, ys, rfl, hb5, k5⟩; have kk5 := KK.out.trans (k5.mono KK.out.size); have oZ5 := OZ1.out.below k5; have kA := boxed_below w5 (.cells #[bv] 76); have oA := Own.new (w := w5) rfl [bv] 76; have oZ6 := oZ5.below kA; have hb6 := hb5.below kA; have kk6 := kk5.trans (kA.mono kk5.size); have n6 : ¬ w.heap.size + 1 = w5.heap.size := by have := oZ5.lt; omega
    have n7 : ¬ w5.heap.size = w.heap.size + 1 := by omega
    have hlt : w.heap.size + 1 < w1.heap.size := OZ1.out.lt; obtain ⟨ba, bc, rfl⟩ := book_slice hb6; have hB2 := Lib.hid (hb6.low (z := w.heap.size + 1) hlt 0 (.slice ba (bookR t (keptL xs)).2.2.length bc)); have kk7 := kk6.setCell (p := ⟨w.heap.size + 1, 0, none⟩) (by simp) (.slice ba (bookR t (keptL xs)).2.2.length bc); have r1 := set_same; have r2 := set_off; have r3 := set_blk; have zO := oZ6; have zA := zO.s1; clear zO; have bO := oA; have bA := bO.s1; clear bO; have HC := Lib.hid (show (bookR t (keptL xs)).2.2 = (bookR t (keptL xs)).2.2 from rfl); generalize hE : (bookR t (keptL xs)).1 = E at *; have HE := Lib.hid hE; generalize (bookR t (keptL xs)).2.1 = pl at *; generalize hcs : (bookR t (keptL xs)).2.2 = cs at *; have HCS := Lib.hid hcs; clear tA k5 P hb5 oZ5 oZ6 oA kA kk5 kk6 hb6 hE hcs HC; go_wp2; exact bodyPost_ret (v := T2 (.agg #[.slice ba cs.length bc]) (I E)) (by simp [results, Tryz.results23, go_sem, *]; try omega) rfl (LoadP.good H0.out HE.out HCS.out hB2.out hsz kk7)
  · have hb : (keptE xs != 0) = true := by simp [h0]
    have H0 := Lib.hid h0; have r1 := set_same; have zO := oZ1; have zA := zO.s1; clear zO; clear hl k1 h0 OF K OT OZ oT1 oZ1; generalize hE : keptE xs = E at *; have HE := Lib.hid hE; clear hE; go_wp2; exact bodyPost_ret (v := T2 (.agg #[.slice none 0 0]) (I E)) (by simp [results, Tryz.results23, go_sem, *]; try omega) rfl (LoadP.bad HE.out H0.out below_autor)
end
section
open Go.RowKit
def putD (a : Int) (rec : List Int) (k : Nat) : List AWrite := (List.range k).map fun (i : Nat) => ⟨a + 1 + i, rec.getD i 0⟩
def appE (xs rec : List Int) : Int := if inB rec.length 1 64 then (if tapeE xs = 0 then (if (xs.length : Int) < tapeA xs + 1 + rec.length then 16 else 0) else tapeE xs) else 1
def appL (xs rec : List Int) : List AWrite :=
  if appE xs rec = 0 then putD (tapeA xs) rec rec.length ++ (if tapeA xs + 1 + rec.length < xs.length then [⟨tapeA xs + 1 + rec.length, 0⟩] else []) ++ [⟨tapeA xs, rec.length⟩] else []
def OutD (w : World) (L : List AWrite) (v : Value) (wr : World) : Prop := wr.ownsRow w.heap.size 98 2 v L.length (L.flatMap AWrite.cells) ∧ Below w.heap.size w wr
end
section
open Go.RowKit
end
section
open Go Go.RowKit
/-- a shop's customer: its place in the book's row -/
def CustP (bv : Value) (cs : List PCust) (me : Int) (w : World) (e : Ending) (w' : World) : Prop :=
  (0 ≤ idxOf cs me → ∃ g cap, bv = .slice (some ⟨g, 0, none⟩) cs.length cap ∧ e = .returned (T2 (.pointer (some ⟨g, (idxOf cs me).toNat * 8, none⟩)) (I 0)) ∧ Below w.heap.size w w') ∧
  (idxOf cs me < 0 → e = .returned (T2 (.pointer none) (I 18)) ∧ Below w.heap.size w w')
theorem customer_any (sg B : Nat) (bv cv tv x1 x2 x3 x4 n : Value) (cs : List PCust) (ys : List ACust) (me : Int) (w : World) (hs : Own w sg [bv, tv, x1, x2, x3, x4, cv, n]) (hB : BookAt w B bv cs ys) (hn : cs.length ≤ 4096) :
    Calls Tryz.prog 20 #[.pointer (some ⟨sg, 0, none⟩), I me] w (CustP bv cs me w) := by
  have F := Lib.hid (Find_any bv ys me w (hB.sl (by omega))); unfold findA findE at F; rw [book_found hB] at F; have hbd := idxOf_bd cs me; have HS := Lib.hid hs; obtain ⟨a, c, rfl⟩ := book_slice hB
  by_cases h0 : idxOf cs me < 0
  · rw [if_pos h0, if_pos h0] at F
    have H0 := Lib.hid h0; have sO := hs; have sA := sO.s8; clear sO; clear hs hbd h0; go_enter Tryz.func20, Tryz.ntmps20
    go_wp2_with fail
    refine F.out.mono ?_; rintro e w1 ⟨rfl, k1⟩; clear sA; go_wp2; go_ret2; exact ⟨fun h => absurd H0.out (by omega), fun _ => ⟨rfl, k1⟩⟩
  · rw [if_neg h0, if_neg h0] at F
    obtain ⟨j, hj⟩ := Int.eq_ofNat_of_zero_le (show 0 ≤ idxOf cs me by omega); have hjl : j < cs.length := by omega
    obtain ⟨g, cap, hv, hg1, hg2⟩ := owns_pos hB.2.1 (by omega); simp only [Value.slice.injEq] at hv; obtain ⟨rfl, -, rfl⟩ := hv; rw [hj] at F; have HJ := Lib.hid hj; have hj0 : (0 : Int) ≤ (j : Int) := by omega
    have hj1 : (j : Int) < (cs.length : Int) := by omega
    have sO := hs; have sA := sO.s8; clear sO; clear hs hbd h0 hj; go_enter Tryz.func20, Tryz.ntmps20
    go_wp2_with fail
    refine F.out.mono ?_; rintro e w1 ⟨rfl, k1⟩; clear sA; have sO := HS.out.below k1; have sA := sO.s8; clear sO; go_wp2; go_ret2; refine ⟨fun _ => ⟨g, c, rfl, ?_, k1⟩, fun h => ?_⟩
    · rw [HJ.out]; rfl
    · have := HJ.out; omega
/-- the words of an event -/
def evWords (v : AEvent) : List Int := [v.kind, v.meter, v.month, v.bill.id, v.bill.tender, v.bill.debt, v.bill.fee, v.bill.price, v.bill.change, v.bill.units, v.tag, v.debt.owed, v.debt.bp]
def keepsE (xs : List Int) (v : AEvent) : Int := if 120 ≤ (keptL xs).length then 16 else if v.may then appE xs (evWords v) else 5
def keepsL (xs : List Int) (v : AEvent) : List AWrite := if 120 ≤ (keptL xs).length then [] else if v.may then appL xs (evWords v) else []
def KeepsP (xs : List Int) (v : AEvent) (w : World) (e : Ending) (w' : World) : Prop := GrewSl2 2 (keepsL xs v).length ((keepsL xs v).flatMap AWrite.cells) (keepsE xs v) w e w'
end
section
open Go.RowKit

def amtOk (c m : Int) : Bool := if c = 0 then inB m 1 2097151 else if c = 2 then inB m 1 15 else m == 0
def tokFault (x : AToken) : Int := if inB x.class_ 0 3 then (if inB x.id 1 1048575 && inB x.tag 0 65535 && amtOk x.class_ x.amount then 0 else 2) else 9
theorem tokFault_zero {x : AToken} (h : tokFault x = 0) : (0 ≤ x.class_ ∧ x.class_ ≤ 3) ∧ (1 ≤ x.id ∧ x.id ≤ 1048575) ∧ (0 ≤ x.tag ∧ x.tag ≤ 65535) ∧ (0 ≤ x.amount ∧ x.amount ≤ 2097151) := by
  unfold tokFault at h
  split at h
  · rename_i h1
    split at h
    · rename_i h2
      simp only [Bool.and_eq_true, inB_true] at h1 h2; refine ⟨h1, h2.1.1, h2.1.2, ?_⟩; have h3 := h2.2; unfold amtOk at h3
      split at h3
      · rw [inB_true] at h3; omega
      · split at h3
        · rw [inB_true] at h3; omega
        · rw [beq_iff_eq] at h3; omega
    · omega
  · omega
def boundsL (c : Int) : Int := if c = 0 then 1 else if c = 2 then 1 else 0
def boundsH (c : Int) : Int := if c = 0 then 2097151 else if c = 2 then 15 else 0
theorem bounds_any (c : Int) (w : World) : Calls Tryz.prog 126 #[I c] w (Pure (.tuple #[I (boundsL c), I (boundsH c), .bool (inB c 0 3)]) w) := by
  by_cases h0 : c = 0
  · subst h0
    go_enter Tryz.func126, Tryz.ntmps126; go_wp2; go_ret3; exact Pure.intro rfl
  by_cases h1 : c = 1
  · subst h1
    go_enter Tryz.func126, Tryz.ntmps126; go_wp2; go_ret3; exact Pure.intro rfl
  by_cases h2 : c = 2
  · subst h2
    go_enter Tryz.func126, Tryz.ntmps126; go_wp2; go_ret3; exact Pure.intro rfl
  by_cases h3 : c = 3
  · subst h3
    go_enter Tryz.func126, Tryz.ntmps126; go_wp2; go_ret3; exact Pure.intro rfl
  have hL : boundsL c = 0 := by simp [boundsL, h0, h2]
  have hH : boundsH c = 0 := by simp [boundsH, h0, h2]
  have hB : inB c 0 3 = false := by rw [inB_false]; omega
  rw [hL, hH, hB]; clear hL hH hB; go_enter Tryz.func126, Tryz.ntmps126; go_wp2; go_ret3; exact Pure.intro rfl
theorem tokFault_by {x : AToken} : tokFault x = if inB x.class_ 0 3 then (if x.id < 1 ∨ x.id > 1048575 ∨ x.amount < boundsL x.class_ ∨ x.amount > boundsH x.class_ ∨ x.tag < 0 ∨ x.tag > 65535 then 2 else 0) else 9 := by
  unfold tokFault; cases hB : inB x.class_ 0 3
  · rfl
  · rw [inB_true] at hB
    simp only [if_true]
    by_cases h : x.id < 1 ∨ x.id > 1048575 ∨ x.amount < boundsL x.class_ ∨ x.amount > boundsH x.class_ ∨ x.tag < 0 ∨ x.tag > 65535
    · rw [if_pos h, if_neg]
      simp only [Bool.and_eq_true, inB_true]; intro h2; have h3 := h2.2; unfold amtOk at h3; unfold boundsL boundsH at h
      split at h3
      · rename_i hc
        simp only [hc, if_true] at h; rw [inB_true] at h3; omega
      · rename_i hc
        simp only [hc, if_false] at h
        split at h3
        · rename_i hc2
          simp only [hc2, if_true] at h; rw [inB_true] at h3; omega
        · rename_i hc2
          simp only [hc2, if_false] at h; rw [beq_iff_eq] at h3; omega
    · rw [if_neg h, if_pos]
      simp only [Bool.and_eq_true, inB_true]; refine ⟨⟨by omega, by omega⟩, ?_⟩; unfold amtOk; unfold boundsL boundsH at h
      split
      · rename_i hc
        simp only [hc, if_true] at h; rw [inB_true]; omega
      · rename_i hc
        simp only [hc, if_false] at h
        split
        · rename_i hc2
          simp only [hc2, if_true] at h; rw [inB_true]; omega
        · rename_i hc2
          simp only [hc2, if_false] at h; rw [beq_iff_eq]; omega
theorem tkfault_any (x : AToken) (w : World) : Calls Tryz.prog 83 #[.agg x.cells.toArray] w (Grew (I (tokFault x)) w) := by
  have B := Lib.hid (fun W => bounds_any x.class_ W); have HF := Lib.hid (tokFault_by (x := x)); generalize tokFault x = r at *; obtain ⟨c, i, m, t⟩ := x; simp only at B HF; show Calls Tryz.prog 83 #[.agg #[I c, I i, I m, I t]] w (Grew (I r) w); generalize boundsL c = lo at *; generalize boundsH c = hi at *; cases hb : inB c 0 3
  · rw [hb] at B HF
    have hr := HF.out; simp only [Bool.false_eq_true, if_false] at hr; subst hr; go_enter Tryz.func83, Tryz.ntmps83
    go_wp2_with fail
    refine (B.out _).mono ?_; rintro e w' ⟨rfl, rfl⟩; go_wp2; go_ret; exact Grew.intro rfl below_auto
  · rw [hb] at B HF
    have hr := HF.out; simp only [if_true] at hr; have HR := Lib.hid hr; clear hr HF; go_enter Tryz.func83, Tryz.ntmps83
    go_wp2_with fail
    refine (B.out _).mono ?_; rintro e w' ⟨rfl, rfl⟩; go_wp2
    all_goals
      go_ret; refine Grew.intro (eI ?_) below_auto; rw [HR.out]; simp [*]
      try omega
theorem TokenFault_any (x : AToken) (w : World) : Calls Tryz.prog 47 #[.agg x.cells.toArray] w (Grew (I (tokFault x)) w) := by
  have HF := Lib.hid (show tokFault x = _ from by unfold tokFault amtOk; rfl); generalize tokFault x = r at *; obtain ⟨c, i, m, t⟩ := x; simp only at HF; show Calls Tryz.prog 47 #[.agg #[I c, I i, I m, I t]] w (Grew (I r) w); cases h1 : inB c 0 3
  · have hr := HF.out
    simp only [h1, Bool.false_eq_true, if_false] at hr; subst hr; go_enter Tryz.func47, Tryz.ntmps47
    go_wp2_with (go_at_call 57; refine (In_any _ _ _ _).mono ?_; rintro e w' ⟨rfl, rfl⟩)
    go_ret; exact Grew.intro rfl below_auto
  · obtain ⟨c0, c1⟩ := inB_true.1 h1
    cases h2 : inB i 1 1048575
    · have hr := HF.out
      simp only [h1, h2, Bool.false_eq_true, if_true, if_false, Bool.false_and] at hr; subst hr; go_enter Tryz.func47, Tryz.ntmps47
      go_wp2_with (go_at_call 57; refine (In_any _ _ _ _).mono ?_; rintro e w' ⟨rfl, rfl⟩)
      go_ret; exact Grew.intro rfl below_auto
    · cases h3 : inB t 0 65535
      · have hr := HF.out
        simp only [h1, h2, h3, Bool.false_eq_true, if_true, if_false, Bool.true_and, Bool.false_and] at hr; subst hr; go_enter Tryz.func47, Tryz.ntmps47
        go_wp2_with (go_at_call 57; refine (In_any _ _ _ _).mono ?_; rintro e w' ⟨rfl, rfl⟩)
        go_ret; exact Grew.intro rfl below_auto
      · have hr := HF.out
        simp only [h1, h2, h3, if_true, Bool.true_and] at hr; have HR := Lib.hid hr; clear hr HF
        by_cases q0 : c = 0
        · subst q0
          cases h4 : inB m 1 2097151
          all_goals
            have hr := HR.out; simp only [h4, Bool.false_eq_true, if_true, if_false] at hr; subst hr; clear HR; go_enter Tryz.func47, Tryz.ntmps47
            go_wp2_with (go_at_call 57; refine (In_any _ _ _ _).mono ?_; rintro e w' ⟨rfl, rfl⟩)
            go_ret; exact Grew.intro rfl below_auto
        · by_cases q2 : c = 2
          · subst q2
            cases h4 : inB m 1 15
            all_goals
              have hr := HR.out; simp only [h4, q0, Bool.false_eq_true, if_true, if_false] at hr; subst hr; clear HR; go_enter Tryz.func47, Tryz.ntmps47
              go_wp2_with (go_at_call 57; refine (In_any _ _ _ _).mono ?_; rintro e w' ⟨rfl, rfl⟩)
              go_ret; exact Grew.intro rfl below_auto
          · have hr := HR.out
            simp only [q0, q2, if_false] at hr; clear HR
            by_cases hm : m = 0
            · have hr2 : r = 0 := by rw [hr]; simp [hm]
              subst hr2; clear hr
              by_cases q1 : c = 1
              all_goals
                have q3 : c = 1 ∨ c = 3 := by omega
                go_enter Tryz.func47, Tryz.ntmps47
                go_wp2_with (go_at_call 57; refine (In_any _ _ _ _).mono ?_; rintro e w' ⟨rfl, rfl⟩)
                go_ret; exact Grew.intro rfl below_auto
            · have hr2 : r = 2 := by rw [hr]; simp [hm]
              subst hr2; clear hr
              by_cases q1 : c = 1
              · subst q1
                go_enter Tryz.func47, Tryz.ntmps47
                go_wp2_with (go_at_call 57; refine (In_any _ _ _ _).mono ?_; rintro e w' ⟨rfl, rfl⟩)
                go_ret; exact Grew.intro rfl below_auto
              · have q3 : c = 3 := by omega
                subst q3; go_enter Tryz.func47, Tryz.ntmps47
                go_wp2_with (go_at_call 57; refine (In_any _ _ _ _).mono ?_; rintro e w' ⟨rfl, rfl⟩)
                go_ret; exact Grew.intro rfl below_auto
def bodyN (x : AToken) : Int := x.class_ * 2199023255552 + x.id * 2097152 + x.amount
def bodyV (x : AToken) : Int := if tokFault x = 0 then bodyN x else 0
theorem BodyOf_any (x : AToken) (w : World) : Calls Tryz.prog 31 #[.agg x.cells.toArray] w (Grew (T2 (I (bodyV x)) (I (tokFault x))) w) := by
  have B := Lib.hid (fun W => TokenFault_any x W); have HZ := Lib.hid (fun h => tokFault_zero (x := x) h); have HV := Lib.hid (show bodyV x = if tokFault x = 0 then bodyN x else 0 from rfl); generalize bodyV x = v at *; have HN := Lib.hid (show bodyN x = _ from by unfold bodyN; rfl); generalize bodyN x = u at *; generalize tokFault x = r at *; obtain ⟨c, i, m, t⟩ := x; simp only at HZ HN; show Calls Tryz.prog 31 #[.agg #[I c, I i, I m, I t]] w _
  by_cases hr : r = 0
  · obtain ⟨⟨c0, c1⟩, ⟨i0, i1⟩, ⟨t0, t1⟩, m0, m1⟩ := HZ.out hr
    have hv : v = u := by rw [HV.out, if_pos hr]
    subst hr; subst hv; go_enter Tryz.func31, Tryz.ntmps31
    go_wp2_with fail
    refine (B.out _).mono ?_; rintro e w' ⟨rfl, k1⟩; have dO := (Own.new (w := w) rfl [I c, I i, I m, I t] 72).below k1; have dA := dO.s4; clear dO; have k := below_box k1; clear k1; go_wp2; have hu := HN.out; go_ret2; exact ⟨by rw [hu]; rfl, below_auto⟩
  · have hv : v = 0 := by rw [HV.out, if_neg hr]
    subst hv; go_enter Tryz.func31, Tryz.ntmps31
    go_wp2_with fail
    refine (B.out _).mono ?_; rintro e w' ⟨rfl, k1⟩; have dO := (Own.new (w := w) rfl [I c, I i, I m, I t] 72).below k1; have dA := dO.s4; clear dO; have k := below_box k1; clear k1; go_wp2; go_ret2; exact ⟨rfl, below_auto⟩
end
end Go.Proofs.YtdjgcenjonegjaaGreat
