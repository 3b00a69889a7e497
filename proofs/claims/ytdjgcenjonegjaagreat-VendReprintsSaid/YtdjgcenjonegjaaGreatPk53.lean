/- vend.Reprint, ref.Reprinted · are two lists the same? · are two lists the same? · words: new memory for a list (made by wip/bin/gen_api.py) -/
import Derived.Test.YtdjgcenjonegjaaGreatPk44
import Derived.Test.YtdjgcenjonegjaaGreatPk52
import Derived.Test.YtdjgcenjonegjaaGreatPk00
import Derived.Test.YtdjgcenjonegjaaGreatPk01
set_option maxRecDepth 20000
set_option maxHeartbeats 8000000
set_option linter.unusedSimpArgs false
set_option linter.unusedVariables false
namespace Go.Proofs.YtdjgcenjonegjaaGreat
section
open Go Go.RowKit
def soldTok (s : ASold) : AToken := ⟨s.class_, s.id, s.amount, s.tag⟩
def soldOf (t : PTerms) (xs : List Int) (me : Int) : List ASold := ((loadC t xs).getD (idxOf (loadC t xs) me).toNat default).sold
def repS (t : PTerms) (xs : List Int) (me id : Int) : Option ASold := (soldOf t xs me).find? fun s => s.id == id
def repE (t : PTerms) (xs : List Int) (me id : Int) : Int := if loadE t xs = 0 then (if 0 ≤ idxOf (loadC t xs) me then (match repS t xs me id with | some s => tokFault (soldTok s) | none => 22) else 18) else loadE t xs
def repT (t : PTerms) (xs : List Int) (me id : Int) : ByteArray := if loadE t xs = 0 then (if 0 ≤ idxOf (loadC t xs) me then (match repS t xs me id with | some s => fmtT (soldTok s) | none => ⟨#[]⟩) else ⟨#[]⟩) else ⟨#[]⟩
def RepP (t : PTerms) (xs : List Int) (me id : Int) (w : World) (e : Ending) (w' : World) : Prop := Grew (T2 (.string (repT t xs me id)) (I (repE t xs me id))) w e w'
theorem RepP.intro {t : PTerms} {xs : List Int} {me id : Int} {w w' : World} {k : Int} {s : ByteArray} (h : repE t xs me id = k ∧ repT t xs me id = s) (hb : Below w.heap.size w w') : RepP t xs me id w (.returned (T2 (.string s) (I k))) w' := by
  unfold RepP; rw [h.1, h.2]; exact ⟨rfl, hb⟩
theorem rep_load {t : PTerms} {xs : List Int} {me id : Int} (h : loadE t xs ≠ 0) : repE t xs me id = loadE t xs ∧ repT t xs me id = ⟨#[]⟩ := by unfold repE repT; rw [if_neg h, if_neg h]; exact ⟨rfl, rfl⟩
theorem rep_none {t : PTerms} {xs : List Int} {me id : Int} (h : loadE t xs = 0) (h2 : idxOf (loadC t xs) me < 0) : repE t xs me id = 18 ∧ repT t xs me id = ⟨#[]⟩ := by
  unfold repE repT; rw [if_pos h, if_pos h, if_neg (by omega), if_neg (by omega)]; exact ⟨rfl, rfl⟩
theorem rep_miss {t : PTerms} {xs : List Int} {me id : Int} {l : List ASold} (h : loadE t xs = 0) (h2 : 0 ≤ idxOf (loadC t xs) me) (hl : soldOf t xs me = l) (h3 : ∀ q, q < l.length → (l.getD q default).id ≠ id) : repE t xs me id = 22 ∧ repT t xs me id = ⟨#[]⟩ := by
  have e : repS t xs me id = none := by
    unfold repS; rw [hl, List.find?_eq_none]; intro s hs; obtain ⟨q, hq, rfl⟩ := List.getElem_of_mem hs; have := h3 q hq; rw [List.getD_eq_getElem?_getD, List.getElem?_eq_getElem hq] at this; simpa using this
  unfold repE repT; rw [if_pos h, if_pos h, if_pos h2, if_pos h2, e]; exact ⟨rfl, rfl⟩
theorem rep_hit {t : PTerms} {xs : List Int} {me id : Int} {l : List ASold} {k : Nat} {s : ASold} (h : loadE t xs = 0) (h2 : 0 ≤ idxOf (loadC t xs) me) (hl : soldOf t xs me = l) (h3 : ∀ q, q < k → (l.getD q default).id ≠ id) (hk : k < l.length) (hs : l.getD k default = s) (he : s.id = id) :
    repE t xs me id = tokFault (soldTok s) ∧ repT t xs me id = fmtT (soldTok s) := by
  have e : repS t xs me id = some s := by
    unfold repS; rw [hl, List.find?_eq_some_iff_getElem]; refine ⟨by simpa using he, k, hk, ?_, fun j hj => ?_⟩
    · rw [← hs, List.getD_eq_getElem?_getD, List.getElem?_eq_getElem hk]; rfl
    · have := h3 j hj
      rw [List.getD_eq_getElem?_getD, List.getElem?_eq_getElem (show j < l.length by omega)] at this; simpa using this
  unfold repE repT; rw [if_pos h, if_pos h, if_pos h2, if_pos h2, e]; exact ⟨rfl, rfl⟩
theorem Reprint_any (t : PTerms) (tv cv : Value) (xs : List Int) (me id : Int) (w : World) (ht : Sl w tv 2 t.ts.length (t.ts.flatMap AStep.cells)) (hc : Sl w cv 1 xs.length (xs.map U32)) (hw : ∀ x ∈ xs, W32 x) :
    Calls Tryz.prog 8 #[.agg #[tv, I t.f, I t.b, I t.d, I t.al], cv, I me, I id] w (RepP t xs me id w) := by
  have kB := boxed_below w (.cells #[tv, I t.f, I t.b, I t.d, I t.al] 24); have oT := Own.new (w := w) rfl [tv, I t.f, I t.b, I t.d, I t.al] 24; have P := Lib.hid (open_any t tv cv xs _ (ht.below kB) (hc.below kB) hw); have KB := Lib.hid kB; have FM := Lib.hid (fun c i m g W => Format_any c i m g W); unfold FmtP at FM; have tO := oT; have tA := tO.s5; clear tO; obtain ⟨a, cap, rfl, -⟩ := _root_.id hc; clear hw ht kB oT hc; go_enter Tryz.func8, Tryz.ntmps8
  go_wp2_with fail
  refine P.out.mono ?_; rintro e w1 hP; unfold OpenP at hP; clear tA
  by_cases h0 : loadE t xs = 0
  · obtain ⟨sg, bv, ys, rfl, hs, hb, k1⟩ := hP.1 h0
    have kk := KB.out.trans (k1.mono KB.out.size); have HB := Lib.hid hb; have KK := Lib.hid kk; have H0 := Lib.hid h0; have hbd := loadC_bd t xs; have CU := Lib.hid (customer_any sg _ bv (.slice a xs.length cap) tv (I t.f) (I t.b) (I t.d) (I t.al) (I ((keptL xs).length : Nat)) (loadC t xs) ys me _ hs hb (by omega)); clear hP h0 P hs k1 kk
    go_wp2_with fail
    refine CU.out.mono ?_; rintro e w2 hQ; unfold CustP at hQ
    by_cases h3 : 0 ≤ idxOf (loadC t xs) me
    · obtain ⟨j, hj⟩ := Int.eq_ofNat_of_zero_le h3
      have hjl : j < (loadC t xs).length := by rcases idxOf_bd (loadC t xs) me with h | h <;> omega
      obtain ⟨g, gcap, rfl, rfl, k2⟩ := hQ.1 h3; have H3 := Lib.hid h3; have HSO := Lib.hid (show soldOf t xs me = ((loadC t xs).getD j default).sold by unfold soldOf; rw [hj]; rfl); have hsl : ((loadC t xs).getD j default).sold.length ≤ 120 := hbd.2 _ (by rw [List.getD_eq_getElem?_getD, List.getElem?_eq_getElem hjl]; exact List.getElem_mem hjl); rw [hj, Int.toNat_natCast]; have kk2 := KK.out.trans (k2.mono KK.out.size); have hb2 := HB.out.below k2; have hcell := book_cells hb2 hjl; have hCR := hb2.2.2.1 j hjl; have KK2 := Lib.hid kk2; generalize ys.getD j default = x at *; generalize (loadC t xs).getD j default = c at *; obtain ⟨hxe, hSd, hSo⟩ := hCR; obtain ⟨m1, m2, m3, m4, m5, m6, da, dn, dc, sa, sn, sc⟩ := x; simp only [ofCust, ACust.mk.injEq, true_and, and_true] at hxe; obtain ⟨rfl, rfl, rfl, rfl, rfl, rfl, rfl, rfl⟩ := hxe; obtain ⟨⟨m1, m2, m3, m4, m5, m6⟩, ds, ss⟩ := c; simp only at hSo HSO hcell hsl; have y7 := hcell 7 (by decide); simp only [ACust.cells, List.getD_cons_zero, List.getD_cons_succ, Nat.add_zero] at y7; have hSS := Sl.of_owns hSo (by omega); obtain ⟨sa', sc', hsv, -, -, -, hr⟩ := hSS; simp only [Value.slice.injEq] at hsv; obtain ⟨rfl, -, rfl⟩ := hsv; have hj0 : (0 : Int) ≤ (j : Int) := by omega
      have HW2 : Hid ((∀ q, q < 0 → (ss.getD q default).id ≠ id) ∧ Below w2.heap.size w2 w2) := Lib.hid ⟨fun q hq => by omega, Below.refl _ _⟩; clear hQ h3 k2 CU hb hb2 kk2 hcell hSd hSo hj hbd hjl; go_wp2
      go_loopw [38] (fun i wr => ∃ k : Nat, k ≤ ss.length ∧ i = I k ∧ Hid ((∀ q, q < k → (ss.getD q default).id ≠ id) ∧ Below w2.heap.size w2 wr)) (fun i _ => ss.length - (intOf i).toNat)
      case atStart => exact ⟨0, Nat.zero_le _, rfl, HW2⟩
      case round =>
        obtain ⟨k, hk, rfl, HD⟩ := hrel; have hbw := HD.out.2
        by_cases hlt : k < ss.length
        · obtain ⟨b, off, rfl, hbl, hcl⟩ := hr.resolve_left (by omega)
          obtain ⟨e0, e1, e2, e3, e4⟩ := elSold hbl hcl hbw k hlt; have HH := Lib.hid (fun s hs he => rep_hit (t := t) (xs := xs) (me := me) (id := id) (k := k) (s := s) H0.out H3.out HSO.out HD.out.1 hlt hs he)
          have HX := Lib.hid (show (ss.getD k default).id ≠ id → ∀ q, q < k + 1 → (ss.getD q default).id ≠ id from fun hne q hq => by
            by_cases hqk : q = k
            · rw [hqk]; exact hne
            · exact HD.out.1 q (by omega))
          have HG := Lib.hid (show ss.getD k default = ss.getD k default from rfl); generalize hkx : ss.getD k default = s at *; have HS := Lib.hid hkx; clear hkx HG; obtain ⟨s1, s2, s3, s4, s5⟩ := s; simp only at e0 e1 e2 e3 e4; have hi0 : (0 : Int) ≤ (k : Int) := by omega
          have hi1 : (k : Int) < (ss.length : Int) := by omega
          clear hcl hr; have kA := hbw.trans ((boxed_below wr (.cells #[I s1, I s2, I s3, I s4, I s5] 69)).mono hbw.size)
          by_cases hm : s1 = id
          · have hHR := HH.out _ rfl hm
            have HR : Hid (repE t xs me id = tokFault ⟨s2, s1, s3, s4⟩ ∧ repT t xs me id = fmtT ⟨s2, s1, s3, s4⟩) := Lib.hid hHR; have FS := Lib.hid (fun W => FM.out s2 s1 s3 s4 W); generalize tokFault ⟨s2, s1, s3, s4⟩ = te at *; generalize fmtT ⟨s2, s1, s3, s4⟩ = ft at *; have hm2 : (s1 == id) = true := by simp [hm]
            have KA := Lib.hid (KK2.out.trans (kA.mono KK2.out.size)); clear hm HX HD hbw kA HH
            go_wp2_with fail
            refine (FS.out _).mono ?_; rintro e w5 ⟨rfl, k5⟩; have kk5 := KA.out.trans (k5.mono KA.out.size); clear k5; go_wp2; go_ret2; exact RepP.intro HR.out kk5
          · have hm2 : (s1 == id) = false := by simp [hm]
            have HD2 : Hid ((∀ q, q < k + 1 → (ss.getD q default).id ≠ id) ∧ Below w2.heap.size w2 (wr.alloc (.cells #[I s1, I s2, I s3, I s4, I s5] 69))) := Lib.hid ⟨HX.out hm, kA⟩; clear hm HX HD hbw kA HH; go_wp2; exact ⟨⟨k + 1, by omega, by go_num, HD2⟩, by simp [intOf]; omega⟩
        · have hge : (ss.length : Int) ≤ (k : Int) := by omega
          have HR := Lib.hid (rep_miss (t := t) (xs := xs) (me := me) (id := id) H0.out H3.out HSO.out (fun q hq => HD.out.1 q (by omega))); have kk5 := KK2.out.trans (hbw.mono KK2.out.size); clear HD hbw hr; go_wp2; go_ret2; exact RepP.intro HR.out kk5
    · obtain ⟨rfl, k2⟩ := hQ.2 (by omega)
      have HR := Lib.hid (rep_none (id := id) H0.out (by omega : idxOf (loadC t xs) me < 0)); have kk2 := KK.out.trans (k2.mono KK.out.size); clear hQ h3 k2 CU hb; go_wp2; go_ret2; exact RepP.intro HR.out kk2
  · obtain ⟨rfl, k1⟩ := hP.2 h0
    have HR := Lib.hid (rep_load (me := me) (id := id) h0); have kk := KB.out.trans (k1.mono KB.out.size); have hb : (loadE t xs != 0) = true := by simp [h0]
    clear hP h0 P k1; generalize loadE t xs = E at *; go_wp2; go_ret2; exact RepP.intro HR.out kk
theorem Reprinted_any (t : PTerms) (tv cv : Value) (xs : List Int) (me id : Int) (w : World) (ht : Sl w tv 2 t.ts.length (t.ts.flatMap AStep.cells)) (hc : Sl w cv 1 xs.length (xs.map U32)) (hw : ∀ x ∈ xs, W32 x) :
    Calls Tryz.prog 10 #[.agg #[tv, I t.f, I t.b, I t.d, I t.al], cv, I me, I id] w (RepP t xs me id w) := by
  have kB := boxed_below w (.cells #[tv, I t.f, I t.b, I t.d, I t.al] 24); have oT := Own.new (w := w) rfl [tv, I t.f, I t.b, I t.d, I t.al] 24; have P := Lib.hid (Loaded_any t tv cv xs _ (ht.below kB) (hc.below kB) hw); have KB := Lib.hid kB; have FM := Lib.hid (fun c i m g W => Formatted_any c i m g W); unfold FmtP at FM; have tO := oT; have tA := tO.s5; clear tO; obtain ⟨a, cap, rfl, -⟩ := _root_.id hc; clear hw ht kB oT hc; go_enter Tryz.func10, Tryz.ntmps10
  go_wp2_with fail
  refine P.out.mono ?_; rintro e w1 ⟨bv, ys, rfl, hb, k1⟩; have kA := boxed_below w1 (.cells #[bv] 76); have oA := Own.new (w := w1) rfl [bv] 76; have kk := (KB.out.trans (k1.mono KB.out.size)).trans (kA.mono (Nat.le_trans KB.out.size k1.size)); have HB := Lib.hid (hb.below kA); have KK := Lib.hid kk; have OA := Lib.hid oA; obtain ⟨ba, bc, rfl⟩ := book_slice hb; clear tA P hb k1 kA oA kk
  by_cases h0 : loadE t xs = 0
  · have H0 := Lib.hid h0
    rw [h0]; have hbd := loadC_bd t xs; have FD := Lib.hid (Found_any _ ys me _ (HB.out.sl (by omega))); rw [book_found HB.out] at FD; clear h0; have bO := OA.out; have bA := bO.s1; clear bO
    go_wp2_with fail
    refine FD.out.mono ?_; rintro e w2 ⟨rfl, k2⟩; have kk2 := KK.out.trans (k2.mono KK.out.size); have OA2 := Lib.hid (OA.out.below k2); clear bA FD
    by_cases h3 : 0 ≤ idxOf (loadC t xs) me
    · obtain ⟨j, hj⟩ := Int.eq_ofNat_of_zero_le h3
      have hjl : j < (loadC t xs).length := by rcases idxOf_bd (loadC t xs) me with h | h <;> omega
      have H3 := Lib.hid h3; have HSO := Lib.hid (show soldOf t xs me = ((loadC t xs).getD j default).sold by unfold soldOf; rw [hj]; rfl); have hsl : ((loadC t xs).getD j default).sold.length ≤ 120 := hbd.2 _ (by rw [List.getD_eq_getElem?_getD, List.getElem?_eq_getElem hjl]; exact List.getElem_mem hjl); rw [hj]; have hb2 := HB.out.below k2; obtain ⟨g, gcap, hv, hg1, hg2⟩ := owns_pos hb2.2.1 (by omega); simp only [Value.slice.injEq] at hv; obtain ⟨rfl, -, rfl⟩ := hv; have hcell := book_cells hb2 hjl; have hCR := hb2.2.2.1 j hjl; have KK2 := Lib.hid kk2; have hj1 : (j : Int) < ((loadC t xs).length : Int) := by omega
      generalize ys.getD j default = x at *; generalize (loadC t xs).getD j default = c at *; obtain ⟨hxe, hSd, hSo⟩ := hCR; obtain ⟨m1, m2, m3, m4, m5, m6, da, dn, dc, sa, sn, sc⟩ := x; simp only [ofCust, ACust.mk.injEq, true_and, and_true] at hxe; obtain ⟨rfl, rfl, rfl, rfl, rfl, rfl, rfl, rfl⟩ := hxe; obtain ⟨⟨m1, m2, m3, m4, m5, m6⟩, ds, ss⟩ := c; simp only at hSo HSO hcell hsl; have y7 := hcell 7 (by decide); simp only [ACust.cells, List.getD_cons_zero, List.getD_cons_succ, Nat.add_zero] at y7; have hSS := Sl.of_owns hSo (by omega); obtain ⟨sa', sc', hsv, -, -, -, hr⟩ := hSS; simp only [Value.slice.injEq] at hsv; obtain ⟨rfl, -, rfl⟩ := hsv; have hj0 : (0 : Int) ≤ (j : Int) := by omega
      have bO := OA2.out; have bA := bO.s1; clear bO; have hjn : ¬ (j : Int) < 0 := by omega
      clear h3 k2 hb2 kk2 hcell hSd hSo hj HB hbd hjl; go_wp2
      go_loop [14] (fun i => ∃ k : Nat, k ≤ ss.length ∧ i = I k ∧ Hid (∀ q, q < k → (ss.getD q default).id ≠ id)) (fun i => ss.length - (intOf i).toNat)
      case atStart => exact ⟨0, Nat.zero_le _, rfl, fun q hq => by omega⟩
      case round =>
        obtain ⟨k, hk, rfl, HD⟩ := hrel
        by_cases hlt : k < ss.length
        · obtain ⟨b, off, rfl, hbl, hcl⟩ := hr.resolve_left (by omega)
          obtain ⟨e0, e1, e2, e3, e4⟩ := elSold hbl hcl (Below.refl _ _) k hlt; have HH := Lib.hid (fun s hs he => rep_hit (t := t) (xs := xs) (me := me) (id := id) (k := k) (s := s) H0.out H3.out HSO.out HD.out hlt hs he)
          have HX := Lib.hid (show (ss.getD k default).id ≠ id → ∀ q, q < k + 1 → (ss.getD q default).id ≠ id from fun hne q hq => by
            by_cases hqk : q = k
            · rw [hqk]; exact hne
            · exact HD.out q (by omega))
          have HG := Lib.hid (show ss.getD k default = ss.getD k default from rfl); generalize hkx : ss.getD k default = s at *; have HS := Lib.hid hkx; clear hkx HG; obtain ⟨s1, s2, s3, s4, s5⟩ := s; simp only at e0 e1 e2 e3 e4; have hi0 : (0 : Int) ≤ (k : Int) := by omega
          have hi1 : (k : Int) < (ss.length : Int) := by omega
          clear hcl hr
          by_cases hm : s1 = id
          · have hHR := HH.out _ rfl hm
            have HR : Hid (repE t xs me id = tokFault ⟨s2, s1, s3, s4⟩ ∧ repT t xs me id = fmtT ⟨s2, s1, s3, s4⟩) := Lib.hid hHR; have FS := Lib.hid (fun W => FM.out s2 s1 s3 s4 W); generalize tokFault ⟨s2, s1, s3, s4⟩ = te at *; generalize fmtT ⟨s2, s1, s3, s4⟩ = ft at *; have hm2 : (s1 == id) = true := by simp [hm]
            subst hm; clear HX HD HH; go_wp2
            go_region_held3 (fun W => W.cell? ⟨b, off + k * 5 + 1, none⟩ = some (I s2) ∧ W.cell? ⟨b, off + k * 5 + 2, none⟩ = some (I s3) ∧ W.cell? ⟨b, off + k * 5 + 3, none⟩ = some (I s4)) (first | go_keep | (go_split_ands; refine ⟨?_, ?_, ?_⟩ <;> assumption)) ((first | ((with_reducible refine (FS.out _).mono ?_); rintro e w5 ⟨rfl, k5⟩; have e1b := (k5.cell (p := ⟨b, off + k * 5 + 1, none⟩) hbl).trans e1; have e2b := (k5.cell (p := ⟨b, off + k * 5 + 2, none⟩) hbl).trans e2; have e3b := (k5.cell (p := ⟨b, off + k * 5 + 3, none⟩) hbl).trans e3) | fail))
            all_goals
              have kk5 := KK2.out.trans ((show Below w2.heap.size w2 w5 from ⟨k5.os, k5.tape, k5.output, k5.size, k5.block⟩).mono KK2.out.size); clear k5; go_wp2; go_ret2; exact RepP.intro HR.out kk5
          · have hm2 : (s1 == id) = false := by simp [hm]
            have HN := Lib.hid (HX.out hm); clear hm HX HD HH; go_wp2
            go_round
            case rel => first | exact ⟨k + 1, by omega, by go_num, HN⟩ | (refine ⟨rfl, ?_⟩; (repeat apply Exists.intro); refine ⟨?_, rfl⟩; exact ⟨k + 1, by omega, by go_num, HN⟩) | (refine ⟨trivial, ?_⟩; (repeat apply Exists.intro); refine ⟨?_, rfl⟩; exact ⟨k + 1, by omega, by go_num, HN⟩) | ((repeat apply Exists.intro); refine ⟨?_, rfl⟩; exact ⟨k + 1, by omega, by go_num, HN⟩)
            case measure => (simp [intOf]; omega)
        · have hge : (ss.length : Int) ≤ (k : Int) := by omega
          have HR := Lib.hid (rep_miss (t := t) (xs := xs) (me := me) (id := id) H0.out H3.out HSO.out (fun q hq => HD.out q (by omega))); have kk5 := KK2.out; clear HD hr; go_wp2; go_ret2; exact RepP.intro HR.out kk5
    · have HR := Lib.hid (rep_none (id := id) H0.out (by omega : idxOf (loadC t xs) me < 0))
      have h3' : idxOf (loadC t xs) me < 0 := by omega
      clear k2 h3 HB; generalize idxOf (loadC t xs) me = at_ at *; go_wp2; go_ret2; exact RepP.intro HR.out kk2
  · have HR := Lib.hid (rep_load (me := me) (id := id) h0)
    have hb : (loadE t xs != 0) = true := by simp [h0]
    have kk := KK.out; clear h0 HB; generalize loadE t xs = E at *; go_wp2; go_ret2; exact RepP.intro HR.out kk
end
section
open Go.RowKit

theorem getD_map {f : Int → Value} (xs : List Int) (k : Nat) (h : k < xs.length) : (xs.map f).getD k undef = f (xs.getD k 0) := by
  simp [List.getD_eq_getElem?_getD, h]

theorem take_succ_eq {xs ys : List Int} {k : Nat} (hx : k < xs.length) (hy : k < ys.length) (h : xs.take k = ys.take k) (he : xs.getD k 0 = ys.getD k 0) : xs.take (k + 1) = ys.take (k + 1) := by
  rw [List.take_add_one, List.take_add_one, h]; simp only [List.getD_eq_getElem?_getD, List.getElem?_eq_getElem hx, List.getElem?_eq_getElem hy, Option.getD_some] at he ⊢; rw [he]

theorem ne_of_getD {xs ys : List Int} {k : Nat} (h : xs.getD k 0 ≠ ys.getD k 0) : xs ≠ ys := fun e => h (by rw [e])

end
section
open Go.RowKit

theorem sameWords_any (v1 v2 : Value) (xs ys : List Int) (w : World) (h1 : Sl w v1 1 xs.length (xs.map U32)) (h2 : Sl w v2 1 ys.length (ys.map U32)) :
    Calls Tryz.prog 11 #[v1, v2] w (Grew (.bool (decide (xs = ys))) w) := by
  obtain ⟨a1, c1, rfl, hn1, _, _, h1⟩ := h1; obtain ⟨a2, c2, rfl, hn2, _, _, h2⟩ := h2
  by_cases hl : xs.length = ys.length
  · have hb : ((xs.length : Int) != (ys.length : Int)) = false := by simp [hl]
    have hl1 : xs.length ≤ ys.length := by omega
    have hl2 : ys.length ≤ xs.length := by omega
    clear hl; go_enter Tryz.func11, Tryz.ntmps11; go_wp2
    go_loopw [5] (fun i wr => ∃ k : Nat, k ≤ xs.length ∧ i = I k ∧ xs.take k = ys.take k ∧ Below w.heap.size w wr) (fun i _ => xs.length - (intOf i).toNat)
    case atStart => exact ⟨0, Nat.zero_le _, rfl, rfl, Below.refl _ _⟩
    case round =>
      obtain ⟨k, hk, rfl, htk, hbw⟩ := hrel; have Htk := Lib.hid htk; clear htk
      by_cases hlt : k < xs.length
      · obtain ⟨b1, o1, rfl, hb1, hc1⟩ := h1.resolve_left (by omega)
        obtain ⟨b2, o2, rfl, hb2, hc2⟩ := h2.resolve_left (by omega); have e1 := (hbw.cell (p := ⟨b1, o1 + k, none⟩) hb1).trans (hc1 k (by simpa using hlt)); have e2 := (hbw.cell (p := ⟨b2, o2 + k, none⟩) hb2).trans (hc2 k (by simp; omega)); rw [getD_map _ _ hlt] at e1; rw [getD_map _ _ (by omega)] at e2; clear hc1 hc2 h1 h2; have hi0 : (0 : Int) ≤ (k : Int) := by omega
        have hi1 : (k : Int) < (xs.length : Int) := by omega
        have hi2 : (k : Int) < (ys.length : Int) := by omega
        by_cases hv : xs.getD k 0 = ys.getD k 0
        · have hv' : (xs.getD k 0 != ys.getD k 0) = false := by rw [bne_eq_false_iff_eq]; exact hv
          have hs := Lib.hid (take_succ_eq hlt (by omega) Htk.out hv); clear hv; generalize xs.getD k 0 = x at *; generalize ys.getD k 0 = y at *; go_wp2
          go_quiet (fail)
          go_wp2; exact ⟨⟨k + 1, by omega, by go_num, hs.out, drewN_below hbw _⟩, by simp [intOf]; omega⟩
        · have hv' : (xs.getD k 0 != ys.getD k 0) = true := by rw [bne_iff_ne]; exact hv
          have hs := Lib.hid (ne_of_getD hv); clear hv; generalize xs.getD k 0 = x at *; generalize ys.getD k 0 = y at *; go_wp2
          go_quiet (fail)
          go_wp2; go_ret; exact Grew.intro (by rw [decide_eq_false hs.out]; rfl) (drewN_below hbw _)
      · have hs : xs = ys := by have := Htk.out; rwa [List.take_of_length_le (by omega), List.take_of_length_le (by omega)] at this
        have Hs := Lib.hid hs; clear hs; go_wp2; go_ret; exact Grew.intro (by rw [decide_eq_true Hs.out]; rfl) hbw
  · have hb : ((xs.length : Int) != (ys.length : Int)) = true := by simp; omega
    go_enter Tryz.func11, Tryz.ntmps11; go_wp2; go_ret; exact Grew.intro (by rw [decide_eq_false (fun e => hl (by rw [e]))]; rfl) (Below.refl _ _)
end
section
open Go.RowKit

theorem info_words : (Tryz.prog.info? 80).map (fun i => (i.zero, i.size, i.bytes)) = some (some (.int .u32 0), 1, 4) := by kernel_rfl

theorem words_any (v : Value) (xs : List Int) (w : World) (h : Sl w v 1 xs.length (xs.map U32)) (hby : xs.length * 4 ≤ 140737488355328) :
    Calls Tryz.prog 7 #[v] w (GrewSl 1 xs.length (xs.map U32) w) := by
  obtain ⟨i0, hi, hz0, hz1, hz2⟩ := info_parts info_words; have h' := h; obtain ⟨a, cap, rfl, hn, hl, h0, h⟩ := h; cases a with
  | none =>
    obtain ⟨hn0, rfl⟩ := h0 rfl; obtain rfl : xs = [] := List.length_eq_zero_iff.1 hn0; clear h h' h0 hl; go_enter Tryz.func7, Tryz.ntmps7
    go_wp2_with fail
    go_ret; exact ⟨_, rfl, Sl.nil _ _, Below.refl _ _⟩
  | some ad =>
    have hnews := Lib.hid h'.news; have hone : oneCells (xs.map U32) := oneCells_map (fun _ => rfl) _; clear h h' h0; have Hl := Lib.hid hl; clear hl; have c3 : 0 + xs.length ≤ maxLen := by unfold maxLen; omega
    have c4 := Lib.hid (show (0 + xs.length) * 4 ≤ 140737488355328 by omega); clear hby; go_enter Tryz.func7, Tryz.ntmps7
    go_wp2_with (at_builtin; refine wpList_append_own _ rfl _ _ 25 rfl w.heap.size 80 i0 (.int .u32 0) 1 4 Tryz.underlying25 hi hz0 hz1 hz2 rfl (by decide) _ 0 [] rfl (World.ownsRow_nil _ _ _ _) ad _ _ (xs.map U32) rfl Hl.out hnews.out hone c3 c4.out (Nat.le_refl _) ?_; intro v' w1 hown' hgrow _)
    have hbel := Below.grown (B := w.heap.size) (Below.refl _ w) hgrow (Nat.le_refl _) (fun k hk => absurd (show (none : Option Nat) = some k from hk) (by simp)); rw [Nat.zero_add, List.nil_append] at hown'; have hS := Sl.of_owns hown' hn.1; clear hown' hgrow; go_wp2; go_ret; exact ⟨_, rfl, hS, hbel⟩
end
end Go.Proofs.YtdjgcenjonegjaaGreat
