/- world.Begin, ref.WorldBegun -/
import Derived.Test.YtenoigmkhlnfoaaWorldD
namespace Go.Proofs.Ytenoigmkhlnfoaa
set_option linter.unusedSimpArgs false
set_option linter.unusedVariables false
open Go Go.RowKit
set_option maxRecDepth 20000
/-- the loop over the meters: w3 the world ahead of the new one's box -/
def WRel (w3 : World) (f b d al : Int) (tv dv : Value) (k : Nat) (wr : World) : Prop :=
  ∃ pv us, Own wr w3.heap.size [tv, I f, I b, I d, I al, dv, .slice none 0 0, pv] ∧ Pks wr (w3.heap.size + 1) pv (wbPks k) us ∧ Below w3.heap.size w3 wr
theorem wbPks_succ (k : Nat) : wbPks ((k + 1 : Nat) : Int) = wbPks (k : Nat) ++ [makeL (k : Nat)] := by
  unfold wbPks
  simp [List.range_succ]
theorem wbPks_len (k : Nat) : (wbPks (k : Nat)).length = k := by unfold wbPks; simp
theorem WRel.next {w3 w6 : World} {f b d al : Int} {tv dv pv0 : Value} {k g cap : Nat} {us : List Value} (o : Own w6 w3.heap.size [tv, I f, I b, I d, I al, dv, .slice none 0 0, pv0]) (hp : Pks w6 (w3.heap.size + 1) (.slice (some ⟨g, 0, none⟩) (k + 1) cap) (wbPks (k : Nat) ++ [makeL (k : Nat)]) us) (kw : Below w3.heap.size w3 w6) :
    WRel w3 f b d al tv dv (k + 1) (w6.setCell ⟨w3.heap.size, 7, none⟩ (.slice (some ⟨g, 0, none⟩) (k + 1) cap)) := by
  refine ⟨.slice (some ⟨g, 0, none⟩) (k + 1) cap, us, o.set 7 _, ?_, kw.setCell (p := ⟨w3.heap.size, 7, none⟩) (Nat.le_refl _) _⟩
  have e := wbPks_succ k
  rw [e]
  exact hp.low (Nat.lt_succ_self _) 7 _
theorem makeE_at {k : Nat} {me : Int} (h : (k : Int) < me) (h2 : me ≤ 50) : makeE (k : Nat) = 0 := by
  unfold makeE
  rw [show inB (k : Int) 0 49 = true from inB_true.2 ⟨by omega, by omega⟩]
  rfl
theorem makeL_len {k : Nat} {me : Int} (h : (k : Int) < me) (h2 : me ≤ 50) : (makeL (k : Nat)).length = 12 := by
  unfold makeL
  rw [show inB (k : Int) 0 49 = true from inB_true.2 ⟨by omega, by omega⟩]
  rfl
theorem terms_len {ts : List AStep} {f b d al : Int} (h : termsE ts f b d al = 0) : 0 < ts.length ∧ ts.length ≤ 8 := by
  unfold termsE at h
  split at h
  · rename_i ht
    unfold tariffE at ht
    split at ht
    · rename_i hi
      have := inB_true.1 hi
      omega
    · cases ht
  · rename_i ht; exact absurd h ht
theorem blank_len {n : Int} (h : blankE n = 0) : 0 < blankN n ∧ blankN n ≤ 2048 := by
  unfold blankE at h
  split at h
  · rename_i hi
    have := inB_true.1 hi
    unfold blankN
    rw [if_pos hi]
    omega
  · cases h
theorem info_recs : (Try.prog.info? 37).map (fun i => (i.zero, i.size, i.bytes)) = some (some (.slice none 0 0), 1, 24) := by kernel_rfl
set_option maxHeartbeats 8000000 in
theorem WBegin_any (ts : List AStep) (f b d al dn me : Int) (tv : Value) (w : World) (ht : Sl w tv 2 ts.length (ts.flatMap AStep.cells)) :
    Calls Try.prog 14 #[.agg #[tv, I f, I b, I d, I al], I dn, I me] w (WbP ts f b d al dn me w) := by
  obtain ⟨i0, hi, hz0, hz1, hz2⟩ := info_parts info_recs
  have oT := (Own.new (w := w) (g := w.heap.size) (by rfl) [tv, I f, I b, I d, I al] 24).alloc (.cells #[.slice none 0 0, I 0, I 0, I 0, I 0, .slice none 0 0, .slice none 0 0, .slice none 0 0] 43)
  have oZ := Own.new (w := (w.alloc (.cells #[tv, I f, I b, I d, I al] 24))) (g := w.heap.size + 1) (by simp) [.slice none 0 0, I 0, I 0, I 0, I 0, .slice none 0 0, .slice none 0 0, .slice none 0 0] 43
  have bx0 := boxed_below w (.cells #[tv, I f, I b, I d, I al] 24)
  have kB := bx0.alloc bx0.size (.cells #[.slice none 0 0, I 0, I 0, I 0, I 0, .slice none 0 0, .slice none 0 0, .slice none 0 0] 43)
  clear bx0
  have F := Lib.hid (fun W hW => CheckTerms_any tv ts f b d al W hW)
  have BL := Lib.hid (fun W => Blank_any dn W)
  have CL := Lib.hid (fun dv xs W h1 h2 h3 h4 h5 h6 => clone0_any ts f b d al xs tv dv W h1 h2 h3 h4 h5 h6)
  have MK := Lib.hid (fun k W => Make_f k W)
  have HT := Lib.hid ht
  have OT := Lib.hid oT
  have OZ := Lib.hid oZ
  have KB := Lib.hid kB
  have tO := oT
  have t0 := tO.c 0; have tf0 := tO.f 0; have t1 := tO.c 1; have tf1 := tO.f 1; have t2 := tO.c 2; have tf2 := tO.f 2; have t3 := tO.c 3; have tf3 := tO.f 3; have t4 := tO.c 4; have tf4 := tO.f 4
  (try simp only [List.getD_cons_zero, List.getD_cons_succ] at t0 t1 t2 t3 t4)
  clear tO
  clear ht oT oZ kB
  obtain ⟨ta, tc, htv, -⟩ := id HT.out
  subst htv
  go_enter Try.func14, Try.ntmps14
  go_wp2_with fail
  refine (F.out _ (HT.out.below KB.out)).mono ?_
  rintro e w1 ⟨rfl, k1⟩
  have kk := KB.out.trans (k1.mono KB.out.size)
  have oZ1 := OZ.out.below k1
  have oT1 := OT.out.below k1
  clear t0 t1 t2 t3 t4 tf0 tf1 tf2 tf3 tf4 F KB OZ OT
  by_cases hE : termsE ts f b d al = 0
  · have HE := Lib.hid hE
    have KK := Lib.hid kk
    have OZ1 := Lib.hid oZ1
    have OT1 := Lib.hid oT1
    rw [hE]
    clear hE kk oZ1 oT1 k1
    go_wp2_with fail
    refine (BL.out _).mono ?_
    rintro e w2 ⟨dv, rfl, hd, k2⟩
    have kk := KK.out.trans (k2.mono KK.out.size)
    have oZ2 := OZ1.out.below k2
    have oT2 := OT1.out.below k2
    obtain ⟨da, dc, rfl, -⟩ := id hd
    by_cases hB : blankE dn = 0
    · have HB := Lib.hid hB
      obtain ⟨bl1, bl2⟩ := blank_len hB
      obtain ⟨tl1, tl2⟩ := terms_len HE.out
      have hdm : (List.replicate (blankN dn) (U32 0)) = (List.replicate (blankN dn) (0 : Int)).map U32 := by simp
      have HD := Lib.hid (show Sl w2 (.slice da (blankN dn) dc) 1 (List.replicate (blankN dn) (0 : Int)).length ((List.replicate (blankN dn) (0 : Int)).map U32) by rw [List.length_replicate, ← hdm]; exact hd)
      rw [hB]
      have KK2 := Lib.hid kk
      have OZ2 := Lib.hid oZ2
      clear hB kk oZ2 k2 hd KK OZ1 OT1 BL
      cases hI : inB me 0 50
      · have HR := Lib.hid (wb_range HE.out HB.out hI)
        have hc : me < 0 ∨ (0 ≤ me ∧ 50 < me) := by rw [← Bool.not_eq_true, inB_true] at hI; omega
        have kk := KK2.out
        clear hI
        have zO := OZ2.out
        have z0 := zO.c 0; have zf0 := zO.f 0; have z1 := zO.c 1; have zf1 := zO.f 1; have z2 := zO.c 2; have zf2 := zO.f 2; have z3 := zO.c 3; have zf3 := zO.f 3; have z4 := zO.c 4; have zf4 := zO.f 4; have z5 := zO.c 5; have zf5 := zO.f 5; have z6 := zO.c 6; have zf6 := zO.f 6; have z7 := zO.c 7; have zf7 := zO.f 7
        (try simp only [List.getD_cons_zero, List.getD_cons_succ] at z0 z1 z2 z3 z4 z5 z6 z7)
        clear zO
        have r1 := set_same
        have r2 := set_off
        have r3 := set_blk
        clear oT2 OZ2 KK2 HT CL MK HD
        rcases hc with hc | ⟨hc1, hc2⟩
        all_goals
          go_wp2
          exact bodyPost_ret (v := T2 (.agg #[.slice none 0 0, I 0, I 0, I 0, I 0, .slice none 0 0, .slice none 0 0, .slice none 0 0]) (I 2)) (by simp [results, Try.results14, go_sem, *]; try omega) rfl (WbP.bad HR.out (by decide) below_autor)
      · obtain ⟨m0, m50⟩ := inB_true.1 hI
        have HR := Lib.hid (wb_good HE.out HB.out hI)
        have hm0 : ¬ me < 0 := by omega
        have hm50 : ¬ 50 < me := by omega
        clear hI
        have tO := oT2
        have t0 := tO.c 0; have tf0 := tO.f 0; have t1 := tO.c 1; have tf1 := tO.f 1; have t2 := tO.c 2; have tf2 := tO.f 2; have t3 := tO.c 3; have tf3 := tO.f 3; have t4 := tO.c 4; have tf4 := tO.f 4
        (try simp only [List.getD_cons_zero, List.getD_cons_succ] at t0 t1 t2 t3 t4)
        clear tO
        clear oT2
        skip
        have bl3 : 0 < (List.replicate (blankN dn) (0 : Int)).length := by rw [List.length_replicate]; exact bl1
        have bl4 : (List.replicate (blankN dn) (0 : Int)).length ≤ 2048 := by rw [List.length_replicate]; exact bl2
        have P := Lib.hid (CL.out (.slice da (blankN dn) dc) _ w2 (HT.out.below KK2.out) HD.out tl1 tl2 bl3 bl4)
        go_wp2_with fail
        refine P.out.mono ?_
        rintro e w3 ⟨tv3, dv3, rfl, hst, hsd, hft, hfd, k3⟩
        have kk := KK2.out.trans (k3.mono KK2.out.size)
        have oZ3 := OZ2.out.below k3
        have hz3 : w.heap.size + 1 < w3.heap.size := oZ3.lt
        have hz2s : w.heap.size + 1 < w2.heap.size := OZ2.out.lt
        clear t0 t1 t2 t3 t4 tf0 tf1 tf2 tf3 tf4 P CL KK2 OZ2 k3 HD HT
        have hln : (List.replicate (blankN dn) (0 : Int)).length = blankN dn := List.length_replicate
        generalize hxs : List.replicate (blankN dn) (0 : Int) = xs at *
        have HXS := Lib.hid hxs
        clear hxs
        have kA := boxed_below w3 (.cells #[tv3, I f, I b, I d, I al, dv3, .slice none 0 0, .slice none 0 0] 43)
        have hD0 : Hid (WRel w3 f b d al tv3 dv3 0 (w3.alloc (.cells #[tv3, I f, I b, I d, I al, dv3, .slice none 0 0, .slice none 0 0] 43))) :=
          ⟨_, [], Own.new rfl [tv3, I f, I b, I d, I al, dv3, .slice none 0 0, .slice none 0 0] _, Pks.nil _ _, kA⟩
        have hk2 : w.heap.size + 2 ≤ w2.heap.size := by omega
        have HF1 := Lib.hid (hft.far (show w.heap.size + 1 < w2.heap.size by omega))
        have HF2 := Lib.hid (hfd.far (show w.heap.size + 1 < w2.heap.size by omega))
        have HST := Lib.hid hst
        have HSD := Lib.hid hsd
        have OZ3 := Lib.hid oZ3
        have KK3 := Lib.hid kk
        obtain ⟨tb, tc3, rfl, -⟩ := id hst
        obtain ⟨db, dc3, rfl, -⟩ := id hsd
        have HDV : Hid (∀ W, Sl W (.slice db xs.length dc3) 1 xs.length (xs.map U32) → Sl W (.slice db xs.length dc3) 1 (blankN dn) (List.replicate (blankN dn) (U32 0))) := fun W h => by
          have e := HXS.out
          subst e
          rw [hln] at h ⊢
          simpa using h
        clear kA hst hsd hft hfd oZ3 kk HXS hln
        go_wp2
        go_loopw [42] (fun i wr => ∃ k : Nat, (k : Int) ≤ me ∧ i = I k ∧ Hid (WRel w3 f b d al (.slice tb ts.length tc3) (.slice db xs.length dc3) k wr)) (fun i _ => me.toNat - (intOf i).toNat)
        case atStart => exact ⟨0, m0, rfl, hD0⟩
        case round =>
          obtain ⟨k, hk, rfl, hD⟩ := hrel
          clear hD0
          obtain ⟨pv, us, oM, hP, hbw⟩ := hD.out
          have HLN := Lib.hid (wbPks_len k)
          have hpl : ∃ pa pc, pv = .slice pa k pc := by
            have h9 := hP.2.1
            rw [HLN.out] at h9
            rcases owns_cases h9 with ⟨h, hn⟩ | ⟨g, c, h, _⟩
            · exact ⟨none, 0, by rw [h, hn]⟩
            · exact ⟨_, c, h⟩
          obtain ⟨pa, pc, rfl⟩ := hpl
          by_cases hlt : (k : Int) < me
          · have hE0 := makeE_at hlt m50
            have hL0 := makeL_len hlt m50
            have PM := Lib.hid (MK.out (k : Nat) wr)
            rw [hE0, hL0] at PM
            have HPK := Lib.hid hP
            have OM := Lib.hid oM
            have KW := Lib.hid hbw
            have HSU := Lib.hid (wbPks_succ k)
            have HL12 := Lib.hid hL0
            have hk50 : k < 50 := by omega
            have hwr3 : w3.heap.size + 1 ≤ wr.heap.size := oM.lt
            clear hD oM hP hbw hE0 hL0 MK
            go_wp2_with fail
            refine PM.out.mono ?_
            rintro e w5 ⟨u, rfl, hu, k5, hFu⟩
            have hsz5 := k5.size
            have hblk : ∀ z, (Value.slice pa k pc).ownBlock = some z → w3.heap.size + 1 ≤ z ∧ z < wr.heap.size := fun z hz => HPK.out.2.1.lt z hz
            have hrec : PkRec w5 (w3.heap.size + 1) (Value.slice pa k pc).ownBlock u (makeL (k : Nat)) := by
              refine ⟨by rw [HL12.out]; exact hu, fun a n c e => ?_⟩
              have q1 := hFu a n c e
              refine ⟨fun e2 => by have := (hblk _ e2).2; omega, by omega, ?_⟩
              obtain ⟨a', c', hv, -, -, -, hr⟩ := id hu
              rcases hr with hr | ⟨bb, o, hb, hbl, -⟩
              · omega
              · rw [e] at hv; injection hv with e1; injection (e1.trans hb) with e2; rw [e2]; exact hbl
            have HRC := Lib.hid hrec
            have HP5 := Lib.hid (HPK.out.below k5)
            have oM5 := OM.out.below k5
            have OM5 := Lib.hid oM5
            have KW5 := Lib.hid (KW.out.trans (k5.mono KW.out.size))
            have HBK := Lib.hid hblk
            obtain ⟨ua, uc, rfl, -⟩ := id hu
            have HOW := HP5.out.2.1
            rw [HLN.out] at HOW
            have HOW5 := Lib.hid HOW
            have hw5 : w3.heap.size < w5.heap.size := oM5.lt
            have ra : ∀ (o : Obj) (g j : Nat), g < w5.heap.size → (w5.alloc o).cell? ⟨g, j, none⟩ = w5.cell? ⟨g, j, none⟩ := fun o g j h => (boxed_below w5 o).cell (p := ⟨g, j, none⟩) h
            have mO := oM5
            have m0 := mO.c 0; have mf0 := mO.f 0; have m1 := mO.c 1; have mf1 := mO.f 1; have m2 := mO.c 2; have mf2 := mO.f 2; have m3 := mO.c 3; have mf3 := mO.f 3; have m4 := mO.c 4; have mf4 := mO.f 4; have m5 := mO.c 5; have mf5 := mO.f 5; have m6 := mO.c 6; have mf6 := mO.f 6; have m7 := mO.c 7; have mf7 := mO.f 7
            (try simp only [List.getD_cons_zero, List.getD_cons_succ] at m0 m1 m2 m3 m4 m5 m6 m7)
            clear mO
            clear k5 oM5 hblk hrec hu hFu HOW PM OM KW HPK
            go_wp2_with
              (at_builtin
               (
               refine wpList_append_lies _ rfl _ _ 41 rfl (w3.heap.size + 1) 37 i0 (.slice none 0 0) 1 24 Try.underlying41 hi hz0 hz1 hz2 rfl (by decide) _ k us rfl (owns_kept HOW5.out (boxed_below _ _)) ⟨w5.heap.size, 0, none⟩ 1 1 [.slice ua 12 uc] rfl rfl (news_lit _ _ _) (oneCells_lit rfl) (by omega) (by unfold maxLen; omega) (by omega) (by simp; omega) _ rfl ?_
               intro g cap w6 hown' hgrow hat hlt1
               have kb := boxed_below w5 (.cells #[.slice ua 12 uc] 37)
               have hpk6 := pks_snoc (HP5.out.below kb) (HRC.out.below kb) hown' (by rw [HLN.out]) hgrow hat
               have hMne : some w3.heap.size ≠ (Value.slice pa k pc).ownBlock := fun e => by have := (HBK.out _ e.symm).1; omega
               have oM6 := (OM5.out.below kb).grown hgrow hMne
               have kw6 := Below.grown (B := w3.heap.size) (KW5.out.trans (kb.mono KW5.out.size)) hgrow (Nat.le_trans KW5.out.size kb.size) (fun z hz => by have := (HBK.out z hz).1; omega)
               have hN := Lib.hid (WRel.next oM6 hpk6 kw6)
               have cO := oM6
               have c0 := cO.c 0; have cf0 := cO.f 0; have c1 := cO.c 1; have cf1 := cO.f 1; have c2 := cO.c 2; have cf2 := cO.f 2; have c3 := cO.c 3; have cf3 := cO.f 3; have c4 := cO.c 4; have cf4 := cO.f 4; have c5 := cO.c 5; have cf5 := cO.f 5; have c6 := cO.c 6; have cf6 := cO.f 6; have c7 := cO.c 7; have cf7 := cO.f 7
               (try simp only [List.getD_cons_zero, List.getD_cons_succ] at c0 c1 c2 c3 c4 c5 c6 c7)
               clear cO
               clear kb hpk6 hMne oM6 kw6 hown' hgrow hat))
            exact ⟨⟨k + 1, by omega, by go_num, hN⟩, by simp [intOf]; omega⟩
          · obtain rfl : me = (k : Int) := by omega
            have kk := KK3.out.trans (hbw.mono KK3.out.size)
            have oZ := OZ3.out.below hbw
            have S1 := Lib.hid (HST.out.below hbw)
            have S2 := Lib.hid (HSD.out.below hbw)
            have hz1 : w.heap.size + 1 < w3.heap.size + 1 := by omega
            have HP := Lib.hid hP
            have mO := oM
            have m0 := mO.c 0; have mf0 := mO.f 0; have m1 := mO.c 1; have mf1 := mO.f 1; have m2 := mO.c 2; have mf2 := mO.f 2; have m3 := mO.c 3; have mf3 := mO.f 3; have m4 := mO.c 4; have mf4 := mO.f 4; have m5 := mO.c 5; have mf5 := mO.f 5; have m6 := mO.c 6; have mf6 := mO.f 6; have m7 := mO.c 7; have mf7 := mO.f 7
            (try simp only [List.getD_cons_zero, List.getD_cons_succ] at m0 m1 m2 m3 m4 m5 m6 m7)
            clear mO
            have zO := oZ
            have z0 := zO.c 0; have zf0 := zO.f 0; have z1 := zO.c 1; have zf1 := zO.f 1; have z2 := zO.c 2; have zf2 := zO.f 2; have z3 := zO.c 3; have zf3 := zO.f 3; have z4 := zO.c 4; have zf4 := zO.f 4; have z5 := zO.c 5; have zf5 := zO.f 5; have z6 := zO.c 6; have zf6 := zO.f 6; have z7 := zO.c 7; have zf7 := zO.f 7
            (try simp only [List.getD_cons_zero, List.getD_cons_succ] at z0 z1 z2 z3 z4 z5 z6 z7)
            clear zO
            have r1 := set_same
            have r2 := set_off
            have r3 := set_blk
            have hn1 : ¬ w.heap.size + 1 = w3.heap.size := by omega
            have hn2 : ¬ w3.heap.size = w.heap.size + 1 := by omega
            have HFin : Hid (∀ x0 x1 x2 x3 x4 x5 x6 x7, WbP ts f b d al dn (k : Nat) w (.returned (T2 (.agg #[.slice tb ts.length tc3, I f, I b, I d, I al, .slice db xs.length dc3, .slice none 0 0, .slice pa k pc]) (I 0))) ((((((((wr.setCell ⟨w.heap.size + 1, 0, none⟩ x0).setCell ⟨w.heap.size + 1, 1, none⟩ x1).setCell ⟨w.heap.size + 1, 2, none⟩ x2).setCell ⟨w.heap.size + 1, 3, none⟩ x3).setCell ⟨w.heap.size + 1, 4, none⟩ x4).setCell ⟨w.heap.size + 1, 5, none⟩ x5).setCell ⟨w.heap.size + 1, 6, none⟩ x6).setCell ⟨w.heap.size + 1, 7, none⟩ x7)) := fun x0 x1 x2 x3 x4 x5 x6 x7 => by
              have e1 := ((((((((S1.out.set HF1.out (j := 0) x0).set HF1.out (j := 1) x1).set HF1.out (j := 2) x2).set HF1.out (j := 3) x3).set HF1.out (j := 4) x4).set HF1.out (j := 5) x5).set HF1.out (j := 6) x6).set HF1.out (j := 7) x7)
              have e2 := ((((((((S2.out.set HF2.out (j := 0) x0).set HF2.out (j := 1) x1).set HF2.out (j := 2) x2).set HF2.out (j := 3) x3).set HF2.out (j := 4) x4).set HF2.out (j := 5) x5).set HF2.out (j := 6) x6).set HF2.out (j := 7) x7)
              have e3 := ((((((((HP.out.low hz1 0 x0).low hz1 1 x1).low hz1 2 x2).low hz1 3 x3).low hz1 4 x4).low hz1 5 x5).low hz1 6 x6).low hz1 7 x7)
              refine WbP.good HR.out e1 (HDV.out _ e2) (e3.sl (by rw [HLN.out]; omega)) ?_
              exact ((((((((kk.setCell (p := ⟨w.heap.size + 1, 0, none⟩) (by simp) x0).setCell (p := ⟨w.heap.size + 1, 1, none⟩) (by simp) x1).setCell (p := ⟨w.heap.size + 1, 2, none⟩) (by simp) x2).setCell (p := ⟨w.heap.size + 1, 3, none⟩) (by simp) x3).setCell (p := ⟨w.heap.size + 1, 4, none⟩) (by simp) x4).setCell (p := ⟨w.heap.size + 1, 5, none⟩) (by simp) x5).setCell (p := ⟨w.heap.size + 1, 6, none⟩) (by simp) x6).setCell (p := ⟨w.heap.size + 1, 7, none⟩) (by simp) x7)
            clear hD oM hP hbw oZ kk MK HR HST HSD OZ3 KK3 HF1 HF2 S1 S2 HP
            go_wp2
            exact bodyPost_ret (v := T2 (.agg #[.slice tb ts.length tc3, I f, I b, I d, I al, .slice db xs.length dc3, .slice none 0 0, .slice pa k pc]) (I 0)) (by simp [results, Try.results14, go_sem, *]; try omega) rfl (HFin.out _ _ _ _ _ _ _ _)
    · have hb : (blankE dn != 0) = true := by simp [hB]
      have HR0 := wb_blank (me := me) HE.out hB
      have HB := Lib.hid hB
      generalize blankE dn = E at *
      have HR := Lib.hid HR0
      have zO := oZ2
      have z0 := zO.c 0; have zf0 := zO.f 0; have z1 := zO.c 1; have zf1 := zO.f 1; have z2 := zO.c 2; have zf2 := zO.f 2; have z3 := zO.c 3; have zf3 := zO.f 3; have z4 := zO.c 4; have zf4 := zO.f 4; have z5 := zO.c 5; have zf5 := zO.f 5; have z6 := zO.c 6; have zf6 := zO.f 6; have z7 := zO.c 7; have zf7 := zO.f 7
      (try simp only [List.getD_cons_zero, List.getD_cons_succ] at z0 z1 z2 z3 z4 z5 z6 z7)
      clear zO
      have r1 := set_same
      have r2 := set_off
      have r3 := set_blk
      clear HR0 hB hd k2 oZ2 oT2 KK OZ1 OT1 BL CL MK HT
      go_wp2
      exact bodyPost_ret (v := T2 (.agg #[.slice none 0 0, I 0, I 0, I 0, I 0, .slice none 0 0, .slice none 0 0, .slice none 0 0]) (I E)) (by simp [results, Try.results14, go_sem, *]; try omega) rfl (WbP.bad HR.out HB.out below_autor)
  · have hb : (termsE ts f b d al != 0) = true := by simp [hE]
    have HR0 := wb_terms (dn := dn) (me := me) hE
    have HE := Lib.hid hE
    generalize termsE ts f b d al = E at *
    have HR := Lib.hid HR0
    have zO := oZ1
    have z0 := zO.c 0; have zf0 := zO.f 0; have z1 := zO.c 1; have zf1 := zO.f 1; have z2 := zO.c 2; have zf2 := zO.f 2; have z3 := zO.c 3; have zf3 := zO.f 3; have z4 := zO.c 4; have zf4 := zO.f 4; have z5 := zO.c 5; have zf5 := zO.f 5; have z6 := zO.c 6; have zf6 := zO.f 6; have z7 := zO.c 7; have zf7 := zO.f 7
    (try simp only [List.getD_cons_zero, List.getD_cons_succ] at z0 z1 z2 z3 z4 z5 z6 z7)
    clear zO
    have r1 := set_same
    have r2 := set_off
    have r3 := set_blk
    clear HR0 hE k1 oZ1 oT1 BL CL MK HT
    go_wp2
    exact bodyPost_ret (v := T2 (.agg #[.slice none 0 0, I 0, I 0, I 0, I 0, .slice none 0 0, .slice none 0 0, .slice none 0 0]) (I E)) (by simp [results, Try.results14, go_sem, *]; try omega) rfl (WbP.bad HR.out HE.out below_autor)
set_option maxHeartbeats 8000000 in
theorem WBegun_any (ts : List AStep) (f b d al dn me : Int) (tv : Value) (w : World) (ht : Sl w tv 2 ts.length (ts.flatMap AStep.cells)) :
    Calls Try.prog 15 #[.agg #[tv, I f, I b, I d, I al], I dn, I me] w (WbP ts f b d al dn me w) := by
  obtain ⟨i0, hi, hz0, hz1, hz2⟩ := info_parts info_recs
  have oT := (Own.new (w := w) (g := w.heap.size) (by rfl) [tv, I f, I b, I d, I al] 24).alloc (.cells #[.slice none 0 0, I 0, I 0, I 0, I 0, .slice none 0 0, .slice none 0 0, .slice none 0 0] 43)
  have oZ := Own.new (w := (w.alloc (.cells #[tv, I f, I b, I d, I al] 24))) (g := w.heap.size + 1) (by simp) [.slice none 0 0, I 0, I 0, I 0, I 0, .slice none 0 0, .slice none 0 0, .slice none 0 0] 43
  have bx0 := boxed_below w (.cells #[tv, I f, I b, I d, I al] 24)
  have kB := bx0.alloc bx0.size (.cells #[.slice none 0 0, I 0, I 0, I 0, I 0, .slice none 0 0, .slice none 0 0, .slice none 0 0] 43)
  clear bx0
  have F := Lib.hid (fun W hW => TermsFault_any tv ts f b d al W hW)
  have BL := Lib.hid (fun W => Blanked_any dn W)
  have CL := Lib.hid (fun dv xs W h1 h2 h3 h4 h5 h6 => WorldCopy0_any ts f b d al xs tv dv W h1 h2 h3 h4 h5 h6)
  have MK := Lib.hid (fun k W => PocketMade_f k W)
  have HT := Lib.hid ht
  have OT := Lib.hid oT
  have OZ := Lib.hid oZ
  have KB := Lib.hid kB
  have tO := oT
  have t0 := tO.c 0; have tf0 := tO.f 0; have t1 := tO.c 1; have tf1 := tO.f 1; have t2 := tO.c 2; have tf2 := tO.f 2; have t3 := tO.c 3; have tf3 := tO.f 3; have t4 := tO.c 4; have tf4 := tO.f 4
  (try simp only [List.getD_cons_zero, List.getD_cons_succ] at t0 t1 t2 t3 t4)
  clear tO
  clear ht oT oZ kB
  obtain ⟨ta, tc, htv, -⟩ := id HT.out
  subst htv
  go_enter Try.func15, Try.ntmps15
  go_wp2_with fail
  refine (F.out _ (HT.out.below KB.out)).mono ?_
  rintro e w1 ⟨rfl, k1⟩
  have kk := KB.out.trans (k1.mono KB.out.size)
  have oZ1 := OZ.out.below k1
  have oT1 := OT.out.below k1
  clear t0 t1 t2 t3 t4 tf0 tf1 tf2 tf3 tf4 F KB OZ OT
  by_cases hE : termsE ts f b d al = 0
  · have HE := Lib.hid hE
    have KK := Lib.hid kk
    have OZ1 := Lib.hid oZ1
    have OT1 := Lib.hid oT1
    rw [hE]
    clear hE kk oZ1 oT1 k1
    go_wp2_with fail
    refine (BL.out _).mono ?_
    rintro e w2 ⟨dv, rfl, hd, k2⟩
    have kk := KK.out.trans (k2.mono KK.out.size)
    have oZ2 := OZ1.out.below k2
    have oT2 := OT1.out.below k2
    obtain ⟨da, dc, rfl, -⟩ := id hd
    by_cases hB : blankE dn = 0
    · have HB := Lib.hid hB
      obtain ⟨bl1, bl2⟩ := blank_len hB
      obtain ⟨tl1, tl2⟩ := terms_len HE.out
      have hdm : (List.replicate (blankN dn) (U32 0)) = (List.replicate (blankN dn) (0 : Int)).map U32 := by simp
      have HD := Lib.hid (show Sl w2 (.slice da (blankN dn) dc) 1 (List.replicate (blankN dn) (0 : Int)).length ((List.replicate (blankN dn) (0 : Int)).map U32) by rw [List.length_replicate, ← hdm]; exact hd)
      rw [hB]
      have KK2 := Lib.hid kk
      have OZ2 := Lib.hid oZ2
      clear hB kk oZ2 k2 hd KK OZ1 OT1 BL
      cases hI : inB me 0 50
      · have HR := Lib.hid (wb_range HE.out HB.out hI)
        have hc : me < 0 ∨ (0 ≤ me ∧ 50 < me) := by rw [← Bool.not_eq_true, inB_true] at hI; omega
        have kk := KK2.out
        have IN := Lib.hid (fun W => In_any me 0 50 W)
        rw [hI] at IN
        clear hI
        have zO := OZ2.out
        have z0 := zO.c 0; have zf0 := zO.f 0; have z1 := zO.c 1; have zf1 := zO.f 1; have z2 := zO.c 2; have zf2 := zO.f 2; have z3 := zO.c 3; have zf3 := zO.f 3; have z4 := zO.c 4; have zf4 := zO.f 4; have z5 := zO.c 5; have zf5 := zO.f 5; have z6 := zO.c 6; have zf6 := zO.f 6; have z7 := zO.c 7; have zf7 := zO.f 7
        (try simp only [List.getD_cons_zero, List.getD_cons_succ] at z0 z1 z2 z3 z4 z5 z6 z7)
        clear zO
        have r1 := set_same
        have r2 := set_off
        have r3 := set_blk
        clear oT2 OZ2 KK2 HT CL MK HD
        clear hc
        go_wp2_with fail
        refine (IN.out _).mono ?_
        rintro e w' ⟨rfl, rfl⟩
        go_wp2
        exact bodyPost_ret (v := T2 (.agg #[.slice none 0 0, I 0, I 0, I 0, I 0, .slice none 0 0, .slice none 0 0, .slice none 0 0]) (I 2)) (by simp [results, Try.results15, go_sem, *]; try omega) rfl (WbP.bad HR.out (by decide) below_autor)
      · obtain ⟨m0, m50⟩ := inB_true.1 hI
        have HR := Lib.hid (wb_good HE.out HB.out hI)
        have hm0 : ¬ me < 0 := by omega
        have hm50 : ¬ 50 < me := by omega
        have IN := Lib.hid (fun W => In_any me 0 50 W)
        rw [hI] at IN
        clear hI
        have tO := oT2
        have t0 := tO.c 0; have tf0 := tO.f 0; have t1 := tO.c 1; have tf1 := tO.f 1; have t2 := tO.c 2; have tf2 := tO.f 2; have t3 := tO.c 3; have tf3 := tO.f 3; have t4 := tO.c 4; have tf4 := tO.f 4
        (try simp only [List.getD_cons_zero, List.getD_cons_succ] at t0 t1 t2 t3 t4)
        clear tO
        clear oT2
        go_wp2_with fail
        refine (IN.out _).mono ?_
        rintro e w' ⟨rfl, rfl⟩
        have bl3 : 0 < (List.replicate (blankN dn) (0 : Int)).length := by rw [List.length_replicate]; exact bl1
        have bl4 : (List.replicate (blankN dn) (0 : Int)).length ≤ 2048 := by rw [List.length_replicate]; exact bl2
        have P := Lib.hid (CL.out (.slice da (blankN dn) dc) _ w2 (HT.out.below KK2.out) HD.out tl1 tl2 bl3 bl4)
        go_wp2_with fail
        refine P.out.mono ?_
        rintro e w3 ⟨tv3, dv3, rfl, hst, hsd, hft, hfd, k3⟩
        have kk := KK2.out.trans (k3.mono KK2.out.size)
        have oZ3 := OZ2.out.below k3
        have hz3 : w.heap.size + 1 < w3.heap.size := oZ3.lt
        have hz2s : w.heap.size + 1 < w2.heap.size := OZ2.out.lt
        clear t0 t1 t2 t3 t4 tf0 tf1 tf2 tf3 tf4 P CL KK2 OZ2 k3 HD HT
        have hln : (List.replicate (blankN dn) (0 : Int)).length = blankN dn := List.length_replicate
        generalize hxs : List.replicate (blankN dn) (0 : Int) = xs at *
        have HXS := Lib.hid hxs
        clear hxs
        have kA := boxed_below w3 (.cells #[tv3, I f, I b, I d, I al, dv3, .slice none 0 0, .slice none 0 0] 43)
        have hD0 : Hid (WRel w3 f b d al tv3 dv3 0 (w3.alloc (.cells #[tv3, I f, I b, I d, I al, dv3, .slice none 0 0, .slice none 0 0] 43))) :=
          ⟨_, [], Own.new rfl [tv3, I f, I b, I d, I al, dv3, .slice none 0 0, .slice none 0 0] _, Pks.nil _ _, kA⟩
        have hk2 : w.heap.size + 2 ≤ w2.heap.size := by omega
        have HF1 := Lib.hid (hft.far (show w.heap.size + 1 < w2.heap.size by omega))
        have HF2 := Lib.hid (hfd.far (show w.heap.size + 1 < w2.heap.size by omega))
        have HST := Lib.hid hst
        have HSD := Lib.hid hsd
        have OZ3 := Lib.hid oZ3
        have KK3 := Lib.hid kk
        obtain ⟨tb, tc3, rfl, -⟩ := id hst
        obtain ⟨db, dc3, rfl, -⟩ := id hsd
        have HDV : Hid (∀ W, Sl W (.slice db xs.length dc3) 1 xs.length (xs.map U32) → Sl W (.slice db xs.length dc3) 1 (blankN dn) (List.replicate (blankN dn) (U32 0))) := fun W h => by
          have e := HXS.out
          subst e
          rw [hln] at h ⊢
          simpa using h
        clear kA hst hsd hft hfd oZ3 kk HXS hln
        go_wp2
        go_loopw [11] (fun i wr => ∃ k : Nat, (k : Int) ≤ me ∧ i = I k ∧ Hid (WRel w3 f b d al (.slice tb ts.length tc3) (.slice db xs.length dc3) k wr)) (fun i _ => me.toNat - (intOf i).toNat)
        case atStart => exact ⟨0, m0, rfl, hD0⟩
        case round =>
          obtain ⟨k, hk, rfl, hD⟩ := hrel
          clear hD0
          obtain ⟨pv, us, oM, hP, hbw⟩ := hD.out
          have HLN := Lib.hid (wbPks_len k)
          have hpl : ∃ pa pc, pv = .slice pa k pc := by
            have h9 := hP.2.1
            rw [HLN.out] at h9
            rcases owns_cases h9 with ⟨h, hn⟩ | ⟨g, c, h, _⟩
            · exact ⟨none, 0, by rw [h, hn]⟩
            · exact ⟨_, c, h⟩
          obtain ⟨pa, pc, rfl⟩ := hpl
          by_cases hlt : (k : Int) < me
          · have hE0 := makeE_at hlt m50
            have hL0 := makeL_len hlt m50
            have PM := Lib.hid (MK.out (k : Nat) wr)
            rw [hE0, hL0] at PM
            have HPK := Lib.hid hP
            have OM := Lib.hid oM
            have KW := Lib.hid hbw
            have HSU := Lib.hid (wbPks_succ k)
            have HL12 := Lib.hid hL0
            have hk50 : k < 50 := by omega
            have hwr3 : w3.heap.size + 1 ≤ wr.heap.size := oM.lt
            clear hD oM hP hbw hE0 hL0 MK
            go_wp2_with fail
            refine PM.out.mono ?_
            rintro e w5 ⟨u, rfl, hu, k5, hFu⟩
            have hsz5 := k5.size
            have hblk : ∀ z, (Value.slice pa k pc).ownBlock = some z → w3.heap.size + 1 ≤ z ∧ z < wr.heap.size := fun z hz => HPK.out.2.1.lt z hz
            have hrec : PkRec w5 (w3.heap.size + 1) (Value.slice pa k pc).ownBlock u (makeL (k : Nat)) := by
              refine ⟨by rw [HL12.out]; exact hu, fun a n c e => ?_⟩
              have q1 := hFu a n c e
              refine ⟨fun e2 => by have := (hblk _ e2).2; omega, by omega, ?_⟩
              obtain ⟨a', c', hv, -, -, -, hr⟩ := id hu
              rcases hr with hr | ⟨bb, o, hb, hbl, -⟩
              · omega
              · rw [e] at hv; injection hv with e1; injection (e1.trans hb) with e2; rw [e2]; exact hbl
            have HRC := Lib.hid hrec
            have HP5 := Lib.hid (HPK.out.below k5)
            have oM5 := OM.out.below k5
            have OM5 := Lib.hid oM5
            have KW5 := Lib.hid (KW.out.trans (k5.mono KW.out.size))
            have HBK := Lib.hid hblk
            obtain ⟨ua, uc, rfl, -⟩ := id hu
            have HOW := HP5.out.2.1
            rw [HLN.out] at HOW
            have HOW5 := Lib.hid HOW
            have hw5 : w3.heap.size < w5.heap.size := oM5.lt
            have ra : ∀ (o : Obj) (g j : Nat), g < w5.heap.size → (w5.alloc o).cell? ⟨g, j, none⟩ = w5.cell? ⟨g, j, none⟩ := fun o g j h => (boxed_below w5 o).cell (p := ⟨g, j, none⟩) h
            have mO := oM5
            have m0 := mO.c 0; have mf0 := mO.f 0; have m1 := mO.c 1; have mf1 := mO.f 1; have m2 := mO.c 2; have mf2 := mO.f 2; have m3 := mO.c 3; have mf3 := mO.f 3; have m4 := mO.c 4; have mf4 := mO.f 4; have m5 := mO.c 5; have mf5 := mO.f 5; have m6 := mO.c 6; have mf6 := mO.f 6; have m7 := mO.c 7; have mf7 := mO.f 7
            (try simp only [List.getD_cons_zero, List.getD_cons_succ] at m0 m1 m2 m3 m4 m5 m6 m7)
            clear mO
            clear k5 oM5 hblk hrec hu hFu HOW PM OM KW HPK
            go_wp2_with
              (at_builtin
               (
               refine wpList_append_lies _ rfl _ _ 41 rfl (w3.heap.size + 1) 37 i0 (.slice none 0 0) 1 24 Try.underlying41 hi hz0 hz1 hz2 rfl (by decide) _ k us rfl (owns_kept HOW5.out (boxed_below _ _)) ⟨w5.heap.size, 0, none⟩ 1 1 [.slice ua 12 uc] rfl rfl (news_lit _ _ _) (oneCells_lit rfl) (by omega) (by unfold maxLen; omega) (by omega) (by simp; omega) _ rfl ?_
               intro g cap w6 hown' hgrow hat hlt1
               have kb := boxed_below w5 (.cells #[.slice ua 12 uc] 37)
               have hpk6 := pks_snoc (HP5.out.below kb) (HRC.out.below kb) hown' (by rw [HLN.out]) hgrow hat
               have hMne : some w3.heap.size ≠ (Value.slice pa k pc).ownBlock := fun e => by have := (HBK.out _ e.symm).1; omega
               have oM6 := (OM5.out.below kb).grown hgrow hMne
               have kw6 := Below.grown (B := w3.heap.size) (KW5.out.trans (kb.mono KW5.out.size)) hgrow (Nat.le_trans KW5.out.size kb.size) (fun z hz => by have := (HBK.out z hz).1; omega)
               have hN := Lib.hid (WRel.next oM6 hpk6 kw6)
               have cO := oM6
               have c0 := cO.c 0; have cf0 := cO.f 0; have c1 := cO.c 1; have cf1 := cO.f 1; have c2 := cO.c 2; have cf2 := cO.f 2; have c3 := cO.c 3; have cf3 := cO.f 3; have c4 := cO.c 4; have cf4 := cO.f 4; have c5 := cO.c 5; have cf5 := cO.f 5; have c6 := cO.c 6; have cf6 := cO.f 6; have c7 := cO.c 7; have cf7 := cO.f 7
               (try simp only [List.getD_cons_zero, List.getD_cons_succ] at c0 c1 c2 c3 c4 c5 c6 c7)
               clear cO
               clear kb hpk6 hMne oM6 kw6 hown' hgrow hat))
            exact ⟨⟨k + 1, by omega, by go_num, hN⟩, by simp [intOf]; omega⟩
          · obtain rfl : me = (k : Int) := by omega
            have kk := KK3.out.trans (hbw.mono KK3.out.size)
            have oZ := OZ3.out.below hbw
            have S1 := Lib.hid (HST.out.below hbw)
            have S2 := Lib.hid (HSD.out.below hbw)
            have hz1 : w.heap.size + 1 < w3.heap.size + 1 := by omega
            have HP := Lib.hid hP
            have mO := oM
            have m0 := mO.c 0; have mf0 := mO.f 0; have m1 := mO.c 1; have mf1 := mO.f 1; have m2 := mO.c 2; have mf2 := mO.f 2; have m3 := mO.c 3; have mf3 := mO.f 3; have m4 := mO.c 4; have mf4 := mO.f 4; have m5 := mO.c 5; have mf5 := mO.f 5; have m6 := mO.c 6; have mf6 := mO.f 6; have m7 := mO.c 7; have mf7 := mO.f 7
            (try simp only [List.getD_cons_zero, List.getD_cons_succ] at m0 m1 m2 m3 m4 m5 m6 m7)
            clear mO
            have zO := oZ
            have z0 := zO.c 0; have zf0 := zO.f 0; have z1 := zO.c 1; have zf1 := zO.f 1; have z2 := zO.c 2; have zf2 := zO.f 2; have z3 := zO.c 3; have zf3 := zO.f 3; have z4 := zO.c 4; have zf4 := zO.f 4; have z5 := zO.c 5; have zf5 := zO.f 5; have z6 := zO.c 6; have zf6 := zO.f 6; have z7 := zO.c 7; have zf7 := zO.f 7
            (try simp only [List.getD_cons_zero, List.getD_cons_succ] at z0 z1 z2 z3 z4 z5 z6 z7)
            clear zO
            have r1 := set_same
            have r2 := set_off
            have r3 := set_blk
            have hn1 : ¬ w.heap.size + 1 = w3.heap.size := by omega
            have hn2 : ¬ w3.heap.size = w.heap.size + 1 := by omega
            have HFin : Hid (∀ x0 x1 x2 x3 x4 x5 x6 x7, WbP ts f b d al dn (k : Nat) w (.returned (T2 (.agg #[.slice tb ts.length tc3, I f, I b, I d, I al, .slice db xs.length dc3, .slice none 0 0, .slice pa k pc]) (I 0))) ((((((((wr.setCell ⟨w.heap.size + 1, 0, none⟩ x0).setCell ⟨w.heap.size + 1, 1, none⟩ x1).setCell ⟨w.heap.size + 1, 2, none⟩ x2).setCell ⟨w.heap.size + 1, 3, none⟩ x3).setCell ⟨w.heap.size + 1, 4, none⟩ x4).setCell ⟨w.heap.size + 1, 5, none⟩ x5).setCell ⟨w.heap.size + 1, 6, none⟩ x6).setCell ⟨w.heap.size + 1, 7, none⟩ x7)) := fun x0 x1 x2 x3 x4 x5 x6 x7 => by
              have e1 := ((((((((S1.out.set HF1.out (j := 0) x0).set HF1.out (j := 1) x1).set HF1.out (j := 2) x2).set HF1.out (j := 3) x3).set HF1.out (j := 4) x4).set HF1.out (j := 5) x5).set HF1.out (j := 6) x6).set HF1.out (j := 7) x7)
              have e2 := ((((((((S2.out.set HF2.out (j := 0) x0).set HF2.out (j := 1) x1).set HF2.out (j := 2) x2).set HF2.out (j := 3) x3).set HF2.out (j := 4) x4).set HF2.out (j := 5) x5).set HF2.out (j := 6) x6).set HF2.out (j := 7) x7)
              have e3 := ((((((((HP.out.low hz1 0 x0).low hz1 1 x1).low hz1 2 x2).low hz1 3 x3).low hz1 4 x4).low hz1 5 x5).low hz1 6 x6).low hz1 7 x7)
              refine WbP.good HR.out e1 (HDV.out _ e2) (e3.sl (by rw [HLN.out]; omega)) ?_
              exact ((((((((kk.setCell (p := ⟨w.heap.size + 1, 0, none⟩) (by simp) x0).setCell (p := ⟨w.heap.size + 1, 1, none⟩) (by simp) x1).setCell (p := ⟨w.heap.size + 1, 2, none⟩) (by simp) x2).setCell (p := ⟨w.heap.size + 1, 3, none⟩) (by simp) x3).setCell (p := ⟨w.heap.size + 1, 4, none⟩) (by simp) x4).setCell (p := ⟨w.heap.size + 1, 5, none⟩) (by simp) x5).setCell (p := ⟨w.heap.size + 1, 6, none⟩) (by simp) x6).setCell (p := ⟨w.heap.size + 1, 7, none⟩) (by simp) x7)
            clear hD oM hP hbw oZ kk MK HR HST HSD OZ3 KK3 HF1 HF2 S1 S2 HP
            go_wp2
            exact bodyPost_ret (v := T2 (.agg #[.slice tb ts.length tc3, I f, I b, I d, I al, .slice db xs.length dc3, .slice none 0 0, .slice pa k pc]) (I 0)) (by simp [results, Try.results15, go_sem, *]; try omega) rfl (HFin.out _ _ _ _ _ _ _ _)
    · have hb : (blankE dn != 0) = true := by simp [hB]
      have HR0 := wb_blank (me := me) HE.out hB
      have HB := Lib.hid hB
      generalize blankE dn = E at *
      have HR := Lib.hid HR0
      have zO := oZ2
      have z0 := zO.c 0; have zf0 := zO.f 0; have z1 := zO.c 1; have zf1 := zO.f 1; have z2 := zO.c 2; have zf2 := zO.f 2; have z3 := zO.c 3; have zf3 := zO.f 3; have z4 := zO.c 4; have zf4 := zO.f 4; have z5 := zO.c 5; have zf5 := zO.f 5; have z6 := zO.c 6; have zf6 := zO.f 6; have z7 := zO.c 7; have zf7 := zO.f 7
      (try simp only [List.getD_cons_zero, List.getD_cons_succ] at z0 z1 z2 z3 z4 z5 z6 z7)
      clear zO
      have r1 := set_same
      have r2 := set_off
      have r3 := set_blk
      clear HR0 hB hd k2 oZ2 oT2 KK OZ1 OT1 BL CL MK HT
      go_wp2
      exact bodyPost_ret (v := T2 (.agg #[.slice none 0 0, I 0, I 0, I 0, I 0, .slice none 0 0, .slice none 0 0, .slice none 0 0]) (I E)) (by simp [results, Try.results15, go_sem, *]; try omega) rfl (WbP.bad HR.out HB.out below_autor)
  · have hb : (termsE ts f b d al != 0) = true := by simp [hE]
    have HR0 := wb_terms (dn := dn) (me := me) hE
    have HE := Lib.hid hE
    generalize termsE ts f b d al = E at *
    have HR := Lib.hid HR0
    have zO := oZ1
    have z0 := zO.c 0; have zf0 := zO.f 0; have z1 := zO.c 1; have zf1 := zO.f 1; have z2 := zO.c 2; have zf2 := zO.f 2; have z3 := zO.c 3; have zf3 := zO.f 3; have z4 := zO.c 4; have zf4 := zO.f 4; have z5 := zO.c 5; have zf5 := zO.f 5; have z6 := zO.c 6; have zf6 := zO.f 6; have z7 := zO.c 7; have zf7 := zO.f 7
    (try simp only [List.getD_cons_zero, List.getD_cons_succ] at z0 z1 z2 z3 z4 z5 z6 z7)
    clear zO
    have r1 := set_same
    have r2 := set_off
    have r3 := set_blk
    clear HR0 hE k1 oZ1 oT1 BL CL MK HT
    go_wp2
    exact bodyPost_ret (v := T2 (.agg #[.slice none 0 0, I 0, I 0, I 0, I 0, .slice none 0 0, .slice none 0 0, .slice none 0 0]) (I E)) (by simp [results, Try.results15, go_sem, *]; try omega) rfl (WbP.bad HR.out HE.out below_autor)
end Go.Proofs.Ytenoigmkhlnfoaa
