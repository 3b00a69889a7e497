/- vend.Charge, ref.VendCharge -/
import Derived.Test.YtenoigmkhlnfoaaPk49
import Derived.Test.YtenoigmkhlnfoaaPk27
namespace Go.Proofs.Ytenoigmkhlnfoaa
set_option linter.unusedSimpArgs false
set_option linter.unusedVariables false
open Go Go.RowKit
set_option maxRecDepth 20000
def chgV (me ow bp : Int) : AEvent := ⟨5, me, 0, ⟨0, 0, 0, 0, 0, 0, 0⟩, 0, ⟨ow, bp⟩⟩
def owesC (t : PTerms) (xs : List Int) (me ow bp : Int) : Int := oweE ((loadC t xs).getD (idxOf (loadC t xs) me).toNat default).acc ((loadC t xs).getD (idxOf (loadC t xs) me).toNat default).debts ⟨ow, bp⟩
def chgE (t : PTerms) (xs : List Int) (me ow bp : Int) : Int := if loadE t xs = 0 then (if 0 ≤ idxOf (loadC t xs) me then (if owesC t xs me ow bp = 0 then keepsE xs (chgV me ow bp) else owesC t xs me ow bp) else 18) else loadE t xs
def chgL (t : PTerms) (xs : List Int) (me ow bp : Int) : List AWrite := if loadE t xs = 0 then (if 0 ≤ idxOf (loadC t xs) me then (if owesC t xs me ow bp = 0 then keepsL xs (chgV me ow bp) else []) else []) else []
def ChgP (t : PTerms) (xs : List Int) (me ow bp : Int) (w : World) (e : Ending) (w' : World) : Prop := GrewSl2 2 (chgL t xs me ow bp).length ((chgL t xs me ow bp).flatMap AWrite.cells) (chgE t xs me ow bp) w e w'
theorem ChgP.none {t : PTerms} {xs : List Int} {me ow bp : Int} {w w' : World} {k : Int} (h : chgE t xs me ow bp = k ∧ chgL t xs me ow bp = []) (hb : Below w.heap.size w w') : ChgP t xs me ow bp w (.returned (T2 (.slice none 0 0) (I k))) w' := by
  unfold ChgP
  rw [h.1, h.2]
  exact ⟨_, rfl, Sl.nil _ _, hb⟩
theorem ChgP.some {t : PTerms} {xs : List Int} {me ow bp : Int} {w w' : World} {u : Value} (h : chgE t xs me ow bp = keepsE xs (chgV me ow bp) ∧ chgL t xs me ow bp = keepsL xs (chgV me ow bp)) (hS : Sl w' u 2 (keepsL xs (chgV me ow bp)).length ((keepsL xs (chgV me ow bp)).flatMap AWrite.cells)) (hb : Below w.heap.size w w') : ChgP t xs me ow bp w (.returned (T2 u (I (keepsE xs (chgV me ow bp))))) w' := by
  unfold ChgP
  rw [h.1, h.2]
  exact ⟨_, rfl, hS, hb⟩
theorem chg_load {t : PTerms} {xs : List Int} {me ow bp : Int} (h : loadE t xs ≠ 0) : chgE t xs me ow bp = loadE t xs ∧ chgL t xs me ow bp = [] := by unfold chgE chgL; rw [if_neg h, if_neg h]; exact ⟨rfl, rfl⟩
theorem chg_none {t : PTerms} {xs : List Int} {me ow bp : Int} (h : loadE t xs = 0) (h2 : idxOf (loadC t xs) me < 0) : chgE t xs me ow bp = 18 ∧ chgL t xs me ow bp = [] := by unfold chgE chgL; rw [if_pos h, if_pos h, if_neg (by omega), if_neg (by omega)]; exact ⟨rfl, rfl⟩
theorem chg_owe {t : PTerms} {xs : List Int} {me ow bp : Int} (h : loadE t xs = 0) (h2 : 0 ≤ idxOf (loadC t xs) me) (h3 : owesC t xs me ow bp ≠ 0) : chgE t xs me ow bp = owesC t xs me ow bp ∧ chgL t xs me ow bp = [] := by
  unfold chgE chgL; rw [if_pos h, if_pos h, if_pos h2, if_pos h2, if_neg h3, if_neg h3]; exact ⟨rfl, rfl⟩
theorem chg_keep {t : PTerms} {xs : List Int} {me ow bp : Int} (h : loadE t xs = 0) (h2 : 0 ≤ idxOf (loadC t xs) me) (h3 : owesC t xs me ow bp = 0) : chgE t xs me ow bp = keepsE xs (chgV me ow bp) ∧ chgL t xs me ow bp = keepsL xs (chgV me ow bp) := by
  unfold chgE chgL; rw [if_pos h, if_pos h, if_pos h2, if_pos h2, if_pos h3, if_pos h3]; exact ⟨rfl, rfl⟩
set_option maxHeartbeats 8000000 in
theorem Charge_any (t : PTerms) (tv cv : Value) (xs : List Int) (me ow bp : Int) (w : World) (ht : Sl w tv 2 t.ts.length (t.ts.flatMap AStep.cells)) (hc : Sl w cv 1 xs.length (xs.map U32)) (hw : ∀ x ∈ xs, W32 x) :
    Calls Try.prog 25 #[.agg #[tv, I t.f, I t.b, I t.d, I t.al], cv, I me, .agg #[I ow, I bp]] w (ChgP t xs me ow bp w) := by
  have oT := (Own.new (w := w) (g := w.heap.size) (by rfl) [tv, I t.f, I t.b, I t.d, I t.al] 24).alloc (.cells #[I ow, I bp] 60)
  have oD := Own.new (w := (w.alloc (.cells #[tv, I t.f, I t.b, I t.d, I t.al] 24))) (g := w.heap.size + 1) (by simp) [I ow, I bp] 60
  have bx0 := boxed_below w (.cells #[tv, I t.f, I t.b, I t.d, I t.al] 24)
  have kB := bx0.alloc bx0.size (.cells #[I ow, I bp] 60)
  clear bx0
  have P := Lib.hid (open_any t tv cv xs _ (ht.below kB) (hc.below kB) hw)
  have KB := Lib.hid kB
  have HC := Lib.hid hc
  have HW := Lib.hid hw
  have OD := Lib.hid oD
  have tO := oT
  have tfA := tO.f; have t0 := tO.c0; have t1 := tO.c1; have t2 := tO.c2; have t3 := tO.c3; have t4 := tO.c4
  clear tO
  obtain ⟨a, cap, rfl, -⟩ := id hc
  clear hw ht kB oT hc oD
  go_enter Try.func25, Try.ntmps25
  go_wp2_with fail
  refine P.out.mono ?_
  rintro e w1 hP
  unfold OpenP at hP
  clear t0 t1 t2 t3 t4 tfA
  by_cases h0 : loadE t xs = 0
  · obtain ⟨sg, bv, ys, rfl, hs, hb, k1⟩ := hP.1 h0
    have kk := KB.out.trans (k1.mono KB.out.size)
    have HS := Lib.hid hs
    have HB := Lib.hid hb
    have KK := Lib.hid kk
    have H0 := Lib.hid h0
    have OD1 := Lib.hid (OD.out.below k1)
    have hbd := (loadC_bd t xs).1
    have CU := Lib.hid (customer_any sg _ bv (.slice a xs.length cap) tv (I t.f) (I t.b) (I t.d) (I t.al) (I ((keptL xs).length : Nat)) (loadC t xs) ys me _ hs hb (by omega))
    clear hP h0 P hs k1 kk hbd
    go_wp2_with fail
    refine CU.out.mono ?_
    rintro e w2 hQ
    unfold CustP at hQ
    by_cases h3 : 0 ≤ idxOf (loadC t xs) me
    · obtain ⟨j, hj⟩ := Int.eq_ofNat_of_zero_le h3
      have hjl : j < (loadC t xs).length := by rcases idxOf_bd (loadC t xs) me with h | h <;> omega
      obtain ⟨g, gcap, rfl, rfl, k2⟩ := hQ.1 h3
      have H3 := Lib.hid h3
      have hOE := Lib.hid (show owesC t xs me ow bp = oweE ((loadC t xs).getD j default).acc ((loadC t xs).getD j default).debts ⟨ow, bp⟩ by unfold owesC; rw [hj]; rfl)
      rw [hj, Int.toNat_natCast]
      have kk2 := KK.out.trans (k2.mono KK.out.size)
      have hb2 := HB.out.below k2
      have hcell := book_cells hb2 hjl
      have hCR := hb2.2.2.1 j hjl
      have hgl := hb2.2.1.lt g rfl
      have HCE := Lib.hid hcell
      have OD2 := Lib.hid (OD1.out.below k2)
      have HS2 := Lib.hid (HS.out.below k2)
      have KK2 := Lib.hid kk2
      generalize ys.getD j default = x at *
      generalize (loadC t xs).getD j default = c at *
      obtain ⟨hxe, hSd, hSo⟩ := hCR
      obtain ⟨m1, m2, m3, m4, m5, m6, da, dn, dc, sa, sn, sc⟩ := x
      simp only [ofCust, ACust.mk.injEq, true_and, and_true] at hxe
      obtain ⟨rfl, rfl, rfl, rfl, rfl, rfl, rfl, rfl⟩ := hxe
      obtain ⟨⟨m1, m2, m3, m4, m5, m6⟩, ds, ss⟩ := c
      simp only at hSd hOE HCE
      have Ow := Lib.hid (fun W hW => Owe_f ⟨m1, m2, m3, m4, m5, m6⟩ (.slice da ds.length dc) ds ⟨ow, bp⟩ W hW)
      simp only at Ow
      generalize oweE ⟨m1, m2, m3, m4, m5, m6⟩ ds ⟨ow, bp⟩ = E at *
      generalize oweX ⟨m1, m2, m3, m4, m5, m6⟩ ds ⟨ow, bp⟩ = X at *
      generalize oweL ⟨m1, m2, m3, m4, m5, m6⟩ ds ⟨ow, bp⟩ = L at *
      obtain ⟨X1, X2, X3, X4, X5, X6⟩ := X
      have HSd := Lib.hid hSd
      clear hQ h3 k2 CU hb hb2 kk2 hcell hSd hSo hj
      have hj0 : (0 : Int) ≤ (j : Int) := by omega
      go_upto_region 7 with fail
      go_cut [14] (fun s14 wx => s14 = I E ∧ Below w2.heap.size w2 wx)
      case first =>
        have HSS : (fun W => Own W (w.heap.size + 1) [I ow, I bp] ∧ ∀ i, i < 8 → W.cell? ⟨g, j * 8 + i, none⟩ = some ((ACust.mk m1 m2 m3 m4 m5 m6 da ds.length dc sa ss.length sc).cells.getD i undef)) w2.drew := ⟨OD2.out, fun i hi => (HCE.out i hi).1⟩
        refine AnyC.begin 5 (fun W => Own W (w.heap.size + 1) [I ow, I bp] ∧ ∀ i, i < 8 → W.cell? ⟨g, j * 8 + i, none⟩ = some ((ACust.mk m1 m2 m3 m4 m5 m6 da ds.length dc sa ss.length sc).cells.getD i undef)) (by kernel_rfl) ?_
        refine AnyC.take (i := 0) (v := ?_) rfl (by kernel_rfl) (by kernel_rfl) (by kernel_rfl) (by kernel_rfl) (fun _ _ _ h => h) (Or.inl ⟨by rfl, ?_⟩) HSS ?_
        rotate_left
        · intro W hSw
          obtain ⟨s1, s4⟩ := hSw
          have vO := s1
          have vfA := vO.f; have v0 := vO.c0; have v1 := vO.c1
          clear vO
          have y0 := s4 0 (by decide)
          have y1 := s4 1 (by decide)
          have y2 := s4 2 (by decide)
          have y3 := s4 3 (by decide)
          have y4 := s4 4 (by decide)
          have y5 := s4 5 (by decide)
          have y6 := s4 6 (by decide)
          simp only [ACust.cells, List.getD_cons_zero, List.getD_cons_succ, Nat.add_zero] at y0 y1 y2 y3 y4 y5 y6
          clear s4
          first | (go_simp; done) | (go_simp; with_reducible rfl)
        (try simp only [Act.put])
        (try simp only [List.setIfInBounds_toArray])
        refine AnyC.take (i := 1) (v := ?_) rfl (by kernel_rfl) (by kernel_rfl) (by kernel_rfl) (by kernel_rfl) (fun _ _ _ h => h) (Or.inl ⟨by rfl, ?_⟩) HSS ?_
        rotate_left
        · intro W hSw
          obtain ⟨s1, s4⟩ := hSw
          have vO := s1
          have vfA := vO.f; have v0 := vO.c0; have v1 := vO.c1
          clear vO
          have y0 := s4 0 (by decide)
          have y1 := s4 1 (by decide)
          have y2 := s4 2 (by decide)
          have y3 := s4 3 (by decide)
          have y4 := s4 4 (by decide)
          have y5 := s4 5 (by decide)
          have y6 := s4 6 (by decide)
          simp only [ACust.cells, List.getD_cons_zero, List.getD_cons_succ, Nat.add_zero] at y0 y1 y2 y3 y4 y5 y6
          clear s4
          first | (go_simp; done) | (go_simp; with_reducible rfl)
        (try simp only [Act.put])
        refine AnyC.take (i := 2) (v := ?_) rfl (by kernel_rfl) (by kernel_rfl) (by kernel_rfl) (by kernel_rfl) (fun _ _ _ h => h) (Or.inl ⟨by rfl, ?_⟩) HSS ?_
        rotate_left
        · intro W hSw
          obtain ⟨s1, s4⟩ := hSw
          have vO := s1
          have vfA := vO.f; have v0 := vO.c0; have v1 := vO.c1
          clear vO
          have y0 := s4 0 (by decide)
          have y1 := s4 1 (by decide)
          have y2 := s4 2 (by decide)
          have y3 := s4 3 (by decide)
          have y4 := s4 4 (by decide)
          have y5 := s4 5 (by decide)
          have y6 := s4 6 (by decide)
          simp only [ACust.cells, List.getD_cons_zero, List.getD_cons_succ, Nat.add_zero] at y0 y1 y2 y3 y4 y5 y6
          clear s4
          first | (go_simp; done) | (go_simp; with_reducible rfl)
        (try simp only [Act.put])
        refine AnyC.take (i := 3) (v := ?_) rfl (by kernel_rfl) (by kernel_rfl) (by kernel_rfl) (by kernel_rfl) (fun _ _ _ h => h) (Or.inl ⟨by rfl, ?_⟩) HSS ?_
        rotate_left
        · intro W hSw
          obtain ⟨s1, s4⟩ := hSw
          have vO := s1
          have vfA := vO.f; have v0 := vO.c0; have v1 := vO.c1
          clear vO
          have y0 := s4 0 (by decide)
          have y1 := s4 1 (by decide)
          have y2 := s4 2 (by decide)
          have y3 := s4 3 (by decide)
          have y4 := s4 4 (by decide)
          have y5 := s4 5 (by decide)
          have y6 := s4 6 (by decide)
          simp only [ACust.cells, List.getD_cons_zero, List.getD_cons_succ, Nat.add_zero] at y0 y1 y2 y3 y4 y5 y6
          clear s4
          first | (go_simp; done) | (go_simp; with_reducible rfl)
        (try simp only [Act.put])
        refine AnyC.take (i := 4) (v := ?_) rfl (by kernel_rfl) (by kernel_rfl) (by kernel_rfl) (by kernel_rfl) (fun _ _ _ h => h) (Or.inl ⟨by rfl, ?_⟩) HSS ?_
        rotate_left
        · intro W hSw
          obtain ⟨s1, s4⟩ := hSw
          have vO := s1
          have vfA := vO.f; have v0 := vO.c0; have v1 := vO.c1
          clear vO
          have y0 := s4 0 (by decide)
          have y1 := s4 1 (by decide)
          have y2 := s4 2 (by decide)
          have y3 := s4 3 (by decide)
          have y4 := s4 4 (by decide)
          have y5 := s4 5 (by decide)
          have y6 := s4 6 (by decide)
          simp only [ACust.cells, List.getD_cons_zero, List.getD_cons_succ, Nat.add_zero] at y0 y1 y2 y3 y4 y5 y6
          clear s4
          first | (go_simp; done) | (go_simp; with_reducible rfl)
        (try simp only [Act.put])
        refine AnyC.two (i := 5) (j := 9) (by kernel_rfl) (by rfl) (by rfl) (fun K hK => ?_) (fun K hK => ?_)
        · go_simp
          (with_reducible refine (Ow.out _ ?_).mono ?_)
          · exact HSd.out
          rintro e w4 ⟨u, rfl, hu, k4, hFu⟩
          obtain ⟨ua, uc, rfl, -⟩ := _root_.id hu
          have k4' : Below w2.heap.size w2 w4 := ⟨k4.os, k4.tape, k4.output, k4.size, k4.block⟩
          go_wp2_with fail
          refine hK.out _ _ (fun h => absurd rfl h) ?_
          clear hK K HSS
          (try simp only [Act.put])
          refine AnyC.pure (i := 6) (v := ?_) rfl (by decide) (by kernel_rfl) (by kernel_rfl) (by kernel_rfl) (fun _ _ _ h => h) (Or.inl ⟨by rfl, ?_⟩) (fun h => absurd h (by decide)) ?_
          rotate_left
          · (intro w; first | (go_simp; done) | (go_simp; with_reducible rfl))
          (try simp only [Act.put])
          refine AnyC.pure (i := 7) (v := ?_) rfl (by decide) (by kernel_rfl) (by kernel_rfl) (by kernel_rfl) (fun _ _ _ h => h) (Or.inl ⟨by rfl, ?_⟩) (fun h => absurd h (by decide)) ?_
          rotate_left
          · (intro w; first | (go_simp; done) | (go_simp; with_reducible rfl))
          (try simp only [Act.put])
          refine AnyC.pure (i := 8) (v := ?_) rfl (by decide) (by kernel_rfl) (by kernel_rfl) (by kernel_rfl) (fun _ _ _ h => h) (Or.inl ⟨by rfl, ?_⟩) (fun h => absurd h (by decide)) ?_
          rotate_left
          · (intro w; first | (go_simp; done) | (go_simp; with_reducible rfl))
          (try simp only [Act.put])
          refine AnyC.one (i := 9) (by kernel_rfl) (by rfl) (fun K hK => ?_)
          go_simp
          refine hK.out _ _ (fun _ h => absurd h (by decide)) ?_
          clear hK K
          (try simp only [Act.put])
          refine AnyC.one (i := 10) (by kernel_rfl) (by rfl) (fun K hK => ?_)
          go_simp
          refine hK.out _ _ (fun _ h => absurd h (by decide)) ?_
          clear hK K
          (try simp only [Act.put])
          refine AnyC.one (i := 11) (by kernel_rfl) (by rfl) (fun K hK => ?_)
          go_simp
          refine hK.out _ _ (fun _ h => absurd h (by decide)) ?_
          clear hK K
          (try simp only [Act.put])
          refine AnyC.done (by kernel_rfl) ?_ _
          go_wp2_with fail
          go_meet
          have kA := boxed_below w4 (.cells #[I X1, I X2, I X3, I X4, I X5, I X6, .slice ua L.length uc] 79)
          exact ⟨rfl, k4'.trans (kA.mono k4'.size)⟩
        · go_simp
          have kP : Below w2.heap.size w2 (World.drew (w2.alloc (.cells #[I 0, I 0, I 0, I 0, I 0, I 0, .slice none 0 0] 79))) := (boxed_below w2 _).drew
          have oP : Own (World.drew (w2.alloc (.cells #[I 0, I 0, I 0, I 0, I 0, I 0, .slice none 0 0] 79))) w2.heap.size [I 0, I 0, I 0, I 0, I 0, I 0, .slice none 0 0] := Own.new rfl _ _
          refine hK.out _ _ (fun _ _ => ⟨OD2.out.below kP, fun i hi => (kP.cell (p := ⟨g, j * 8 + i, none⟩) hgl.2).trans (HCE.out i hi).1⟩) ?_
          clear hK K HSS
          (try simp only [Act.put])
          refine AnyC.one (i := 5) (by kernel_rfl) (by rfl) (fun K hK => ?_)
          go_simp
          (with_reducible refine (Ow.out _ ?_).mono ?_)
          · exact HSd.out.below kP
          rintro e w4 ⟨u, rfl, hu, k4, hFu⟩
          obtain ⟨ua, uc, rfl, -⟩ := _root_.id hu
          have hsP : (World.drew (w2.alloc (.cells #[I 0, I 0, I 0, I 0, I 0, I 0, .slice none 0 0] 79))).heap.size = w2.heap.size + 1 := by simp
          have k4' : Below (w2.heap.size + 1) (World.drew (w2.alloc (.cells #[I 0, I 0, I 0, I 0, I 0, I 0, .slice none 0 0] 79))) w4 := by rw [← hsP]; exact k4
          have oP4 := oP.below (k4'.mono (by omega))
          have kw4 := kP.trans (k4'.mono (by omega))
          have aO := oP4
          have afA := aO.f; have a0 := aO.c0; have a1 := aO.c1; have a2 := aO.c2; have a3 := aO.c3; have a4 := aO.c4; have a5 := aO.c5; have a6 := aO.c6
          clear aO
          have r1 := set_same
          have r2 := set_off
          have r3 := set_blk
          clear oP oP4
          go_wp2_with fail
          refine hK.out _ _ (fun h => absurd rfl h) ?_
          clear hK K
          (try simp only [Act.put])
          refine AnyC.pure (i := 6) (v := ?_) rfl (by decide) (by kernel_rfl) (by kernel_rfl) (by kernel_rfl) (fun _ _ _ h => h) (Or.inl ⟨by rfl, ?_⟩) (fun h => absurd h (by decide)) ?_
          rotate_left
          · (intro w; first | (go_simp; done) | (go_simp; with_reducible rfl))
          (try simp only [Act.put])
          refine AnyC.pure (i := 7) (v := ?_) rfl (by decide) (by kernel_rfl) (by kernel_rfl) (by kernel_rfl) (fun _ _ _ h => h) (Or.inl ⟨by rfl, ?_⟩) (fun h => absurd h (by decide)) ?_
          rotate_left
          · (intro w; first | (go_simp; done) | (go_simp; with_reducible rfl))
          (try simp only [Act.put])
          refine AnyC.pure (i := 8) (v := ?_) rfl (by decide) (by kernel_rfl) (by kernel_rfl) (by kernel_rfl) (fun _ _ _ h => h) (Or.inl ⟨by rfl, ?_⟩) (fun h => absurd h (by decide)) ?_
          rotate_left
          · (intro w; first | (go_simp; done) | (go_simp; with_reducible rfl))
          (try simp only [Act.put])
          refine AnyC.one (i := 10) (by kernel_rfl) (by rfl) (fun K hK => ?_)
          go_simp
          refine hK.out _ _ (fun _ h => absurd h (by decide)) ?_
          clear hK K
          (try simp only [Act.put])
          refine AnyC.one (i := 11) (by kernel_rfl) (by rfl) (fun K hK => ?_)
          go_simp
          refine hK.out _ _ (fun _ h => absurd h (by decide)) ?_
          clear hK K
          (try simp only [Act.put])
          refine AnyC.done (by kernel_rfl) ?_ _
          go_wp2_with fail
          go_meet
          exact ⟨rfl, below_autor⟩
      case rest =>
        obtain ⟨rfl, kc⟩ := hcut
        have kk3 := KK2.out.trans (kc.mono KK2.out.size)
        by_cases hE : E = 0
        · subst hE
          have HR := Lib.hid (chg_keep (ow := ow) (bp := bp) H0.out H3.out hOE.out)
          have KP := Lib.hid (shopkeep_any sg (.slice (some ⟨g, 0, none⟩) (loadC t xs).length gcap) (.slice a xs.length cap) tv (I t.f) (I t.b) (I t.d) (I t.al) xs 5 me 0 0 0 0 0 0 0 0 0 ow bp wc (HS2.out.below kc) (HC.out.below kk3) HW.out (load_120 H0.out))
          have KK3 := Lib.hid kk3
          have dO := OD2.out.below kc
          have dfA := dO.f; have d0 := dO.c0; have d1 := dO.c1
          clear dO
          clear kc kk3
          go_wp2_with fail
          refine KP.out.mono ?_
          rintro e w4 ⟨u, rfl, hu, k4⟩
          have kk4 := KK3.out.trans (k4.mono KK3.out.size)
          have HU := Lib.hid hu
          obtain ⟨ua, uc, rfl, -⟩ := id hu
          clear hu k4 KP d0 d1 dfA
          go_wp2
          go_ret2
          exact ChgP.some HR.out HU.out kk4
        · have HR0 := chg_owe (t := t) (xs := xs) (me := me) (ow := ow) (bp := bp) H0.out H3.out (by rw [hOE.out]; exact hE)
          rw [hOE.out] at HR0
          have HR := Lib.hid HR0
          have hb : (E != 0) = true := by simp [hE]
          clear kc HR0 hE
          go_wp2
          go_ret2
          exact ChgP.none HR.out kk3
    · obtain ⟨rfl, k2⟩ := hQ.2 (by omega)
      have HR := Lib.hid (chg_none (ow := ow) (bp := bp) H0.out (by omega : idxOf (loadC t xs) me < 0))
      have kk2 := KK.out.trans (k2.mono KK.out.size)
      clear hQ h3 k2 CU hb
      go_wp2
      go_ret2
      exact ChgP.none HR.out kk2
  · obtain ⟨rfl, k1⟩ := hP.2 h0
    have HR := Lib.hid (chg_load (me := me) (ow := ow) (bp := bp) h0)
    have kk := KB.out.trans (k1.mono KB.out.size)
    have hb : (loadE t xs != 0) = true := by simp [h0]
    clear hP h0 P k1
    generalize loadE t xs = E at *
    go_wp2
    go_ret2
    exact ChgP.none HR.out kk
set_option maxHeartbeats 8000000 in
theorem VendCharge_any (t : PTerms) (tv cv : Value) (xs : List Int) (me ow bp : Int) (w : World) (ht : Sl w tv 2 t.ts.length (t.ts.flatMap AStep.cells)) (hc : Sl w cv 1 xs.length (xs.map U32)) (hw : ∀ x ∈ xs, W32 x) :
    Calls Try.prog 26 #[.agg #[tv, I t.f, I t.b, I t.d, I t.al], cv, I me, .agg #[I ow, I bp]] w (ChgP t xs me ow bp w) := by
  have oT := (Own.new (w := w) (g := w.heap.size) (by rfl) [tv, I t.f, I t.b, I t.d, I t.al] 24).alloc (.cells #[I ow, I bp] 60)
  have oD := Own.new (w := (w.alloc (.cells #[tv, I t.f, I t.b, I t.d, I t.al] 24))) (g := w.heap.size + 1) (by simp) [I ow, I bp] 60
  have bx0 := boxed_below w (.cells #[tv, I t.f, I t.b, I t.d, I t.al] 24)
  have kB := bx0.alloc bx0.size (.cells #[I ow, I bp] 60)
  clear bx0
  have P := Lib.hid (Loaded_any t tv cv xs _ (ht.below kB) (hc.below kB) hw)
  have KB := Lib.hid kB
  have HC := Lib.hid hc
  have HW := Lib.hid hw
  have OD := Lib.hid oD
  have tO := oT
  have tfA := tO.f; have t0 := tO.c0; have t1 := tO.c1; have t2 := tO.c2; have t3 := tO.c3; have t4 := tO.c4
  clear tO
  obtain ⟨a, cap, rfl, -⟩ := id hc
  clear hw ht kB oT hc oD
  go_enter Try.func26, Try.ntmps26
  go_wp2_with fail
  refine P.out.mono ?_
  rintro e w1 ⟨bv, ys, rfl, hb, k1⟩
  have kA := boxed_below w1 (.cells #[bv] 29)
  have oA := Own.new (w := w1) rfl [bv] 29
  have kk := (KB.out.trans (k1.mono KB.out.size)).trans (kA.mono (Nat.le_trans KB.out.size k1.size))
  have OD1 := Lib.hid ((OD.out.below k1).below kA)
  have HB := Lib.hid (hb.below kA)
  have KK := Lib.hid kk
  have OA := Lib.hid oA
  obtain ⟨ba, bc, rfl⟩ := book_slice hb
  clear t0 t1 t2 t3 t4 tfA P hb k1 kA oA kk
  by_cases h0 : loadE t xs = 0
  · have H0 := Lib.hid h0
    rw [h0]
    have hbd := (loadC_bd t xs).1
    have FD := Lib.hid (Found_any _ ys me _ (HB.out.sl (by omega)))
    rw [book_found HB.out] at FD
    clear h0 hbd
    have bO := OA.out
    have bfA := bO.f; have b0 := bO.c0
    clear bO
    go_wp2_with fail
    refine FD.out.mono ?_
    rintro e w3 ⟨rfl, k3⟩
    have kk3 := KK.out.trans (k3.mono KK.out.size)
    have OA3 := Lib.hid (OA.out.below k3)
    have OD3 := Lib.hid (OD1.out.below k3)
    clear b0 bfA FD
    by_cases h3 : 0 ≤ idxOf (loadC t xs) me
    · obtain ⟨j, hj⟩ := Int.eq_ofNat_of_zero_le h3
      have hjl : j < (loadC t xs).length := by rcases idxOf_bd (loadC t xs) me with h | h <;> omega
      have H3 := Lib.hid h3
      have hOE := Lib.hid (show owesC t xs me ow bp = oweE ((loadC t xs).getD j default).acc ((loadC t xs).getD j default).debts ⟨ow, bp⟩ by unfold owesC; rw [hj]; rfl)
      rw [hj]
      have hb2 := HB.out.below k3
      obtain ⟨g, gcap, hv, hg1, hg2⟩ := owns_pos hb2.2.1 (by omega)
      simp only [Value.slice.injEq] at hv
      obtain ⟨rfl, -, rfl⟩ := hv
      have hcell := book_cells hb2 hjl
      have hCR := hb2.2.2.1 j hjl
      have KK3 := Lib.hid kk3
      generalize ys.getD j default = x at *
      generalize (loadC t xs).getD j default = c at *
      obtain ⟨hxe, hSd, hSo⟩ := hCR
      obtain ⟨m1, m2, m3, m4, m5, m6, da, dn, dc, sa, sn, sc⟩ := x
      simp only [ofCust, ACust.mk.injEq, true_and, and_true] at hxe
      obtain ⟨rfl, rfl, rfl, rfl, rfl, rfl, rfl, rfl⟩ := hxe
      obtain ⟨⟨m1, m2, m3, m4, m5, m6⟩, ds, ss⟩ := c
      simp only at hSd hOE hcell
      have Ow := Lib.hid (fun W hW => Owes_f ⟨m1, m2, m3, m4, m5, m6⟩ (.slice da ds.length dc) ds ⟨ow, bp⟩ W hW)
      simp only at Ow
      generalize oweE ⟨m1, m2, m3, m4, m5, m6⟩ ds ⟨ow, bp⟩ = E at *
      generalize oweX ⟨m1, m2, m3, m4, m5, m6⟩ ds ⟨ow, bp⟩ = X at *
      generalize oweL ⟨m1, m2, m3, m4, m5, m6⟩ ds ⟨ow, bp⟩ = L at *
      obtain ⟨X1, X2, X3, X4, X5, X6⟩ := X
      have HSd := Lib.hid hSd
      have y0 := (hcell 0 (by decide)).1
      have y1 := (hcell 1 (by decide)).1
      have y2 := (hcell 2 (by decide)).1
      have y3 := (hcell 3 (by decide)).1
      have y4 := (hcell 4 (by decide)).1
      have y5 := (hcell 5 (by decide)).1
      have y6 := (hcell 6 (by decide)).1
      simp only [ACust.cells, List.getD_cons_zero, List.getD_cons_succ, Nat.add_zero] at y0 y1 y2 y3 y4 y5 y6
      have hj0 : (0 : Int) ≤ (j : Int) := by omega
      have hj1 : (j : Int) < ((loadC t xs).length : Int) := by omega
      have hjn : ¬ (j : Int) < 0 := by omega
      have bO := OA3.out
      have bfA := bO.f; have b0 := bO.c0
      clear bO
      have dO := OD3.out
      have dfA := dO.f; have d0 := dO.c0; have d1 := dO.c1
      clear dO
      clear h3 k3 hb2 kk3 hcell hSd hSo hj HB
      go_upto_region 7 with fail
      go_cut [11] (fun s11 wx => s11 = I E ∧ Below w3.heap.size w3 wx)
      case first =>
        go_region_with
          ((with_reducible refine (Ow.out _ ?_).mono ?_)
           · exact HSd.out
           rintro e w4 ⟨u, rfl, hu, k4, hFu⟩
           have k4' : Below w3.heap.size w3 w4 := ⟨k4.os, k4.tape, k4.output, k4.size, k4.block⟩
           obtain ⟨ua, uc, rfl, -⟩ := _root_.id hu
           clear hu k4 hFu)
        all_goals
          go_wp2_with fail
          go_meet
          exact ⟨rfl, k4'⟩
      case rest =>
        obtain ⟨rfl, kc⟩ := hcut
        have kk3 := KK3.out.trans (kc.mono KK3.out.size)
        clear y0 y1 y2 y3 y4 y5 y6 b0 bfA d0 d1 dfA
        by_cases hE : E = 0
        · subst hE
          have HR := Lib.hid (chg_keep (ow := ow) (bp := bp) H0.out H3.out hOE.out)
          have KP := Lib.hid (keeps_any (.slice a xs.length cap) xs 5 me 0 0 0 0 0 0 0 0 0 ow bp wc (HC.out.below kk3) HW.out)
          have KK3 := Lib.hid kk3
          have dO := OD3.out.below kc
          have dfA := dO.f; have d0 := dO.c0; have d1 := dO.c1
          clear dO
          clear kc kk3
          go_wp2_with fail
          refine KP.out.mono ?_
          rintro e w4 ⟨u, rfl, hu, k4⟩
          have kk4 := KK3.out.trans (k4.mono KK3.out.size)
          have HU := Lib.hid hu
          obtain ⟨ua, uc, rfl, -⟩ := id hu
          clear hu k4 KP d0 d1 dfA
          go_wp2
          go_ret2
          exact ChgP.some HR.out HU.out kk4
        · have HR0 := chg_owe (t := t) (xs := xs) (me := me) (ow := ow) (bp := bp) H0.out H3.out (by rw [hOE.out]; exact hE)
          rw [hOE.out] at HR0
          have HR := Lib.hid HR0
          have hb : (E != 0) = true := by simp [hE]
          clear kc HR0 hE
          go_wp2
          go_ret2
          exact ChgP.none HR.out kk3
    · have HR := Lib.hid (chg_none (ow := ow) (bp := bp) H0.out (by omega : idxOf (loadC t xs) me < 0))
      have h3' : idxOf (loadC t xs) me < 0 := by omega
      clear k3 h3 HB
      generalize idxOf (loadC t xs) me = at_ at *
      go_wp2
      go_ret2
      exact ChgP.none HR.out kk3
  · have HR := Lib.hid (chg_load (me := me) (ow := ow) (bp := bp) h0)
    have hb : (loadE t xs != 0) = true := by simp [h0]
    have kk := KK.out
    clear h0 HB
    generalize loadE t xs = E at *
    go_wp2
    go_ret2
    exact ChgP.none HR.out kk
end Go.Proofs.Ytenoigmkhlnfoaa
