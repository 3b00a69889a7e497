/- keypad.Keys -/
import Derived.Test.YtmciccnmpoijdaaDoorKeysLaw
import Derived.Test.YtmciccnmpoijdaaDoorOwn
namespace Go.Proofs.YtmciccnmpoijdaaDoor
open Go.RowKit
set_option maxRecDepth 20000

theorem owns_below2 {w w' : World} {base e sz n : Nat} {v : Value} {cs : List Value} (h : w.ownsRow base e sz v n cs) (hb : Below w.heap.size w w') : w'.ownsRow base e sz v n cs := by
  obtain ⟨hl, h⟩ := h
  rcases h with h | ⟨g, cap, cur, hv, hg0, hg, hc⟩
  · exact ⟨hl, .inl h⟩
  · exact ⟨hl, .inr ⟨g, cap, cur, hv, hg0, (hb.block g (Array.getElem?_eq_some_iff.1 hg).1).trans hg, hc⟩⟩
theorem owns_iterTo {w : World} {base e sz n gi : Nat} {v : Value} {cs : List Value} (h : w.ownsRow base e sz v n cs) (hg : gi < base) (s : ByteArray) (p : Nat) : (iterTo w gi s p).ownsRow base e sz v n cs := by
  obtain ⟨hl, h⟩ := h
  rcases h with h | ⟨g, cap, cur, hv, hg0, hg1, hc⟩
  · exact ⟨hl, .inl h⟩
  · refine ⟨hl, .inr ⟨g, cap, cur, hv, hg0, ?_, hc⟩⟩
    rw [← hg1]; simp [iterTo, Array.getElem?_setIfInBounds, show ¬ gi = g by omega]
theorem row_far {w : World} {base e sz n g : Nat} {v : Value} {cs : List Value} (h : w.ownsRow base e sz v n cs) (hg : g < base ∨ w.heap.size ≤ g) : some g ≠ v.ownBlock := by
  intro he
  have := h.lt g he.symm
  omega
theorem size_alloc1 (w : World) (c : Obj) : w.heap.size + 1 = (w.alloc c).heap.size := by show _ = (w.heap.push c).size; simp
theorem news_at {n : Nat} (w : World) (h : n = w.heap.size) (cs : List Value) (e : TypeId) : ∀ (j : Nat) (u : Value), cs[j]? = some u → (w.alloc (.cells cs.toArray e)).cell? ((⟨n, 0, none⟩ : Addr).add j) = some u := by
  subst h; exact news_lit w cs e
abbrev entT : Nat := 50
/-- the loop of Keys behind some keys -/
def KRel (s : ByteArray) (R : ByteArray × Bool × List AEntry) (B : Nat) (W : World) (v : Value) (wr : World) : Prop :=
  ∃ (f p : Nat) (D : ByteArray) (b : Bool) (L : List AEntry), keysF s f p D b L = R ∧ s.size ≤ p + f ∧ mayP D = true ∧ L.length ≤ p ∧ L.length ≤ s.size ∧ wr.ownsRow (B + 3) entT 2 v L.length (L.flatMap AEntry.cells) ∧
    wr.heap[B + 2]? = some (.stringIter s p) ∧ Own wr (B + 1) [.string D, .bool b] ∧ Own wr B [.string ⟨#[]⟩, .bool false] ∧ Below B W wr
theorem KRel.start {s : ByteArray} {W : World} : KRel s (keysF s s.size 0 ⟨#[]⟩ false []) W.heap.size W (.slice none 0 0) (((W.alloc (.cells #[.string ⟨#[]⟩, .bool false] 24)).alloc (.cells #[.string ⟨#[]⟩, .bool false] 24)).iter s 0) := by
  refine ⟨s.size, 0, ⟨#[]⟩, false, [], rfl, by omega, mayP_nil, by simp, by simp, World.ownsRow_nil _ _ _ _, ?_, ?_, ?_, ?_⟩
  · have := World.iter_heap ((W.alloc (.cells #[.string ⟨#[]⟩, .bool false] 24)).alloc (.cells #[.string ⟨#[]⟩, .bool false] 24)) s 0
    rwa [World.size_alloc, World.size_alloc] at this
  · exact (Own.new (w := W.alloc (.cells #[.string ⟨#[]⟩, .bool false] 24)) (g := W.heap.size + 1) (by simp) [.string ⟨#[]⟩, .bool false] 24).below (iter_below _ _ _)
  · exact ((Own.new (w := W) rfl [.string ⟨#[]⟩, .bool false] 24).alloc _).below (iter_below _ _ _)
  · exact ((boxed_below W _).alloc (boxed_below W _).size _).trans ((iter_below _ _ _).mono (by simp; omega))
theorem KRel.next {s : ByteArray} {R : ByteArray × Bool × List AEntry} {B f p : Nat} {W w3 : World} {v x0 x1 : Value} {D : ByteArray} {b : Bool} {L : List AEntry} (hF : keysF s f p D b L = R) (hfu : s.size ≤ p + f) (hm : mayP D = true) (hL : L.length ≤ p) (hLs : L.length ≤ s.size)
    (hown : w3.ownsRow (B + 3) entT 2 v L.length (L.flatMap AEntry.cells)) (hit : w3.heap[B + 2]? = some (.stringIter s p)) (oP : Own w3 (B + 1) [x0, x1]) (oR : Own w3 B [.string ⟨#[]⟩, .bool false]) (kk : Below B W w3) :
    Hid (KRel s R B W v ((w3.setCell ⟨B + 1, 0, none⟩ (.string D)).setCell ⟨B + 1, 1, none⟩ (.bool b))) :=
  ⟨f, p, D, b, L, hF, hfu, hm, hL, hLs, ownsRow_setCell_below (ownsRow_setCell_below hown (by show B + 1 < B + 3; omega) _) (by show B + 1 < B + 3; omega) _,
    row_setK (row_setK hit (by omega) _) (by omega) _, ((oP.set 0 _).set 1 _), ((oR.other (a := ⟨B + 1, 0, none⟩) (by show B + 1 ≠ B; omega) _).other (a := ⟨B + 1, 1, none⟩) (by show B + 1 ≠ B; omega) _),
    (kk.setCell (p := ⟨B + 1, 0, none⟩) (by show B ≤ B + 1; omega) _).setCell (p := ⟨B + 1, 1, none⟩) (by show B ≤ B + 1; omega) _⟩
set_option maxHeartbeats 2000000 in
theorem Keys_any (s : ByteArray) (w : World) : Calls Tryd.prog 9 #[.string s] w (KeysP (keysR s) (keysE s) w) := by
  by_cases hs : 2000 < s.size
  · have e1 : keysR s = (⟨#[]⟩, false, []) := by unfold keysR; rw [if_pos hs]
    have e2 : keysE s = 1 := by unfold keysE; rw [if_pos hs]
    rw [e1, e2]
    have h1 : (2000 : Int) < (s.size : Int) := by omega
    clear hs e1 e2
    have qO := Own.new (w := w) rfl [.string ⟨#[]⟩, .bool false] 24
    have q0 := qO.cell 0 (by simp)
    have qf0 := qO.frozen 0
    have q1 := qO.cell 1 (by simp)
    have qf1 := qO.frozen 1
    simp only [Nat.zero_add, List.getD_cons_zero, List.getD_cons_succ] at q0 q1
    clear qO
    have r1 := set_same
    have r2 := set_off
    go_enter Tryd.func9, Tryd.ntmps9
    go_wp2
    exact bodyPost_ret (v := T3 (.slice none 0 0) (padV ⟨#[]⟩ false) (I 1)) (by simp [results, Tryd.results9, go_sem, *]; try omega) rfl (⟨_, rfl, Sl.nil _ _, (by repeat first | with_reducible assumption | with_reducible exact Below.refl _ _ | with_reducible refine Below.setCell ?_ (by first | exact Nat.le_refl _ | exact Below.size (by assumption) | (simp; done) | (simp; omega) | omega) _ | with_reducible refine Below.alloc ?_ (by first | exact Nat.le_refl _ | exact Below.size (by assumption) | (simp; done) | (simp; omega) | omega) _ | with_reducible refine drewN_below ?_ _ | with_reducible refine Below.drew ?_)⟩)
  · have e1 : keysR s = keysF s s.size 0 ⟨#[]⟩ false [] := by unfold keysR; rw [if_neg hs]
    have e2 : keysE s = 0 := by unfold keysE; rw [if_neg hs]
    rw [e1, e2]
    have h1 : ¬ (2000 : Int) < (s.size : Int) := by omega
    obtain ⟨i0, hi, hz0, hz1, hz2⟩ := info_parts infoEntry
    have ST := Lib.hid (KRel.start (s := s) (W := w))
    clear e1 e2
    generalize keysF s s.size 0 ⟨#[]⟩ false [] = R at *
    go_enter Tryd.func9, Tryd.ntmps9
    go_wp2
    go_loopw [6, 8, 9, 10] (fun v _ _ _ wr => ∃ v0, v0 = v ∧ Hid (KRel s R w.heap.size w v0 wr)) (fun _ _ _ _ wr => s.size - wr.iterPos (w.heap.size + 2))
    case atStart => exact ⟨_, rfl, ST.out⟩
    case round =>
      obtain ⟨v6, rfl, hR⟩ := hrel
      obtain ⟨f, p, D, b, L, hF, hfu, hm, hLp, hLs, hown, hit, oP, oR, kk⟩ := hR.out
      clear hR ST
      have hip := iter_pos hit
      by_cases hlt : p < s.size
      · have hnx := next_at (P := Tryd.prog) hit hlt
        obtain ⟨g, hF', hfu'⟩ := keysF_step hF hfu hlt
        have hw := width_pos s p
        generalize Utf8.decode s p = rn at *
        obtain ⟨r, n⟩ := rn
        simp only at hnx hF' hfu' hw
        have PR := Lib.hid (fun W => press_any D b r W hm)
        have hm' := mayP_press (b := b) (r := (r : Int)) hm
        generalize pressR D b r = x at *
        obtain ⟨D', b', ent⟩ := x
        simp only at hF' hm'
        have oP1 := oP.iterTo (s := s) (p := p + n) (show w.heap.size + 2 ≠ w.heap.size + 1 by omega)
        have oR1 := oR.iterTo (s := s) (p := p + n) (show w.heap.size + 2 ≠ w.heap.size by omega)
        have kk1 := iterTo_below kk (show w.heap.size ≤ w.heap.size + 2 by omega) s (p + n)
        have hit1 := iterTo_at (q := p + n) hit
        have hown1 := owns_iterTo hown (show w.heap.size + 2 < w.heap.size + 3 by omega) s (p + n)
        have hil := (Array.getElem?_eq_some_iff.1 hit1).1
        clear hF hfu hown oP oR kk hm
        generalize iterTo wr (w.heap.size + 2) s (p + n) = wi at *
        have aO := oP1
        have a0 := aO.cell 0 (by simp)
        have af0 := aO.frozen 0
        have a1 := aO.cell 1 (by simp)
        have af1 := aO.frozen 1
        simp only [Nat.zero_add, List.getD_cons_zero, List.getD_cons_succ] at a0 a1
        clear aO
        cases ent with
        | none =>
          simp only [entL, List.append_nil] at hF'
          go_wp2_with fail
          refine (PR.out _).mono ?_
          rintro e w2 ⟨rfl, k2⟩
          have hil2 := k2.size
          have oP2 := (oP1.below k2).alloc (.cells #[.string D', .bool b'] 24)
          have oR2 := (oR1.below k2).alloc (.cells #[.string D', .bool b'] 24)
          have kk2 := (kk1.trans (k2.mono kk1.size)).alloc (by omega) (.cells #[.string D', .bool b'] 24)
          have hit2 := (k2.block _ hil).trans hit1
          have hit3 := ((boxed_below w2 (.cells #[.string D', .bool b'] 24)).block _ (by omega)).trans hit2
          have hown2 := (owns_below2 hown1 k2).alloc (.cells #[.string D', .bool b'] 24)
          have NX := KRel.next hF' hfu' hm' (by omega) hLs hown2 hit3 oP2 oR2 kk2
          have cO := oP2
          have c0 := cO.cell 0 (by simp)
          have cf0 := cO.frozen 0
          have c1 := cO.cell 1 (by simp)
          have cf1 := cO.frozen 1
          simp only [Nat.zero_add, List.getD_cons_zero, List.getD_cons_succ] at c0 c1
          clear cO
          have dO := Own.new (w := w2) rfl [.string D', .bool b'] 24
          have d0 := dO.cell 0 (by simp)
          have df0 := dO.frozen 0
          have d1 := dO.cell 1 (by simp)
          have df1 := dO.frozen 1
          simp only [Nat.zero_add, List.getD_cons_zero, List.getD_cons_succ] at d0 d1
          clear dO
          have r1 := set_same
          have r2 := set_off
          have r3 := set_blk
          have n1 : ¬ w2.heap.size = w.heap.size + 1 := by omega
          clear a0 a1 af0 af1
          go_wp2
          exact ⟨⟨_, rfl, NX⟩, by rw [iter_pos (row_setK (row_setK hit3 (by omega) _) (by omega) _), hip]; omega⟩
        | some tc =>
          obtain ⟨t, c⟩ := tc
          simp only [entL] at hF'
          go_wp2_with fail
          refine (PR.out _).mono ?_
          rintro e w2 ⟨ge, rfl, hge, oE, k2⟩
          have hil2 := k2.size
          have hil3 := oE.lt
          have oP2 := (oP1.below k2).alloc (.cells #[.string D', .bool b'] 24)
          have oR2 := (oR1.below k2).alloc (.cells #[.string D', .bool b'] 24)
          have kk2 := (kk1.trans (k2.mono kk1.size)).alloc (by omega) (.cells #[.string D', .bool b'] 24)
          have hit2 := (k2.block _ hil).trans hit1
          have hit3 := ((boxed_below w2 (.cells #[.string D', .bool b'] 24)).block _ (by omega)).trans hit2
          have hown2 := owns_below2 hown1 k2
          have hne := fun (g : Nat) (hg : g < w.heap.size + 3 ∨ w2.heap.size ≤ g) => row_far hown2 hg
          have HROW := Lib.hid (fun j hj => (hown2.lt j hj).1)
          have HNE := Lib.hid hne
          have hown3 := hown2.alloc (.cells #[.string D', .bool b'] 24)
          have oQ := Own.new (w := w2) rfl [.string D', .bool b'] 24
          have n1 : ¬ w2.heap.size = w.heap.size + 1 := by omega
          have n2 : ¬ w.heap.size + 1 = w2.heap.size := by omega
          have bO := oE.alloc (.cells #[.string D', .bool b'] 24)
          have b0 := bO.cell 0 (by simp)
          have bf0 := bO.frozen 0
          have b1 := bO.cell 1 (by simp)
          have bf1 := bO.frozen 1
          simp only [Nat.zero_add, List.getD_cons_zero, List.getD_cons_succ] at b0 b1
          clear bO
          clear hne hown1 hown2 k2 oP1 oR1 kk1 hit1 hit2 hnx PR oE a0 a1 af0 af1
          go_wp2_with (first
            | ((at_builtin; refine wpList_append_own _ rfl _ _ 22 rfl (w.heap.size + 3) 50 i0 (.agg #[.string ByteArray.empty, .int .i64 0]) 2 24 Tryd.underlying22 hi hz0 hz1 hz2 rfl (by decide) _ _ _ rfl (hown3.alloc _) ⟨(w2.heap.size + 1), 0, none⟩ 1 1 [.string t, I c] rfl rfl (news_at _ (size_alloc1 _ _) [.string t, I c] _) (oneCells_lit rfl) (by unfold maxLen; omega) (by omega) (by simp; omega) ?_; intro v' w1 hown' hgrow _)
               have hne := HNE.out
               have oP4 := (oP2.alloc (.cells #[.string t, I c] 50)).grown hgrow (hne _ (by omega))
               have oR4 := (oR2.alloc (.cells #[.string t, I c] 50)).grown hgrow (hne _ (by omega))
               have oQ4 := (oQ.alloc (.cells #[.string t, I c] 50)).grown hgrow (hne _ (by omega))
               have kb := Below.grown (B := w.heap.size) (Below.refl _ _) hgrow (by simp; omega) (fun j hj => Nat.le_trans (by omega) (HROW.out j hj))
               have kk4 := (kk2.alloc kk2.size (.cells #[.string t, I c] 50)).trans kb
               have hit4 := (hgrow.block _ (by simp; omega) (hne _ (by omega))).trans (((boxed_below _ (.cells #[.string t, I c] 50)).block _ (by simp; omega)).trans hit3)
               have hown4 : w1.ownsRow (w.heap.size + 3) entT 2 v' (L ++ [(⟨t, c⟩ : AEntry)]).length ((L ++ [(⟨t, c⟩ : AEntry)]).flatMap AEntry.cells) := by
                 rw [cells_ent, List.length_append]; exact hown'
               have NX := KRel.next hF' hfu' hm' (by simp; omega) (by simp; omega) hown4 hit4 oP4 oR4 kk4
               have HI := Lib.hid hit4
               have cO := oP4
               have c0 := cO.cell 0 (by simp)
               have cf0 := cO.frozen 0
               have c1 := cO.cell 1 (by simp)
               have cf1 := cO.frozen 1
               simp only [Nat.zero_add, List.getD_cons_zero, List.getD_cons_succ] at c0 c1
               clear cO
               have dO := oQ4
               have d0 := dO.cell 0 (by simp)
               have df0 := dO.frozen 0
               have d1 := dO.cell 1 (by simp)
               have df1 := dO.frozen 1
               simp only [Nat.zero_add, List.getD_cons_zero, List.getD_cons_succ] at d0 d1
               clear dO
               have r1 := set_same
               have r2 := set_off
               have r3 := set_blk
               clear hown' hgrow hown3 oP2 oR2 oQ kb kk2 kk4 hit3 hit4 hown4 oR4 HNE b0 b1 bf0 bf1 hne HROW hit))
          exact ⟨⟨_, rfl, NX⟩, by rw [iter_pos (row_setK (row_setK HI.out (by omega) _) (by omega) _), hip]; omega⟩
      · have hnx : ∀ ty, (Instr.next (.pointer (some ⟨w.heap.size + 2, 0, none⟩)) true ty).run Tryd.prog wr = _ := fun ty => next_end_at hit hlt ty
        obtain rfl := keysF_end hF hlt
        have hS := Lib.hid hown
        have n3 : w.heap.size < w.heap.size + 3 := by omega
        have hL48 : L.length ≤ 281474976710656 := by omega
        have hz := oP.lt
        have pO := oP
        have p0 := pO.cell 0 (by simp)
        have pf0 := pO.frozen 0
        have p1 := pO.cell 1 (by simp)
        have pf1 := pO.frozen 1
        simp only [Nat.zero_add, List.getD_cons_zero, List.getD_cons_succ] at p0 p1
        clear pO
        have qO := oR
        have q0 := qO.cell 0 (by simp)
        have qf0 := qO.frozen 0
        have q1 := qO.cell 1 (by simp)
        have qf1 := qO.frozen 1
        simp only [Nat.zero_add, List.getD_cons_zero, List.getD_cons_succ] at q0 q1
        clear qO
        have r1 := set_same
        have r2 := set_off
        have r3 := set_blk
        clear hF hfu hm hown hit hip hlt
        go_wp2
        go_region_held3 (fun w' => w'.cell? ⟨w.heap.size + 1, 0, none⟩ = some (.string D) ∧ w'.cell? ⟨w.heap.size + 1, 1, none⟩ = some (.bool b)) (first | go_keep | (go_split_ands; refine ⟨?_, ?_⟩ <;> assumption)) (fail)
        all_goals
          go_wp2
          exact bodyPost_ret (v := T3 v6 (padV D b) (I 0)) (by simp [results, Tryd.results9, go_sem, *]; try omega) rfl (⟨_, rfl, Sl.of_owns (ownsRow_setCell_below (a := ⟨w.heap.size, 1, none⟩) (ownsRow_setCell_below (a := ⟨w.heap.size, 0, none⟩) hS.out n3 _) n3 _) hL48, (by repeat first | with_reducible assumption | with_reducible exact Below.refl _ _ | with_reducible refine Below.setCell ?_ (by first | exact Nat.le_refl _ | exact Below.size (by assumption) | (simp; done) | (simp; omega) | omega) _ | with_reducible refine Below.alloc ?_ (by first | exact Nat.le_refl _ | exact Below.size (by assumption) | (simp; done) | (simp; omega) | omega) _ | with_reducible refine drewN_below ?_ _ | with_reducible refine Below.drew ?_)⟩)
end Go.Proofs.YtmciccnmpoijdaaDoor
