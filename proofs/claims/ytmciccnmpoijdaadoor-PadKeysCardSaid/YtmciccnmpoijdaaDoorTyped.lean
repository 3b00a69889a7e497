/- ref.Typed -/
import Derived.Test.YtmciccnmpoijdaaDoorKeysP
import Derived.Test.YtmciccnmpoijdaaDoorPressed
import Derived.Test.YtmciccnmpoijdaaDoorShelf
import Derived.Laws.AppendOwnNone
namespace Go.Proofs.YtmciccnmpoijdaaDoor
open Go.RowKit
set_option maxRecDepth 20000

/-- the loop of Typed behind some keys -/
def TyRel (s : ByteArray) (R : ByteArray × Bool × List AEntry) (B : Nat) (W : World) (v iv : Value) (wr : World) : Prop :=
  ∃ (f p : Nat) (D : ByteArray) (b : Bool) (L : List AEntry), keysF s f p D b L = R ∧ s.size ≤ p + f ∧ mayP D = true ∧ L.length ≤ p ∧ L.length ≤ s.size ∧ wr.ownsRow (B + 2) entT 2 v L.length (L.flatMap AEntry.cells) ∧
    iv = I p ∧ Own wr (B + 1) [.string D, .bool b] ∧ Own wr B [.string ⟨#[]⟩, .bool false] ∧ Below B W wr
theorem TyRel.start {s : ByteArray} {W : World} : TyRel s (keysF s s.size 0 ⟨#[]⟩ false []) W.heap.size W (.slice none 0 0) (I 0) ((W.alloc (.cells #[.string ⟨#[]⟩, .bool false] 24)).alloc (.cells #[.string ⟨#[]⟩, .bool false] 24)) :=
  ⟨s.size, 0, ⟨#[]⟩, false, [], rfl, by omega, mayP_nil, by simp, by simp, World.ownsRow_nil _ _ _ _, rfl,
    Own.new (w := W.alloc (.cells #[.string ⟨#[]⟩, .bool false] 24)) (g := W.heap.size + 1) (by simp) [.string ⟨#[]⟩, .bool false] 24, (Own.new (w := W) rfl [.string ⟨#[]⟩, .bool false] 24).alloc _, (boxed_below W _).alloc (boxed_below W _).size _⟩
theorem TyRel.next {s : ByteArray} {R : ByteArray × Bool × List AEntry} {B f p q : Nat} {W w3 : World} {v x0 x1 : Value} {D : ByteArray} {b : Bool} {L : List AEntry} (hF : keysF s f q D b L = R) (hfu : s.size ≤ q + f) (hm : mayP D = true) (hL : L.length ≤ q) (hLs : L.length ≤ s.size)
    (hown : w3.ownsRow (B + 2) entT 2 v L.length (L.flatMap AEntry.cells)) (oP : Own w3 (B + 1) [x0, x1]) (oR : Own w3 B [.string ⟨#[]⟩, .bool false]) (kk : Below B W w3) (n : Nat) (hq : q = p + n) :
    Hid (TyRel s R B W v (.int .i64 ((p : Int) + n)) ((w3.setCell ⟨B + 1, 0, none⟩ (.string D)).setCell ⟨B + 1, 1, none⟩ (.bool b))) :=
  ⟨f, q, D, b, L, hF, hfu, hm, hL, hLs, ownsRow_setCell_below (ownsRow_setCell_below hown (by show B + 1 < B + 2; omega) _) (by show B + 1 < B + 2; omega) _,
    by subst hq; simp, ((oP.set 0 _).set 1 _), ((oR.other (a := ⟨B + 1, 0, none⟩) (by show B + 1 ≠ B; omega) _).other (a := ⟨B + 1, 1, none⟩) (by show B + 1 ≠ B; omega) _),
    (kk.setCell (p := ⟨B + 1, 0, none⟩) (by show B ≤ B + 1; omega) _).setCell (p := ⟨B + 1, 1, none⟩) (by show B ≤ B + 1; omega) _⟩
set_option maxHeartbeats 2000000 in
theorem Typed_any (s : ByteArray) (w : World) (hT : Lib.Utf8Tabs (0) (1) w) : Calls Tryd.prog 10 #[.string s] w (KeysP (keysR s) (keysE s) w) := by
  by_cases hs : 2000 < s.size
  · have e1 : keysR s = (⟨#[]⟩, false, []) := by unfold keysR; rw [if_pos hs]
    have e2 : keysE s = 1 := by unfold keysE; rw [if_pos hs]
    rw [e1, e2]
    have h1 : (2000 : Int) < (s.size : Int) := by omega
    clear hs e1 e2 hT
    have qO := Own.new (w := w) rfl [.string ⟨#[]⟩, .bool false] 24
    have q0 := qO.cell 0 (by simp)
    have qf0 := qO.frozen 0
    have q1 := qO.cell 1 (by simp)
    have qf1 := qO.frozen 1
    simp only [Nat.zero_add, List.getD_cons_zero, List.getD_cons_succ] at q0 q1
    clear qO
    have r1 := set_same
    have r2 := set_off
    go_enter Tryd.func10, Tryd.ntmps10
    go_wp2
    exact bodyPost_ret (v := T3 (.slice none 0 0) (padV ⟨#[]⟩ false) (I 1)) (by simp [results, Tryd.results10, go_sem, *]; try omega) rfl (⟨_, rfl, Sl.nil _ _, (by repeat first | with_reducible assumption | with_reducible exact Below.refl _ _ | with_reducible refine Below.setCell ?_ (by first | exact Nat.le_refl _ | exact Below.size (by assumption) | (simp; done) | (simp; omega) | omega) _ | with_reducible refine Below.alloc ?_ (by first | exact Nat.le_refl _ | exact Below.size (by assumption) | (simp; done) | (simp; omega) | omega) _ | with_reducible refine drewN_below ?_ _ | with_reducible refine Below.drew ?_)⟩)
  · have e1 : keysR s = keysF s s.size 0 ⟨#[]⟩ false [] := by unfold keysR; rw [if_neg hs]
    have e2 : keysE s = 0 := by unfold keysE; rw [if_neg hs]
    rw [e1, e2]
    have h1 : ¬ (2000 : Int) < (s.size : Int) := by omega
    obtain ⟨i0, hi, hz0, hz1, hz2⟩ := info_parts infoEntry
    have ST := Lib.hid (TyRel.start (s := s) (W := w))
    have DC := Lib.hid (fun (t : ByteArray) (W : World) (h : Below w.heap.size w W) => Tryd.utf8_DecodeRuneInString t W (Utf8Tabs_below hT h))
    clear e1 e2 hT
    generalize keysF s s.size 0 ⟨#[]⟩ false [] = R at *
    go_enter Tryd.func10, Tryd.ntmps10
    go_wp2
    go_loopw [5, 7, 8, 9, 10, 11, 12] (fun v i _ _ _ _ _ wr => ∃ v0 i0, v0 = v ∧ i0 = i ∧ Hid (TyRel s R w.heap.size w v0 i0 wr)) (fun _ i _ _ _ _ _ _ => s.size - (intOf i).toNat)
    case atStart => exact ⟨_, _, rfl, rfl, ST.out⟩
    case round =>
      obtain ⟨v6, i6, rfl, rfl, hR⟩ := hrel
      obtain ⟨f, p, D, b, L, hF, hfu, hm, hLp, hLs, hown, rfl, oP, oR, kk⟩ := hR.out
      clear hR ST
      by_cases hlt : p < s.size
      · obtain ⟨g, hF', hfu'⟩ := keysF_step hF hfu hlt
        have hw := width_pos s p
        have hw4 := width_le s p
        have DK := Lib.hid (DC.out (s.extract p s.size) wr kk)
        rw [decode_cut hlt] at DK
        have hi0 : (0 : Int) ≤ (p : Int) := by omega
        have hi1 : (p : Int) < (s.size : Int) := by omega
        have hi2 : (p : Int) ≤ (s.size : Int) := by omega
        generalize Utf8.decode s p = rn at *
        obtain ⟨r, n⟩ := rn
        simp only at hF' hfu' hw hw4 DK
        have hwr : IntKind.i64.wrap ((p : Int) + (n : Int)) = (p : Int) + (n : Int) := IntWalk.i64_in _ (by omega)
        have PR := Lib.hid (fun W => Pressed_any D b (r : Int) W)
        have hm' := mayP_press (b := b) (r := (r : Int)) hm
        have ex : keyX D b (r : Int) = pressR D b (r : Int) := by unfold keyX; rw [hm]; rfl
        have ee : keyE D = 0 := by unfold keyE; rw [hm]; rfl
        rw [ex, ee] at PR
        clear ex ee
        generalize pressR D b r = x at *
        obtain ⟨D', b', ent⟩ := x
        unfold KeyP EntP at PR
        simp only at hF' hm' PR
        have hle := entL_len ent
        generalize entL ent = M at *
        have hzw := oP.lt
        have aO := oP
        have a0 := aO.cell 0 (by simp)
        have af0 := aO.frozen 0
        have a1 := aO.cell 1 (by simp)
        have af1 := aO.frozen 1
        simp only [Nat.zero_add, List.getD_cons_zero, List.getD_cons_succ] at a0 a1
        clear aO
        clear hF hfu hm
        go_wp2_with fail
        refine (DK.out).mono ?_
        rintro e wd ⟨rfl, kd⟩
        have hzd := kd.size
        have cO := oP.below kd
        have c0 := cO.cell 0 (by simp)
        have cf0 := cO.frozen 0
        have c1 := cO.cell 1 (by simp)
        have cf1 := cO.frozen 1
        simp only [Nat.zero_add, List.getD_cons_zero, List.getD_cons_succ] at c0 c1
        clear cO
        have oPd := oP.below kd
        have oRd := oR.below kd
        have kkd := kk.trans (kd.mono kk.size)
        have hownd := owns_below2 hown kd
        clear oP oR kk hown a0 a1 af0 af1 DK DC kd
        go_wp2_with fail
        refine (PR.out _).mono ?_
        rintro e w2 ⟨v, rfl, hSl, k2⟩
        have hil2 := k2.size
        have oP2 := (oPd.below k2).alloc (.cells #[.string D', .bool b'] 24)
        have oR2 := (oRd.below k2).alloc (.cells #[.string D', .bool b'] 24)
        have kk2 := (kkd.trans (k2.mono kkd.size)).alloc (by omega) (.cells #[.string D', .bool b'] 24)
        have hown2 := owns_below2 hownd k2
        have HROW := Lib.hid (fun j hj => (hown2.lt j hj).1)
        have HNE := Lib.hid (fun (g : Nat) (hg : g < w.heap.size + 2 ∨ w2.heap.size ≤ g) => row_far hown2 hg)
        have hown3 := hown2.alloc (.cells #[.string D', .bool b'] 24)
        have oQ := Own.new (w := w2) rfl [.string D', .bool b'] 24
        have hSl := hSl.below (boxed_below w2 (.cells #[.string D', .bool b'] 24))
        have n1 : ¬ w2.heap.size = w.heap.size + 1 := by omega
        have n2 : ¬ w.heap.size + 1 = w2.heap.size := by omega
        clear hown2 k2 oPd oRd kkd hownd PR c0 c1 cf0 cf1
        have hSl' := hSl
        obtain ⟨ad, cap, rfl, hb1, hl1, hno, hce⟩ := hSl
        have r1 := set_same
        have r2 := set_off
        have r3 := set_blk
        cases ad with
        | none =>
          obtain ⟨hM0, rfl⟩ := hno rfl
          obtain rfl := List.length_eq_zero_iff.1 hM0
          rw [List.append_nil] at hF'
          have NX := TyRel.next hF' hfu' hm' (by omega) hLs hown3 oP2 oR2 kk2 n rfl
          have cO := oP2
          have c0 := cO.cell 0 (by simp)
          have cf0 := cO.frozen 0
          have c1 := cO.cell 1 (by simp)
          have cf1 := cO.frozen 1
          simp only [Nat.zero_add, List.getD_cons_zero, List.getD_cons_succ] at c0 c1
          clear cO
          have dO := oQ
          have d0 := dO.cell 0 (by simp)
          have df0 := dO.frozen 0
          have d1 := dO.cell 1 (by simp)
          have df1 := dO.frozen 1
          simp only [Nat.zero_add, List.getD_cons_zero, List.getD_cons_succ] at d0 d1
          clear dO
          have HO := Lib.hid hown3
          clear oP2 oR2 oQ kk2 hce hSl' hb1 hl1 hown3 HNE HROW
          go_wp2_with (at_builtin; refine wpList_append_own_none rfl _ _ 22 rfl (w.heap.size + 2) 50 i0 2 Tryd.underlying22 hi _ _ _ rfl HO.out rfl ?_)
          exact ⟨⟨_, _, rfl, rfl, NX⟩, by simp [intOf]; omega⟩
        | some ad =>
          have HN := Lib.hid (Sl.news hSl')
          have HC : Hid (∀ u ∈ M.flatMap AEntry.cells, u.oneCell' = true) := oneCells_flat (fun x => oneCells_lit (cs := AEntry.cells x) rfl) M
          clear hSl' hce hno
          go_wp2_with (first
            | (at_builtin; refine wpList_append_own _ rfl _ _ 22 rfl (w.heap.size + 2) 50 i0 (.agg #[.string ByteArray.empty, .int .i64 0]) 2 24 Tryd.underlying22 hi hz0 hz1 hz2 rfl (by decide) _ _ _ rfl hown3 ad M.length cap (M.flatMap AEntry.cells) rfl hl1 HN.out HC.out (by unfold maxLen; omega) (by omega) (by simp; omega) ?_; intro v' w1 hown' hgrow _
               have hne := HNE.out
               have oP4 := oP2.grown hgrow (hne _ (by omega))
               have oR4 := oR2.grown hgrow (hne _ (by omega))
               have oQ4 := oQ.grown hgrow (hne _ (by omega))
               have kb := Below.grown (B := w.heap.size) (Below.refl _ _) hgrow (by simp; omega) (fun j hj => Nat.le_trans (by omega) (HROW.out j hj))
               have kk4 := kk2.trans kb
               have hown4 : w1.ownsRow (w.heap.size + 2) entT 2 v' (L ++ M).length ((L ++ M).flatMap AEntry.cells) := by
                 rw [List.flatMap_append, List.length_append]; exact hown'
               have NX := TyRel.next hF' hfu' hm' (by rw [List.length_append]; omega) (by rw [List.length_append]; omega) hown4 oP4 oR4 kk4 n rfl
               have cO := oP4
               have c0 := cO.cell 0 (by simp)
               have cf0 := cO.frozen 0
               have c1 := cO.cell 1 (by simp)
               have cf1 := cO.frozen 1
               simp only [Nat.zero_add, List.getD_cons_zero, List.getD_cons_succ] at c0 c1
               clear cO
               have dO := oQ4
               have d0 := dO.cell 0 (by simp)
               have df0 := dO.frozen 0
               have d1 := dO.cell 1 (by simp)
               have df1 := dO.frozen 1
               simp only [Nat.zero_add, List.getD_cons_zero, List.getD_cons_succ] at d0 d1
               clear dO
               clear hown' hgrow hown3 oP2 oR2 oQ kb kk2 kk4 hown4 oR4 HNE hne HROW HN HC))
          exact ⟨⟨_, _, rfl, rfl, NX⟩, by simp [intOf]; omega⟩
      · obtain rfl := keysF_end hF hlt
        have hS := Lib.hid hown
        have n3 : w.heap.size < w.heap.size + 2 := by omega
        have hL48 : L.length ≤ 281474976710656 := by omega
        have hz := oP.lt
        have hi1 : ¬ (p : Int) < (s.size : Int) := by omega
        have pO := oP
        have p0 := pO.cell 0 (by simp)
        have pf0 := pO.frozen 0
        have p1 := pO.cell 1 (by simp)
        have pf1 := pO.frozen 1
        simp only [Nat.zero_add, List.getD_cons_zero, List.getD_cons_succ] at p0 p1
        clear pO
        have qO := oR
        have q0 := qO.cell 0 (by simp)
        have qf0 := qO.frozen 0
        have q1 := qO.cell 1 (by simp)
        have qf1 := qO.frozen 1
        simp only [Nat.zero_add, List.getD_cons_zero, List.getD_cons_succ] at q0 q1
        clear qO
        have r1 := set_same
        have r2 := set_off
        have r3 := set_blk
        clear hF hfu hm hown hlt DC
        go_wp2
        go_region_held3 (fun w' => w'.cell? ⟨w.heap.size + 1, 0, none⟩ = some (.string D) ∧ w'.cell? ⟨w.heap.size + 1, 1, none⟩ = some (.bool b)) (first | go_keep | (go_split_ands; refine ⟨?_, ?_⟩ <;> assumption)) (fail)
        all_goals
          go_wp2
          exact bodyPost_ret (v := T3 v6 (padV D b) (I 0)) (by simp [results, Tryd.results10, go_sem, *]; try omega) rfl (⟨_, rfl, Sl.of_owns (ownsRow_setCell_below (a := ⟨w.heap.size, 1, none⟩) (ownsRow_setCell_below (a := ⟨w.heap.size, 0, none⟩) hS.out n3 _) n3 _) hL48, (by repeat first | with_reducible assumption | with_reducible exact Below.refl _ _ | with_reducible refine Below.setCell ?_ (by first | exact Nat.le_refl _ | exact Below.size (by assumption) | (simp; done) | (simp; omega) | omega) _ | with_reducible refine Below.alloc ?_ (by first | exact Nat.le_refl _ | exact Below.size (by assumption) | (simp; done) | (simp; omega) | omega) _ | with_reducible refine drewN_below ?_ _ | with_reducible refine Below.drew ?_)⟩)
end Go.Proofs.YtmciccnmpoijdaaDoor
