/- order.bare: an order without what its form has -/
import Derived.Test.YtfhmcahfjoliiaaDoorOrdPlace
namespace Go.Proofs.YtfhmcahfjoliiaaDoor
set_option linter.unusedSimpArgs false
set_option linter.unusedVariables false
open Go Go.RowKit
set_option maxRecDepth 20000

def zer (cs : List Value) (l : List Nat) : List Value := l.foldl (fun c o => c.set o (I 0)) cs
theorem zer_len (cs : List Value) : ∀ l, (zer cs l).length = cs.length := by
  intro l
  induction l generalizing cs with
  | nil => rfl
  | cons o l ih => show (zer (cs.set o (I 0)) l).length = _; rw [ih]; simp
theorem zer_snoc (cs : List Value) (l : List Nat) (k : Nat) (hk : k < l.length) : zer cs (l.take (k + 1)) = (zer cs (l.take k)).set (l.getD k 0) (I 0) := by
  unfold zer
  rw [List.take_add_one, List.getElem?_eq_getElem hk, List.foldl_append, List.getD_eq_getElem?_getD, List.getElem?_eq_getElem hk]
  rfl
theorem zer_all (ki me a b c cu : Int) (te : ByteArray) (A B C : Bool) : zer [I ki, I me, I a, I b, I c, .string te, I cu] (offs A B C 3) = [I ki, I 0, I (if A = true then 0 else a), I (if B = true then 0 else b), I (if C = true then 0 else c), .string te, I cu] := by
  cases A <;> cases B <;> cases C <;> rfl
theorem offs_lt (A B C : Bool) (k : Nat) (hk : k < (offs A B C 3).length) : (offs A B C 3).getD k 0 < 5 := by
  have : ∀ o ∈ offs A B C 3, o < 5 := by cases A <;> cases B <;> cases C <;> decide
  rw [List.getD_eq_getElem?_getD, List.getElem?_eq_getElem hk]
  exact this _ (List.getElem_mem hk)
theorem offs_pos (A B C : Bool) : 1 ≤ (offs A B C 3).length ∧ (offs A B C 3).length ≤ 4 := ⟨by cases A <;> cases B <;> cases C <;> decide, offs_len A B C 3⟩
theorem ptrs_get (g : Nat) (l : List Nat) (k : Nat) (hk : k < l.length) : (ptrs g l).getD k undef = .pointer (some ⟨g, l.getD k 0, none⟩) := by
  unfold ptrs
  rw [List.getD_eq_getElem?_getD, List.getElem?_map, List.getD_eq_getElem?_getD, List.getElem?_eq_getElem hk]; rfl

set_option maxHeartbeats 4000000 in
theorem bare_any (fk : Int) (fw : ByteArray) (A B C : Bool) (ki me a b c cu : Int) (te : ByteArray) (w : World) :
    Calls Tryd.prog 21 #[.agg #[I fk, .string fw, .bool A, .bool B, .bool C], .agg #[I ki, I me, I a, I b, I c, .string te, I cu]] w (Grew (.agg #[I 0, I 0, I (if A = true then 0 else a), I (if B = true then 0 else b), I (if C = true then 0 else c), .string (if fk = 6 then ⟨#[]⟩ else te), I 0]) w) := by
  have hzall := zer_all ki me a b c cu te A B C
  generalize (if A = true then 0 else a) = a' at *
  generalize (if B = true then 0 else b) = b' at *
  generalize (if C = true then 0 else c) = c' at *
  obtain ⟨te', ht⟩ : ∃ x, x = (if fk = 6 then (⟨#[]⟩ : ByteArray) else te) := ⟨_, rfl⟩
  rw [← ht]
  have HT := Lib.hid ht
  have HZ := Lib.hid hzall
  clear ht hzall
  have OF := ((Own.new (w := w) (g := w.heap.size) (by rfl) [I fk, .string fw, .bool A, .bool B, .bool C] 35).alloc (.cells #[I ki, I me, I a, I b, I c, .string te, I cu] 23)).alloc (.cells #[I 0, I 0, I 0, I 0, I 0, .string ⟨#[]⟩, I 0] 23)
  have OX := (Own.new (w := (w.alloc (.cells #[I fk, .string fw, .bool A, .bool B, .bool C] 35))) (g := w.heap.size + 1) (by simp) [I ki, I me, I a, I b, I c, .string te, I cu] 23).alloc (.cells #[I 0, I 0, I 0, I 0, I 0, .string ⟨#[]⟩, I 0] 23)
  have OR := Own.new (w := ((w.alloc (.cells #[I fk, .string fw, .bool A, .bool B, .bool C] 35)).alloc (.cells #[I ki, I me, I a, I b, I c, .string te, I cu] 23))) (g := w.heap.size + 2) (by simp) [I 0, I 0, I 0, I 0, I 0, .string ⟨#[]⟩, I 0] 23
  have bx0 := boxed_below w (.cells #[I fk, .string fw, .bool A, .bool B, .bool C] 35)
  have bx1 := bx0.alloc bx0.size (.cells #[I ki, I me, I a, I b, I c, .string te, I cu] 23)
  have KB := bx1.alloc bx1.size (.cells #[I 0, I 0, I 0, I 0, I 0, .string ⟨#[]⟩, I 0] 23)
  clear bx0 bx1
  have PL := Lib.hid (fun W => places_any fk fw A B C (w.heap.size + 1) W)
  have HF := Lib.hid OF
  have HX := Lib.hid OX
  have HR := Lib.hid OR
  have HB := Lib.hid KB
  have fO := OF
  have ffA := fO.f; have f0 := fO.c0; have f1 := fO.c1; have f2 := fO.c2; have f3 := fO.c3; have f4 := fO.c4
  clear fO
  clear OF OX OR KB
  go_enter Tryd.func21, Tryd.ntmps21
  go_wp2_with fail
  have hs0 : w.heap.size + 3 ≤ (((w.alloc (.cells #[I fk, .string fw, .bool A, .bool B, .bool C] 35)).alloc (.cells #[I ki, I me, I a, I b, I c, .string te, I cu] 23)).alloc (.cells #[I 0, I 0, I 0, I 0, I 0, .string ⟨#[]⟩, I 0] 23)).heap.size := by simp
  generalize ((w.alloc (.cells #[I fk, .string fw, .bool A, .bool B, .bool C] 35)).alloc (.cells #[I ki, I me, I a, I b, I c, .string te, I cu] 23)).alloc (.cells #[I 0, I 0, I 0, I 0, I 0, .string ⟨#[]⟩, I 0] 23) = W0 at *
  refine (PL.out W0).mono ?_
  rintro e w2 ⟨v, rfl, hown, k2⟩
  have hfar := FarB.of_owns hown
  have hS := Sl.of_owns hown (by have := (offs_pos A B C).2; omega)
  obtain ⟨ad, cap, rfl, hn, hl, h0, h⟩ := hS
  obtain ⟨b2, o2, rfl, hb2, hc2⟩ := h.resolve_left (by have := (offs_pos A B C).1; omega)
  have hb0 : W0.heap.size ≤ b2 := hfar _ _ _ rfl
  have KB := HB.out.trans (k2.mono HB.out.size)
  have OF := HF.out.below k2
  have OX := HX.out.below k2
  have OR := HR.out.below k2
  obtain ⟨p1, p4⟩ := offs_pos A B C
  clear f0 f1 f2 f3 f4 ffA h h0 hl hn hfar hown PL HF HX HR HB k2
  have HC := Lib.hid hc2
  have HP := Lib.hid (fun k hk => offs_lt A B C k hk)
  clear hc2
  generalize offs A B C 3 = ol at *
  go_wp2_with fail
  go_loopw [10] (fun s10 wr => ∃ k : Nat, k ≤ ol.length ∧ s10 = I k ∧ Hid (∀ j, j < (ptrs (w.heap.size + 1) ol).length → wr.cell? ⟨b2, o2 + j, none⟩ = some ((ptrs (w.heap.size + 1) ol).getD j undef)) ∧ Own wr w.heap.size [I fk, .string fw, .bool A, .bool B, .bool C] ∧ Own wr (w.heap.size + 1) (zer [I ki, I me, I a, I b, I c, .string te, I cu] (ol.take k)) ∧ Own wr (w.heap.size + 2) [I 0, I 0, I 0, I 0, I 0, .string ⟨#[]⟩, I 0] ∧ Below w.heap.size w wr) (fun i _ => ol.length - (intOf i).toNat)
  case atStart => exact ⟨0, Nat.zero_le _, rfl, HC.out, OF, by simpa [zer] using OX, OR, KB⟩
  case round =>
    clear HC OF OX OR KB
    obtain ⟨k, hk, rfl, HC, OF, OX, OR, KB⟩ := hrel
    by_cases hlt : k < ol.length
    · have e0 := HC.out k (by unfold ptrs; rw [List.length_map]; exact hlt)
      rw [ptrs_get _ _ _ hlt] at e0
      have ho := HP.out k hlt
      have hz := zer_snoc [I ki, I me, I a, I b, I c, .string te, I cu] ol k hlt
      have x0 := OX.cell (ol.getD k 0) (by rw [zer_len]; show _ < 7; omega)
      rw [Nat.zero_add] at x0
      have xf := OX.frozen (ol.getD k 0)
      have SX := Lib.hid (show ∀ W, Own W (w.heap.size + 1) (zer [I ki, I me, I a, I b, I c, .string te, I cu] (ol.take k)) → Own (W.setCell ⟨w.heap.size + 1, ol.getD k 0, none⟩ (I 0)) (w.heap.size + 1) (zer [I ki, I me, I a, I b, I c, .string te, I cu] (ol.take (k + 1))) from fun W h => by rw [hz]; exact h.set _ _)
      have QF := Lib.hid OF
      have QX := Lib.hid OX
      have QR := Lib.hid OR
      clear OF OX OR hz
      generalize (zer [I ki, I me, I a, I b, I c, .string te, I cu] (ol.take k)).getD (ol.getD k 0) undef = ux at *
      generalize ol.getD k 0 = o at *
      have j0 : (0 : Int) ≤ (k : Int) := by omega
      have j1 : (k : Int) < (ol.length : Int) := by omega
      go_wp2_with fail
      exact ⟨⟨k + 1, by omega, by go_num, (fun j hj => (World.cell?_setCell_other _ _ _ _ (by intro e; simp only [Addr.mk.injEq] at e; omega)).trans (HC.out j hj)), QF.out.other (by show w.heap.size + 1 ≠ w.heap.size; omega) _, SX.out _ QX.out, QR.out.other (by show w.heap.size + 1 ≠ w.heap.size + 2; omega) _, KB.setCell (by show w.heap.size ≤ w.heap.size + 1; omega) _⟩, by simp [intOf]; omega⟩
    · obtain rfl : k = ol.length := by omega
      rw [List.take_length, HZ.out] at OX
      clear HC HP HZ
      have QF := Lib.hid OF
      have fO := OF
      have ffA := fO.f; have f0 := fO.c0; have f1 := fO.c1; have f2 := fO.c2; have f3 := fO.c3; have f4 := fO.c4
      clear fO
      have xO := OX
      have xfA := xO.f; have x0 := xO.c0; have x1 := xO.c1; have x2 := xO.c2; have x3 := xO.c3; have x4 := xO.c4; have x5 := xO.c5; have x6 := xO.c6
      clear xO
      have rO := OR
      have rfA := rO.f; have r0 := rO.c0; have r1 := rO.c1; have r2 := rO.c2; have r3 := rO.c3; have r4 := rO.c4; have r5 := rO.c5; have r6 := rO.c6
      clear rO
      clear OF OX OR
      have r1 := set_same
      have r2 := set_off
      have r3 := set_blk
      have n1 : ¬ w.heap.size + 1 = w.heap.size + 2 := by omega
      have n2 : ¬ w.heap.size + 2 = w.heap.size + 1 := by omega
      have n3 : ¬ w.heap.size + 1 = w.heap.size := by omega
      have n4 : ¬ w.heap.size + 2 = w.heap.size := by omega
      by_cases h6 : fk = 6
      · have ht : te' = ⟨#[]⟩ := by rw [HT.out, if_pos h6]
        subst ht
        subst h6
        clear HT
        go_wp2_with fail
        exact bodyPost_ret (v := .agg #[I 0, I 0, I a', I b', I c', .string ⟨#[]⟩, I 0]) (by simp [results, Tryd.results21, go_sem, *]; try omega) rfl (⟨rfl, below_autor⟩)
      · have ht : te' = te := by rw [HT.out, if_neg h6]
        subst ht
        have h6z : (fk == 6) = false := by simp [h6]
        clear HT
        go_wp2_with fail
        exact bodyPost_ret (v := .agg #[I 0, I 0, I a', I b', I c', .string te', I 0]) (by simp [results, Tryd.results21, go_sem, *]; try omega) rfl (⟨rfl, below_autor⟩)
end Go.Proofs.YtfhmcahfjoliiaaDoor
