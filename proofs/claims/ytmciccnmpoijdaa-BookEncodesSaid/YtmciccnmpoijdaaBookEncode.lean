/- book.Encode -/
import Derived.Test.YtmciccnmpoijdaaBookEnc
import Derived.Test.YtmciccnmpoijdaaChg
namespace Go.Proofs.Ytmciccnmpoijdaa
open Go Go.RowKit
set_option maxRecDepth 20000

def encL (b : Bool) (l : List Int) : List Int := if b then l else []
def encE (b : Bool) : Int := if b then 0 else 5
def EncP (b : Bool) (l : List Int) (w : World) (e : Ending) (w' : World) : Prop := GrewSl2 1 (encL b l).length ((encL b l).map U32) (encE b) w e w'
theorem hmf_any : ∀ (fn : Fn) (first cap : Array Value) (w : World), (Instr.makeFunc fn first cap).run Try.prog w = .ok (.func fn first cap) w := fun _ _ _ _ => rfl
set_option maxHeartbeats 4000000 in
theorem Encode_no (ki me mo id te de fe pr ch un ta ow bp : Int) (w : World) (hb : evMay ki me mo id te de fe pr ch un ta ow bp = false) : Calls Try.prog 11 #[evV ki me mo id te de fe pr ch un ta ow bp] w (EncP false [] w) := by
  have C := Lib.hid (fun W => check_any me mo id te de fe pr ch un ta ow bp ki W)
  rw [hb] at C
  have hmf := hmf_any
  clear hb
  go_enter_defers Try.func11, Try.ntmps11
  go_wp2_with fail
  refine (C.out _).mono ?_
  rintro e w1 ⟨he, k1⟩
  simp only [Bool.false_eq_true, if_false] at he
  subst he
  have hO := (Own.new (w := w.alloc (.cells #[I ki, I me, I mo, I id, I te, I de, I fe, I pr, I ch, I un, I ta, I ow, I bp] 43)) (g := w.heap.size + 1) (by simp) [I 0] 33).below k1
  have kk := below_box (below_box k1)
  have hg := hO.lt
  have cO := hO
  have c0 := cO.cell 0 (by simp)
  have cf0 := cO.frozen 0
  simp only [Nat.zero_add, List.getD_cons_zero] at c0
  clear cO
  clear C k1
  refine leaves_cons (f := 29) (args := #[.pointer (some ⟨w.heap.size + 1, 0, none⟩)]) (by simp) (by simp [go_sem]) ?_
  refine (enc_pan (w.heap.size + 1) 0 5 [] _ hg c0 cf0).mono ?_
  rintro e u' w'' ⟨rfl, rfl, w2, k2, rfl⟩
  have c2 := (k2.cell (p := ⟨w.heap.size + 1, 0, none⟩) hg).trans c0
  have c3 : (w2.setCell ⟨w.heap.size + 1, 0, none⟩ (I 5)).cell? ⟨w.heap.size + 1, 0, none⟩ = some (I 5) := by rw [set_same, c2]; rfl
  have kf : Below w.heap.size w (w2.setCell ⟨w.heap.size + 1, 0, none⟩ (I 5)) := (kk.trans (k2.mono kk.size)).setCell (by simp) _
  generalize w2.setCell ⟨w.heap.size + 1, 0, none⟩ (I 5) = w3 at *
  simp [Leaves, settle, results, Try.results11, go_sem, c3]
  refine ⟨_, rfl, Sl.nil _ _, kf⟩
theorem owns_far {w : World} {base e sz n z : Nat} {v : Value} {cs : List Value} (h : w.ownsRow base e sz v n cs) (hz : z < base) : Far z v := by
  rcases owns_cases h with ⟨rfl, _⟩ | ⟨g, cap, rfl, hb, _, _⟩
  · exact Far.nil _ _ _
  · exact Far.lit (by omega)
def EncRel (W : World) (L : List Int) (v : Value) (wr : World) : Prop := wr.ownsRow W.heap.size 75 1 v L.length (L.map U32) ∧ Below W.heap.size W wr
set_option maxHeartbeats 4000000 in
theorem Encode_yes (ki me mo id te de fe pr ch un ta ow bp : Int) (w : World) (hb : evMay ki me mo id te de fe pr ch un ta ow bp = true)
    (hl : ∀ k, k < 13 → 0 ≤ [ki, me, mo, id, te, de, fe, pr, ch, un, ta, ow, bp].getD k 0 ∧ [ki, me, mo, id, te, de, fe, pr, ch, un, ta, ow, bp].getD k 0 < 4294967296) :
    Calls Try.prog 11 #[evV ki me mo id te de fe pr ch un ta ow bp] w (EncP true [ki, me, mo, id, te, de, fe, pr, ch, un, ta, ow, bp] w) := by
  have C := Lib.hid (fun W => check_any me mo id te de fe pr ch un ta ow bp ki W)
  rw [hb] at C
  have hmf := hmf_any
  have F := Lib.hid (fun W => fields_any w.heap.size W)
  have HL := Lib.hid hl
  obtain ⟨i0, hi, hz0, hz1, hz2⟩ := info_parts infoU32
  have HI := Lib.hid (fun k hk W => index13 w.heap.size k hk W)
  clear hb hl
  go_enter_defers Try.func11, Try.ntmps11
  go_wp2_with fail
  refine (C.out _).mono ?_
  rintro e w1 ⟨he, k1⟩
  simp only [if_true] at he
  subst he
  have hO := (Own.new (w := w.alloc (.cells #[I ki, I me, I mo, I id, I te, I de, I fe, I pr, I ch, I un, I ta, I ow, I bp] 43)) (g := w.heap.size + 1) (by simp) [I 0] 33).below k1
  have hV := ((Own.new (w := w) rfl [I ki, I me, I mo, I id, I te, I de, I fe, I pr, I ch, I un, I ta, I ow, I bp] 43).alloc (.cells #[I 0] 33)).below k1
  have kk := below_box (below_box k1)
  clear C k1
  go_wp2_with fail
  refine (F.out _).mono ?_
  rintro e w2 ⟨rfl, k2⟩
  have kk2 := kk.trans (k2.mono kk.size)
  have HO := Lib.hid (hO.below k2)
  have HV := Lib.hid (hV.below k2)
  clear F k2 kk hO hV
  have HLen : Hid ([ki, me, mo, id, te, de, fe, pr, ch, un, ta, ow, bp].length = 13) := rfl
  have HV' : Hid (∀ W, Below w2.heap.size w2 W → ∀ k, k < 13 → W.cell? ⟨w.heap.size, k, none⟩ = some (I ([ki, me, mo, id, te, de, fe, pr, ch, un, ta, ow, bp].getD k 0))) := Lib.hid fun W hW k hk => by
    have h := (HV.out.below hW).cell k (by simpa using hk)
    rw [Nat.zero_add] at h
    rw [h]
    match k, hk with
    | 0, _ => rfl
    | 1, _ => rfl
    | 2, _ => rfl
    | 3, _ => rfl
    | 4, _ => rfl
    | 5, _ => rfl
    | 6, _ => rfl
    | 7, _ => rfl
    | 8, _ => rfl
    | 9, _ => rfl
    | 10, _ => rfl
    | 11, _ => rfl
    | 12, _ => rfl
  generalize [ki, me, mo, id, te, de, fe, pr, ch, un, ta, ow, bp] = l at *
  go_wp2
  go_loopw [2, 5, 10] (fun v _ i wr => ∃ k : Nat, k ≤ 13 ∧ i = I k ∧ Hid (EncRel w2 (l.take k) v wr)) (fun _ _ i _ => 13 - (intOf i).toNat)
  case atStart => exact ⟨0, by decide, rfl, World.ownsRow_nil _ _ _ _, Below.refl _ _⟩
  case round =>
    obtain ⟨k, hk, rfl, hD⟩ := hrel
    obtain ⟨hown, hbw⟩ := hD.out
    by_cases hlt : k < 13
    · have hix := fun W => HI.out k hlt W
      have hcell := HV'.out wr hbw k hlt
      obtain ⟨x0, x1⟩ := HL.out k hlt
      have hsn := Lib.hid (show l.take (k + 1) = l.take k ++ [l.getD k 0] by
        rw [List.take_succ_eq_append_getElem (by rw [HLen.out]; exact hlt)]
        rw [List.getD_eq_getElem?_getD, List.getElem?_eq_getElem (by rw [HLen.out]; exact hlt)]
        rfl)
      have hlen : (l.take k).length = k := by rw [List.length_take, HLen.out]; omega
      generalize l.getD k 0 = x at *
      have hwx : IntKind.u32.wrap x = x := by show x % 4294967296 = x; omega
      have hsz := hbw.size
      have hsk : (k : Int) < 13 := by omega
      go_wp2_with (first | (at_builtin; refine wpList_append_own _ rfl _ _ 44 rfl w2.heap.size 75 i0 (.int .u32 0) 1 4 Try.underlying44 hi hz0 hz1 hz2 rfl (by decide) _ _ _ rfl (hown.alloc _) ⟨wr.heap.size, 0, none⟩ 1 1 [U32 x] rfl rfl (news_lit _ [U32 x] _) (oneCells_lit rfl) (by unfold maxLen; omega) (by omega) (by simp; omega) ?_; intro v' w1 hown' hgrow _))
      have hbel := grown_below (hbw.alloc hsz _) (hown.alloc _) (Nat.le_refl _) hgrow
      rw [hlen] at hown'
      have hD' : Hid (EncRel w2 (l.take (k + 1)) v' w1) := by
        refine ⟨?_, hbel⟩
        rw [hsn.out, List.map_append, List.length_append, hlen]
        exact hown'
      clear hown hown' hgrow hbel hbw hD
      go_wp2
      exact ⟨⟨k + 1, by omega, by go_num, hD'⟩, by simp [intOf]; try omega⟩
    · obtain rfl : k = 13 := by omega
      have htk : l.take 13 = l := List.take_of_length_le (by rw [HLen.out]; omega)
      have hS := Sl.of_owns hown (by rw [htk, HLen.out]; omega)
      rw [htk] at hS
      have hO := HO.out.below hbw
      have HOr := Lib.hid hO
      have hg := hO.lt
      have cO := hO
      have c0 := cO.cell 0 (by simp)
      have cf0 := cO.frozen 0
      simp only [Nat.zero_add, List.getD_cons_zero] at c0
      clear cO
      have kw := kk2.trans (hbw.mono kk2.size)
      have r1 := set_same
      have hfar := owns_far (z := w.heap.size + 1) hown HO.out.lt
      clear hown hbw hO HO HV hD HI
      go_wp2
      refine leaves_cons (f := 29) (args := #[.pointer (some ⟨w.heap.size + 1, 0, none⟩)]) (by simp) (by simp [go_sem]) ?_
      have hO2 : Own (wr.setCell ⟨w.heap.size + 1, 0, none⟩ (I 0)) (w.heap.size + 1) [I 0] := HOr.out.set 0 (I 0)
      have kw2 := kw.setCell (p := ⟨w.heap.size + 1, 0, none⟩) (by simp) (I 0)
      have hS2 := hS.set (z := w.heap.size + 1) (j := 0) hfar (I 0)
      have hg2 := hO2.lt
      generalize wr.setCell ⟨w.heap.size + 1, 0, none⟩ (I 0) = w4 at *
      clear c0 cf0 r1
      have cO := hO2
      have c0 := cO.cell 0 (by simp)
      have cf0 := cO.frozen 0
      simp only [Nat.zero_add, List.getD_cons_zero] at c0
      clear cO
      refine (enc_idle (w.heap.size + 1) 0 _ hg2 c0 cf0).mono ?_
      rintro e u' w'' ⟨rfl, rfl, w5, k5, rfl⟩
      have c2 := (k5.cell (p := ⟨w.heap.size + 1, 0, none⟩) hg2).trans c0
      have c3 : (w5.setCell ⟨w.heap.size + 1, 0, none⟩ (I 0)).cell? ⟨w.heap.size + 1, 0, none⟩ = some (I 0) := by rw [set_same, c2]; rfl
      have kf : Below w.heap.size w (w5.setCell ⟨w.heap.size + 1, 0, none⟩ (I 0)) := (kw2.trans (k5.mono kw2.size)).setCell (by simp) _
      have hS5 := (hS2.below k5).set (z := w.heap.size + 1) (j := 0) hfar (I 0)
      generalize w5.setCell ⟨w.heap.size + 1, 0, none⟩ (I 0) = w6 at *
      simp [Leaves, settle, results, Try.results11, go_sem, c3]
      exact ⟨_, rfl, by rw [show (encL true l).length = l.length from rfl]; exact hS5, kf⟩
end Go.Proofs.Ytmciccnmpoijdaa
