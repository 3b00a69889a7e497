/- ref.EventMay, ref.Encoded · ref.Encoded · book.Decode · book.Find and its reference -/
import Derived.Test.YtenoigmkhlnfoaaPk04
import Derived.Test.YtenoigmkhlnfoaaPk00
import Derived.Test.YtenoigmkhlnfoaaPk02
namespace Go.Proofs.Ytenoigmkhlnfoaa
set_option linter.unusedSimpArgs false
set_option linter.unusedVariables false
open Go Go.RowKit
set_option maxRecDepth 20000

variable (ki me mo id te de fe pr ch un ta ow bp : Int)
theorem evMay_all : evMay ki me mo id te de fe pr ch un ta ow bp = true ↔ (0 ≤ me ∧ me ≤ 49) ∧ (
    (ki = 1 ∧ mo = 0 ∧ (id = 0 ∧ te = 0 ∧ de = 0 ∧ fe = 0 ∧ pr = 0 ∧ ch = 0 ∧ un = 0) ∧ ta = 0 ∧ ow = 0 ∧ bp = 0) ∨
    (ki = 2 ∧ (0 ≤ de ∧ 0 ≤ fe ∧ 0 ≤ pr ∧ 0 ≤ ch) ∧ (1 ≤ te ∧ te ≤ 100000000) ∧ de + fe + pr + ch = te ∧ (1 ≤ un ∧ un ≤ 2097151) ∧ (0 ≤ mo ∧ mo ≤ 2399) ∧ (1 ≤ id ∧ id ≤ 1048575) ∧ (0 ≤ ta ∧ ta ≤ 65535) ∧ ow = 0 ∧ bp = 0) ∨
    (ki = 3 ∧ (1 ≤ un ∧ un ≤ 2097151) ∧ (0 ≤ mo ∧ mo ≤ 2399) ∧ (1 ≤ id ∧ id ≤ 1048575) ∧ (0 ≤ ta ∧ ta ≤ 65535) ∧ (te = 0 ∧ de = 0 ∧ fe = 0 ∧ pr = 0 ∧ ch = 0) ∧ ow = 0 ∧ bp = 0) ∨
    (ki = 4 ∧ (1 ≤ id ∧ id ≤ 1048575) ∧ (0 ≤ ta ∧ ta ≤ 65535) ∧ mo = 0 ∧ (te = 0 ∧ de = 0 ∧ fe = 0 ∧ pr = 0 ∧ ch = 0 ∧ un = 0) ∧ ow = 0 ∧ bp = 0) ∨
    (ki = 5 ∧ (1 ≤ ow ∧ ow ≤ 1000000000) ∧ (0 ≤ bp ∧ bp ≤ 10000) ∧ mo = 0 ∧ (id = 0 ∧ te = 0 ∧ de = 0 ∧ fe = 0 ∧ pr = 0 ∧ ch = 0 ∧ un = 0) ∧ ta = 0)) := by
  by_cases h1 : ki = 1
  · subst h1; rw [evMay_reg]; simp
  by_cases h2 : ki = 2
  · subst h2; rw [evMay_sale]; simp
  by_cases h3 : ki = 3
  · subst h3; rw [evMay_grant]; simp
  by_cases h4 : ki = 4
  · subst h4; rw [evMay_rekey]; simp
  by_cases h5 : ki = 5
  · subst h5; rw [evMay_charge]; simp
  unfold evMay
  rw [if_neg h1, if_neg h2, if_neg h3, if_neg h4, if_neg h5]
  simp [h1, h2, h3, h4, h5]
theorem evMay_words (h : evMay ki me mo id te de fe pr ch un ta ow bp = true) (k : Nat) (hk : k < 13) :
    0 ≤ [ki, me, mo, id, te, de, fe, pr, ch, un, ta, ow, bp].getD k 0 ∧ [ki, me, mo, id, te, de, fe, pr, ch, un, ta, ow, bp].getD k 0 < 4294967296 := by
  have h := (evMay_all ki me mo id te de fe pr ch un ta ow bp).1 h
  have : (0 ≤ ki ∧ ki < 4294967296) ∧ (0 ≤ me ∧ me < 4294967296) ∧ (0 ≤ mo ∧ mo < 4294967296) ∧ (0 ≤ id ∧ id < 4294967296) ∧ (0 ≤ te ∧ te < 4294967296) ∧ (0 ≤ de ∧ de < 4294967296) ∧ (0 ≤ fe ∧ fe < 4294967296) ∧ (0 ≤ pr ∧ pr < 4294967296) ∧ (0 ≤ ch ∧ ch < 4294967296) ∧ (0 ≤ un ∧ un < 4294967296) ∧ (0 ≤ ta ∧ ta < 4294967296) ∧ (0 ≤ ow ∧ ow < 4294967296) ∧ (0 ≤ bp ∧ bp < 4294967296) := by
    obtain ⟨hm, h | h | h | h | h⟩ := h <;> refine ⟨?_, ?_, ?_, ?_, ?_, ?_, ?_, ?_, ?_, ?_, ?_, ?_, ?_⟩ <;> omega
  obtain ⟨a0, a1, a2, a3, a4, a5, a6, a7, a8, a9, a10, a11, a12⟩ := this
  match k, hk with
  | 0, _ => exact a0
  | 1, _ => exact a1
  | 2, _ => exact a2
  | 3, _ => exact a3
  | 4, _ => exact a4
  | 5, _ => exact a5
  | 6, _ => exact a6
  | 7, _ => exact a7
  | 8, _ => exact a8
  | 9, _ => exact a9
  | 10, _ => exact a10
  | 11, _ => exact a11
  | 12, _ => exact a12
theorem Encode_any (w : World) : Calls Try.prog 77 #[evV ki me mo id te de fe pr ch un ta ow bp] w (EncP (evMay ki me mo id te de fe pr ch un ta ow bp) [ki, me, mo, id, te, de, fe, pr, ch, un, ta, ow, bp] w) := by
  cases hb : evMay ki me mo id te de fe pr ch un ta ow bp
  · exact Encode_no ki me mo id te de fe pr ch un ta ow bp w hb
  · exact Encode_yes ki me mo id te de fe pr ch un ta ow bp w hb (evMay_words ki me mo id te de fe pr ch un ta ow bp hb)
end Go.Proofs.Ytenoigmkhlnfoaa
namespace Go.Proofs.Ytenoigmkhlnfoaa
set_option linter.unusedSimpArgs false
set_option linter.unusedVariables false
open Go Go.RowKit
set_option maxRecDepth 20000

variable (ki me mo id te de fe pr ch un ta ow bp : Int)
theorem Encoded_no (w : World) (hb : evMay ki me mo id te de fe pr ch un ta ow bp = false) : Calls Try.prog 79 #[evV ki me mo id te de fe pr ch un ta ow bp] w (EncP false [ki, me, mo, id, te, de, fe, pr, ch, un, ta, ow, bp] w) := by
  have M := Lib.hid (fun W => EventMay_any ki me mo id te de fe pr ch un ta ow bp W)
  rw [hb] at M
  clear hb
  go_enter Try.func79, Try.ntmps79
  go_wp2_with fail
  refine (M.out _).mono ?_
  rintro e w1 ⟨rfl, k1⟩
  have kk := below_box k1
  clear k1 M
  go_wp2
  go_ret2
  exact ⟨_, rfl, Sl.nil _ _, kk⟩
set_option maxHeartbeats 4000000 in
theorem Encoded_yes (w : World) (hb : evMay ki me mo id te de fe pr ch un ta ow bp = true)
    (hl : ∀ k, k < 13 → 0 ≤ [ki, me, mo, id, te, de, fe, pr, ch, un, ta, ow, bp].getD k 0 ∧ [ki, me, mo, id, te, de, fe, pr, ch, un, ta, ow, bp].getD k 0 < 4294967296) :
    Calls Try.prog 79 #[evV ki me mo id te de fe pr ch un ta ow bp] w (EncP true [ki, me, mo, id, te, de, fe, pr, ch, un, ta, ow, bp] w) := by
  have M := Lib.hid (fun W => EventMay_any ki me mo id te de fe pr ch un ta ow bp W)
  rw [hb] at M
  have HL := Lib.hid hl
  obtain ⟨i0, hi, hz0, hz1, hz2⟩ := info_parts infoU32
  clear hb hl
  go_enter Try.func79, Try.ntmps79
  go_wp2_with fail
  refine (M.out _).mono ?_
  rintro e w1 ⟨rfl, k1⟩
  have hV := (Own.new (w := w) rfl [I ki, I me, I mo, I id, I te, I de, I fe, I pr, I ch, I un, I ta, I ow, I bp] 72).below k1
  have kk := below_box k1
  have hvl := hV.lt
  have hvn : ¬ w.heap.size = w1.heap.size := by omega
  have hvn2 : ¬ w1.heap.size = w.heap.size := by omega
  have vO := hV
  have vfA := vO.f; have v0 := vO.c0; have v1 := vO.c1; have v2 := vO.c2; have v3 := vO.c3; have v4 := vO.c4; have v5 := vO.c5; have v6 := vO.c6; have v7 := vO.c7; have v8 := vO.c8; have v9 := vO.c9; have v10 := vO.c10; have v11 := vO.c11; have v12 := vO.c12
  clear vO
  clear M k1 hV
  go_wp2
  clear v0 v1 v2 v3 v4 v5 v6 v7 v8 v9 v10 v11 v12 vfA
  have HO := Lib.hid (Own.new (w := w1.alloc (.cells #[I id, I te, I de, I fe, I pr, I ch, I un] 70)) (g := w1.heap.size + 1) (by simp) [I ki, I me, I mo, I id, I te, I de, I fe, I pr, I ch, I un, I ta, I ow, I bp] 3)
  have HK : Hid (Below w.heap.size w ((w1.alloc (.cells #[I id, I te, I de, I fe, I pr, I ch, I un] 70)).alloc (.cells #[I ki, I me, I mo, I id, I te, I de, I fe, I pr, I ch, I un, I ta, I ow, I bp] 3))) := (kk.alloc kk.size _).alloc (by simp; omega) _
  have HLen : Hid ([ki, me, mo, id, te, de, fe, pr, ch, un, ta, ow, bp].length = 13) := rfl
  generalize (w1.alloc (.cells #[I id, I te, I de, I fe, I pr, I ch, I un] 70)).alloc (.cells #[I ki, I me, I mo, I id, I te, I de, I fe, I pr, I ch, I un, I ta, I ow, I bp] 3) = w2 at *
  have HV' : Hid (∀ W, Below w2.heap.size w2 W → ∀ k, k < 13 → W.cell? ⟨w1.heap.size + 1, k, none⟩ = some (I ([ki, me, mo, id, te, de, fe, pr, ch, un, ta, ow, bp].getD k 0))) := Lib.hid fun W hW k hk => by
    have h := (HO.out.below hW).cell k (by simpa using hk)
    rw [Nat.zero_add] at h
    rw [h]
    match k, hk with
    | 0, _ => rfl
    | 1, _ => rfl
    | 2, _ => rfl
    | 3, _ => rfl
    | 4, _ => rfl
    | 5, _ => rfl
    | 6, _ => rfl
    | 7, _ => rfl
    | 8, _ => rfl
    | 9, _ => rfl
    | 10, _ => rfl
    | 11, _ => rfl
    | 12, _ => rfl
  generalize [ki, me, mo, id, te, de, fe, pr, ch, un, ta, ow, bp] = l at *
  clear HO kk
  go_loopw [6, 7] (fun v i wr => ∃ k : Nat, k ≤ 13 ∧ i = I k ∧ Hid (EncRel w2 (l.take k) v wr)) (fun _ i _ => 13 - (intOf i).toNat)
  case atStart => exact ⟨0, by decide, rfl, World.ownsRow_nil _ _ _ _, Below.refl _ _⟩
  case round =>
    obtain ⟨k, hk, rfl, hD⟩ := hrel
    obtain ⟨hown, hbw⟩ := hD.out
    by_cases hlt : k < 13
    · have hcell := HV'.out wr hbw k hlt
      obtain ⟨x0, x1⟩ := HL.out k hlt
      have hsn := Lib.hid (show l.take (k + 1) = l.take k ++ [l.getD k 0] by
        rw [List.take_succ_eq_append_getElem (by rw [HLen.out]; exact hlt)]
        rw [List.getD_eq_getElem?_getD, List.getElem?_eq_getElem (by rw [HLen.out]; exact hlt)]
        rfl)
      have hlen : (l.take k).length = k := by rw [List.length_take, HLen.out]; omega
      generalize l.getD k 0 = x at *
      have hwx : IntKind.u32.wrap x = x := by show x % 4294967296 = x; omega
      have hsz := hbw.size
      have hsk : (k : Int) < 13 := by omega
      go_wp2_with (first | (at_builtin; refine wpList_append_own _ rfl _ _ 37 rfl w2.heap.size 103 i0 (.int .u32 0) 1 4 Try.underlying37 hi hz0 hz1 hz2 rfl (by decide) _ _ _ rfl (hown.alloc _) ⟨wr.heap.size, 0, none⟩ 1 1 [U32 x] rfl rfl (news_lit _ [U32 x] _) (oneCells_lit rfl) (by unfold maxLen; omega) (by omega) (by simp; omega) ?_; intro v' w1 hown' hgrow _))
      have hbel := grown_below (hbw.alloc hsz _) (hown.alloc _) (Nat.le_refl _) hgrow
      rw [hlen] at hown'
      have hD' : Hid (EncRel w2 (l.take (k + 1)) v' w1) := by
        refine ⟨?_, hbel⟩
        rw [hsn.out, List.map_append, List.length_append, hlen]
        exact hown'
      clear hown hown' hgrow hbel hbw hD
      go_wp2
      exact ⟨⟨k + 1, by omega, by go_num, hD'⟩, by simp [intOf]; try omega⟩
    · obtain rfl : k = 13 := by omega
      have htk : l.take 13 = l := List.take_of_length_le (by rw [HLen.out]; omega)
      have hS := Sl.of_owns hown (by rw [htk, HLen.out]; omega)
      rw [htk] at hS
      have kw := HK.out.trans (hbw.mono HK.out.size)
      clear hown hbw hD
      go_wp2
      go_ret2
      exact ⟨_, rfl, hS, kw⟩
theorem Encoded_any (w : World) : Calls Try.prog 79 #[evV ki me mo id te de fe pr ch un ta ow bp] w (EncP (evMay ki me mo id te de fe pr ch un ta ow bp) [ki, me, mo, id, te, de, fe, pr, ch, un, ta, ow, bp] w) := by
  cases hb : evMay ki me mo id te de fe pr ch un ta ow bp
  · exact Encoded_no ki me mo id te de fe pr ch un ta ow bp w hb
  · exact Encoded_yes ki me mo id te de fe pr ch un ta ow bp w hb (evMay_words ki me mo id te de fe pr ch un ta ow bp hb)
end Go.Proofs.Ytenoigmkhlnfoaa
namespace Go.Proofs.Ytenoigmkhlnfoaa
set_option linter.unusedSimpArgs false
set_option linter.unusedVariables false
open Go Go.RowKit
set_option maxRecDepth 20000

def mixD (l : List Int) (k : Nat) : List Value := (List.range 13).map fun j => I (if j < k then l.getD j 0 else 0)
theorem mixD_set {l : List Int} {k : Nat} : (mixD l k).set k (I (l.getD k 0)) = mixD l (k + 1) := by
  refine List.ext_getElem (by simp [mixD]) fun j h1 h2 => ?_
  simp only [mixD, List.getElem_set, List.getElem_map, List.getElem_range]
  by_cases hkj : k = j
  · subst hkj; rw [if_pos rfl, if_pos (by omega)]
  · rw [if_neg hkj]
    by_cases hlt : j < k
    · rw [if_pos hlt, if_pos (by omega)]
    · rw [if_neg hlt, if_neg (by omega)]
abbrev z13 : List Value := [I 0, I 0, I 0, I 0, I 0, I 0, I 0, I 0, I 0, I 0, I 0, I 0, I 0]
theorem zero13_own {W : World} {gv : Nat} {x0 x1 x2 x3 x4 x5 x6 x7 x8 x9 x10 x11 x12 : Value} (h : Own W gv [x0, x1, x2, x3, x4, x5, x6, x7, x8, x9, x10, x11, x12]) : Own (zero13 W gv) gv z13 :=
  ((((((((((((h.set 0 (I 0)).set 1 (I 0)).set 2 (I 0)).set 3 (I 0)).set 4 (I 0)).set 5 (I 0)).set 6 (I 0)).set 7 (I 0)).set 8 (I 0)).set 9 (I 0)).set 10 (I 0)).set 11 (I 0)).set 12 (I 0)
theorem zero13_other {W : World} {gv g : Nat} {cs : List Value} (h : Own W g cs) (hne : gv ≠ g) : Own (zero13 W gv) g cs := by
  unfold zero13
  (repeat refine Own.other ?_ hne _)
  exact h
theorem zero13_below {B : Nat} {a W : World} {gv : Nat} (h : Below B a W) (hg : B ≤ gv) : Below B a (zero13 W gv) := by
  unfold zero13
  (repeat refine Below.setCell ?_ hg _)
  exact h
def evL (l : List Int) : Bool := evMay (l.getD 0 0) (l.getD 1 0) (l.getD 2 0) (l.getD 3 0) (l.getD 4 0) (l.getD 5 0) (l.getD 6 0) (l.getD 7 0) (l.getD 8 0) (l.getD 9 0) (l.getD 10 0) (l.getD 11 0) (l.getD 12 0)
def decE (l : List Int) : Int := if l.length = 13 then (if evL l then 0 else 5) else 1
def decX (l : List Int) (k : Nat) : Int := if decE l = 0 then l.getD k 0 else 0
def decVal (l : List Int) : Value := evV (decX l 0) (decX l 1) (decX l 2) (decX l 3) (decX l 4) (decX l 5) (decX l 6) (decX l 7) (decX l 8) (decX l 9) (decX l 10) (decX l 11) (decX l 12)
def DecdP (l : List Int) (w : World) (e : Ending) (w' : World) : Prop := Grew (T2 (decVal l) (I (decE l))) w e w'
theorem DecdP.bad {l : List Int} {w w' : World} {k : Int} (h : decE l = k) (hk : k ≠ 0) (hb : Below w.heap.size w w') : DecdP l w (.returned (T2 (evV 0 0 0 0 0 0 0 0 0 0 0 0 0) (I k))) w' := by
  refine ⟨?_, hb⟩
  have : ∀ j, decX l j = 0 := fun j => by unfold decX; rw [if_neg (by rw [h]; exact hk)]
  unfold decVal
  simp only [this, h]
theorem DecdP.ok {l : List Int} {w w' : World} (h : decE l = 0) (hb : Below w.heap.size w w') : DecdP l w (.returned (T2 (evV (l.getD 0 0) (l.getD 1 0) (l.getD 2 0) (l.getD 3 0) (l.getD 4 0) (l.getD 5 0) (l.getD 6 0) (l.getD 7 0) (l.getD 8 0) (l.getD 9 0) (l.getD 10 0) (l.getD 11 0) (l.getD 12 0)) (I 0))) w' := by
  refine ⟨?_, hb⟩
  have : ∀ j, decX l j = l.getD j 0 := fun j => by unfold decX; rw [if_pos h]
  unfold decVal
  simp only [this, h]
set_option maxHeartbeats 4000000 in
theorem Decode_len (v : Value) (l : List Int) (w : World) (hS : Sl w v 1 l.length (l.map U32)) (h : l.length ≠ 13) : Calls Try.prog 72 #[v] w (DecdP l w) := by
  have HE := Lib.hid (show decE l = 1 by unfold decE; rw [if_neg h])
  obtain ⟨a, cap, rfl, hn, hl, h0, hr⟩ := hS
  have h1 : ((l.length : Int) == 13) = false := by rw [beq_eq_false_iff_ne]; omega
  have h2 : ¬ ((l.length : Nat) : Int) = 13 := by omega
  have hmf := hmf_any
  have N := Lib.hid (fun W => want_no 1 W)
  clear hl h0 hr h
  generalize l.length = n at *
  have hO := Own.new (w := w.alloc (.cells z13.toArray 72)) (g := w.heap.size + 1) (by simp) [I 0] 30
  have hV := (Own.new (w := w) rfl z13 72).alloc (.cells #[I 0] 30)
  have kk : Below w.heap.size w ((w.alloc (.cells z13.toArray 72)).alloc (.cells #[I 0] 30)) := (boxed_below w _).alloc (by simp) _
  have HO := Lib.hid hO
  have HV := Lib.hid hV
  have KK := Lib.hid kk
  clear hO hV kk
  go_enter_defers Try.func72, Try.ntmps72
  go_wp2_with fail
  refine (N.out _).mono ?_
  rintro e w1 ⟨rfl, rfl⟩
  have hO := HO.out
  have hV := HV.out
  have kk := KK.out
  have hg := hO.lt
  have cO := hO
  have cf0 := cO.f 0; have c0 := cO.c0
  clear cO
  refine leaves_cons (f := 96) (args := #[.pointer (some ⟨w.heap.size + 1, 0, none⟩), .pointer (some ⟨w.heap.size, 0, none⟩)]) (by simp) (by simp [go_sem]) ?_
  refine (dec_pan (w.heap.size + 1) w.heap.size 0 1 _ _ _ _ _ _ _ _ _ _ _ _ _ [] _ (by decide) (by omega) hV hg c0 cf0).mono ?_
  rintro e u' w'' ⟨rfl, rfl, w8, k8, rfl⟩
  rw [if_neg (by decide)]
  have hO8 := ((hO.below k8).set 0 (I 1))
  have hV8 := (hV.below k8).other (a := ⟨w.heap.size + 1, 0, none⟩) (by simp) (I 1)
  have kf := zero13_below (gv := w.heap.size) ((kk.trans (k8.mono kk.size)).setCell (p := ⟨w.heap.size + 1, 0, none⟩) (by simp) (I 1)) (Nat.le_refl _)
  have hO9 := zero13_other hO8 (show w.heap.size ≠ w.heap.size + 1 by omega)
  have hV9 := zero13_own hV8
  generalize zero13 (w8.setCell ⟨w.heap.size + 1, 0, none⟩ (I 1)) w.heap.size = w9 at *
  clear hO8 hV8 k8 c0 cf0
  have cO := hO9
  have cf0 := cO.f 0; have c0 := cO.c0
  clear cO
  have vO := hV9
  have vfA := vO.f; have v0 := vO.c0; have v1 := vO.c1; have v2 := vO.c2; have v3 := vO.c3; have v4 := vO.c4; have v5 := vO.c5; have v6 := vO.c6; have v7 := vO.c7; have v8 := vO.c8; have v9 := vO.c9; have v10 := vO.c10; have v11 := vO.c11; have v12 := vO.c12
  clear vO
  (try simp only [List.set_cons_zero] at c0)
  simp [Leaves, settle, results, Try.results72, go_sem, c0, v0, v1, v2, v3, v4, v5, v6, v7, v8, v9, v10, v11, v12]
  exact DecdP.bad HE.out (by decide) kf
end Go.Proofs.Ytenoigmkhlnfoaa
namespace Go.Proofs.Ytenoigmkhlnfoaa
set_option linter.unusedSimpArgs false
set_option linter.unusedVariables false
open Go.RowKit
set_option maxRecDepth 20000

/-- a customer, the two lists as they lie -/
structure ACust where
  meter : Int
  rev : Int
  next : Int
  month : Int
  bought : Int
  free : Int
  da : Option Addr
  dn : Nat
  dc : Nat
  sa : Option Addr
  sn : Nat
  sc : Nat
  deriving Inhabited
def ACust.cells (x : ACust) : List Value := [I x.meter, I x.rev, I x.next, I x.month, I x.bought, I x.free, .slice x.da x.dn x.dc, .slice x.sa x.sn x.sc]
theorem ACust.cells_len (x : ACust) : x.cells.length = 8 := rfl
theorem elCust {w W : World} {b off : Nat} {xs : List ACust} (hb : b < w.heap.size) (hc : ∀ j, j < (xs.flatMap ACust.cells).length → w.cell? ⟨b, off + j, none⟩ = some ((xs.flatMap ACust.cells).getD j undef)) (hbw : Below w.heap.size w W) (k : Nat) (hk : k < xs.length) :
    ∀ i, i < 8 → W.cell? ⟨b, off + k * 8 + i, none⟩ = some ((xs.getD k default).cells.getD i undef) := by
  intro i hi
  have := (hbw.cell (p := ⟨b, off + (k * 8 + i), none⟩) hb).trans (hc (k * 8 + i) (by rw [length_flat _ 8 ACust.cells_len]; exact pos_lt hk hi))
  rw [getD_flat _ 8 ACust.cells_len _ _ _ hk hi] at this
  rw [Nat.add_assoc]; exact this

/-- where a meter is found first -/
def findI (me : Int) : List Int → Nat → Int
  | [], _ => -1
  | x :: xs, k => if x = me then (k : Int) else findI me xs (k + 1)
theorem findI_hit {me : Int} : ∀ (l : List Int) (j k : Nat), k < l.length → (∀ q, q < k → l.getD q 0 ≠ me) → l.getD k 0 = me → findI me l j = ((j + k : Nat) : Int)
  | [], _, k, h, _, _ => by simp at h
  | x :: xs, j, 0, _, _, h => by simp at h; simp [findI, h]
  | x :: xs, j, k + 1, hk, hno, h => by
    have h0 : x ≠ me := by have := hno 0 (by omega); simpa using this
    rw [findI, if_neg h0, findI_hit xs (j + 1) k (by simpa using hk) (fun q hq => by have := hno (q + 1) (by omega); simpa using this) (by simpa using h)]
    congr 1; omega
theorem findI_none {me : Int} : ∀ (l : List Int) (j : Nat), (∀ q, q < l.length → l.getD q 0 ≠ me) → findI me l j = -1
  | [], _, _ => rfl
  | x :: xs, j, hno => by
    have h0 : x ≠ me := by have := hno 0 (by simp); simpa using this
    rw [findI, if_neg h0, findI_none xs (j + 1) (fun q hq => by have := hno (q + 1) (by simpa using hq); simpa using this)]
theorem findI_bd {me : Int} : ∀ (l : List Int) (j : Nat), findI me l j = -1 ∨ (0 ≤ findI me l j ∧ findI me l j < ((j + l.length : Nat) : Int))
  | [], _ => .inl rfl
  | x :: xs, j => by
    simp only [findI, List.length_cons]
    split
    · right; omega
    · rcases findI_bd (me := me) xs (j + 1) with h | h
      · exact .inl h
      · right; omega
def foundAt (xs : List ACust) (me : Int) : Int := findI me (xs.map ACust.meter) 0
theorem meter_at {xs : List ACust} {k : Nat} (hk : k < xs.length) : (xs.map ACust.meter).getD k 0 = (xs.getD k default).meter := by
  rw [List.getD_eq_getElem?_getD, List.getD_eq_getElem?_getD, List.getElem?_map, List.getElem?_eq_getElem hk]; rfl

/-- the closure: is it the meter? -/
theorem find1_any (x : ACust) (g : Nat) (me : Int) (w : World) (hg : g < w.heap.size) (hc : w.cell? ⟨g, 0, none⟩ = some (I me)) :
    Calls Try.prog 101 #[.agg x.cells.toArray, .pointer (some ⟨g, 0, none⟩)] w (Grew (.bool (x.meter == me)) w) := by
  obtain ⟨a, b, c, d, e, f, da, dn, dc, sa, sn, sc⟩ := x
  have hne : ¬ g = w.heap.size := by omega
  have hk := boxed_below w (.cells (ACust.mk a b c d e f da dn dc sa sn sc).cells.toArray 84)
  simp only [ACust.cells] at hk ⊢
  go_enter Try.func101, Try.ntmps101
  go_wp2
  go_ret
  exact Grew.intro rfl hk

set_option maxHeartbeats 1000000 in
theorem IndexCust_any (v : Value) (xs : List ACust) (g : Nat) (me : Int) (w : World) (h : Sl w v 8 xs.length (xs.flatMap ACust.cells)) (hg : g < w.heap.size) (hc : w.cell? ⟨g, 0, none⟩ = some (I me)) :
    Calls Try.prog 100 #[v, .func (.func 101) #[] #[.pointer (some ⟨g, 0, none⟩)]] w (Grew (I (foundAt xs me)) w) := by
  obtain ⟨a, cap, rfl, hn, hl, h0, hr⟩ := h
  clear hl h0
  go_enter Try.func100, Try.ntmps100
  go_wp2
  go_loopw [8] (fun i wr => ∃ k : Nat, k ≤ xs.length ∧ i = I k ∧ Hid (∀ q, q < k → (xs.map ACust.meter).getD q 0 ≠ me) ∧ Below w.heap.size w wr) (fun i _ => xs.length - (intOf i).toNat)
  case atStart => exact ⟨0, Nat.zero_le _, rfl, fun q hq => by omega, Below.refl _ _⟩
  case round =>
    obtain ⟨k, hk, rfl, hno, hb⟩ := hrel
    have hsz := hb.size
    by_cases hlt : k < xs.length
    · obtain ⟨b, off, rfl, hbl, hcell⟩ := hr.resolve_left (by omega)
      have hel := elCust hbl hcell hb k hlt
      have e0 := hel 0 (by decide)
      have e1 := hel 1 (by decide)
      have e2 := hel 2 (by decide)
      have e3 := hel 3 (by decide)
      have e4 := hel 4 (by decide)
      have e5 := hel 5 (by decide)
      have e6 := hel 6 (by decide)
      have e7 := hel 7 (by decide)
      have hit := Lib.hid (fun he => findI_hit (me := me) (xs.map ACust.meter) 0 k (by simpa using hlt) hno.out he)
      have hnx := Lib.hid (show (xs.map ACust.meter).getD k 0 ≠ me → ∀ q, q < k + 1 → (xs.map ACust.meter).getD q 0 ≠ me from fun hne q hq => by
        by_cases hqk : q = k
        · rw [hqk]; exact hne
        · exact hno.out q (by omega))
      rw [meter_at hlt] at hit hnx
      have hi0 : (0 : Int) ≤ (k : Int) := by omega
      have hi1 : (k : Int) < (xs.length : Int) := by omega
      have hcg := (hb.cell (p := ⟨g, 0, none⟩) hg).trans hc
      clear hel hr hcell
      generalize xs.getD k default = x at *
      simp only [ACust.cells, List.getD_cons_zero, List.getD_cons_succ, Nat.add_zero] at e0 e1 e2 e3 e4 e5 e6 e7
      have C := Lib.hid (find1_any x g me wr (by omega) hcg)
      by_cases hm : x.meter = me
      · have hm2 : (x.meter == me) = true := by simp [hm]
        rw [hm2] at C
        have HF := Lib.hid (hit.out hm)
        clear hm hm2 hit hnx
        go_wp2_with (go_at_call 101; refine C.out.mono ?_; rintro e w' ⟨rfl, hb2⟩; have hb := hb.trans (hb2.mono hsz))
        go_ret
        exact Grew.intro (eI (by unfold foundAt; rw [HF.out]; omega)) hb
      · have hm2 : (x.meter == me) = false := by simp [hm]
        rw [hm2] at C
        have HN := Lib.hid (hnx.out hm)
        clear hm hm2 hit hnx
        go_wp2_with (go_at_call 101; refine C.out.mono ?_; rintro e w' ⟨rfl, hb2⟩; have hb := hb.trans (hb2.mono hsz))
        exact ⟨⟨k + 1, by omega, by go_num, HN, hb⟩, by simp [intOf]; omega⟩
    · have hge : (xs.length : Int) ≤ (k : Int) := by omega
      have HF := Lib.hid (show foundAt xs me = -1 from findI_none _ 0 (fun q hq => hno.out q (by simp at hq; omega)))
      clear hno hr
      go_wp2
      go_ret
      exact Grew.intro (eI HF.out.symm) hb

def findA (xs : List ACust) (me : Int) : Int := if foundAt xs me < 0 then 0 else foundAt xs me
def findE (xs : List ACust) (me : Int) : Int := if foundAt xs me < 0 then 18 else 0
set_option maxHeartbeats 1000000 in
theorem Find_any (v : Value) (xs : List ACust) (me : Int) (w : World) (h : Sl w v 8 xs.length (xs.flatMap ACust.cells)) :
    Calls Try.prog 76 #[.agg #[v], I me] w (Grew (T2 (I (findA xs me)) (I (findE xs me))) w) := by
  have h' := h
  obtain ⟨a, cap, rfl, hn, hl, h0, hr⟩ := h
  clear hl h0 hr hn
  have hmf : ∀ (fn : Fn) (first cap : Array Value) (w : World), (Instr.makeFunc fn first cap).run Try.prog w = .ok (.func fn first cap) w := fun _ _ _ _ => rfl
  have k0 := boxed_below w (.cells #[.slice a xs.length cap] 29)
  have k1 := k0.alloc k0.size (.cells #[I me] 3)
  have C := Lib.hid (fun W hW hg hc => IndexCust_any (.slice a xs.length cap) xs (w.heap.size + 1) me W hW hg hc)
  have hS := Lib.hid (h'.below k1)
  clear h'
  rcases Classical.em (foundAt xs me < 0) with hf | hf
  · have e1 : findA xs me = 0 := by simp [findA, hf]
    have e2 : findE xs me = 18 := by simp [findE, hf]
    rw [e1, e2]
    clear e1 e2
    generalize foundAt xs me = f at *
    go_enter Try.func76, Try.ntmps76
    go_wp2_with fail
    refine (C.out _ hS.out (by simp) (by simp)).mono ?_
    rintro e w2 ⟨rfl, k2⟩
    have k := k1.trans (k2.mono k1.size)
    clear hS C k2
    go_wp2
    go_ret2
    exact Grew.intro rfl k
  · have e1 : findA xs me = foundAt xs me := by simp [findA, hf]
    have e2 : findE xs me = 0 := by simp [findE, hf]
    rw [e1, e2]
    clear e1 e2
    generalize foundAt xs me = f at *
    go_enter Try.func76, Try.ntmps76
    go_wp2_with fail
    refine (C.out _ hS.out (by simp) (by simp)).mono ?_
    rintro e w2 ⟨rfl, k2⟩
    have k := k1.trans (k2.mono k1.size)
    clear hS C k2
    go_wp2
    go_ret2
    exact Grew.intro rfl k

set_option maxHeartbeats 1000000 in
theorem Found_any (v : Value) (xs : List ACust) (me : Int) (w : World) (h : Sl w v 8 xs.length (xs.flatMap ACust.cells)) :
    Calls Try.prog 34 #[.agg #[v], I me] w (Grew (I (foundAt xs me)) w) := by
  obtain ⟨a, cap, rfl, hn, hl, h0, hr⟩ := h
  clear hl h0
  have k0 := boxed_below w (.cells #[.slice a xs.length cap] 29)
  go_enter Try.func34, Try.ntmps34
  go_wp2
  go_loop [5] (fun i => ∃ k : Nat, k ≤ xs.length ∧ i = I k ∧ Hid (∀ q, q < k → (xs.map ACust.meter).getD q 0 ≠ me)) (fun i => xs.length - (intOf i).toNat)
  case atStart => exact ⟨0, Nat.zero_le _, rfl, fun q hq => by omega⟩
  case round =>
    obtain ⟨k, hk, rfl, hno⟩ := hrel
    by_cases hlt : k < xs.length
    · obtain ⟨b, off, rfl, hbl, hcell⟩ := hr.resolve_left (by omega)
      have e0 := elCust hbl hcell k0 k hlt 0 (by decide)
      have hit := Lib.hid (fun he => findI_hit (me := me) (xs.map ACust.meter) 0 k (by simpa using hlt) hno.out he)
      have hnx := Lib.hid (show (xs.map ACust.meter).getD k 0 ≠ me → ∀ q, q < k + 1 → (xs.map ACust.meter).getD q 0 ≠ me from fun hne q hq => by
        by_cases hqk : q = k
        · rw [hqk]; exact hne
        · exact hno.out q (by omega))
      rw [meter_at hlt] at hit hnx
      have hi0 : (0 : Int) ≤ (k : Int) := by omega
      have hi1 : (k : Int) < (xs.length : Int) := by omega
      clear hr hcell
      generalize xs.getD k default = x at *
      simp only [ACust.cells, List.getD_cons_zero, Nat.add_zero] at e0
      generalize x.meter = xm at *
      by_cases hm : xm = me
      · have hm2 : (xm == me) = true := by simp [hm]
        have HF := Lib.hid (hit.out hm)
        clear hm hit hnx
        go_wp2
        go_ret
        exact Grew.intro (eI (by unfold foundAt; rw [HF.out]; omega)) k0
      · have hm2 : (xm == me) = false := by simp [hm]
        have HN := Lib.hid (hnx.out hm)
        clear hm hit hnx
        go_wp2
        go_round
        case rel => first | exact ⟨k + 1, by omega, by go_num, HN⟩ | (refine ⟨rfl, ?_⟩; (repeat apply Exists.intro); refine ⟨?_, rfl⟩; exact ⟨k + 1, by omega, by go_num, HN⟩) | (refine ⟨trivial, ?_⟩; (repeat apply Exists.intro); refine ⟨?_, rfl⟩; exact ⟨k + 1, by omega, by go_num, HN⟩) | ((repeat apply Exists.intro); refine ⟨?_, rfl⟩; exact ⟨k + 1, by omega, by go_num, HN⟩)
        case measure => (simp [intOf]; omega)
    · have hge : (xs.length : Int) ≤ (k : Int) := by omega
      have HF := Lib.hid (show foundAt xs me = -1 from findI_none _ 0 (fun q hq => hno.out q (by simp at hq; omega)))
      clear hno hr
      go_wp2
      go_ret
      exact Grew.intro (eI HF.out.symm) k0
end Go.Proofs.Ytenoigmkhlnfoaa
