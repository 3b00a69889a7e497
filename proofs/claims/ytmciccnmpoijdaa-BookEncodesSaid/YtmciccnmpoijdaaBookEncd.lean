/- ref.Encoded -/
import Derived.Test.YtmciccnmpoijdaaEventMay
namespace Go.Proofs.Ytmciccnmpoijdaa
open Go Go.RowKit
set_option maxRecDepth 20000

variable (ki me mo id te de fe pr ch un ta ow bp : Int)
theorem Encoded_no (w : World) (hb : evMay ki me mo id te de fe pr ch un ta ow bp = false) : Calls Try.prog 12 #[evV ki me mo id te de fe pr ch un ta ow bp] w (EncP false [ki, me, mo, id, te, de, fe, pr, ch, un, ta, ow, bp] w) := by
  have M := Lib.hid (fun W => EventMay_any ki me mo id te de fe pr ch un ta ow bp W)
  rw [hb] at M
  clear hb
  go_enter Try.func12, Try.ntmps12
  go_wp2_with fail
  refine (M.out _).mono ?_
  rintro e w1 ⟨rfl, k1⟩
  have kk := below_box k1
  clear k1 M
  go_wp2
  go_ret2
  exact ⟨_, rfl, Sl.nil _ _, kk⟩
set_option maxHeartbeats 4000000 in
theorem Encoded_yes (w : World) (hb : evMay ki me mo id te de fe pr ch un ta ow bp = true)
    (hl : ∀ k, k < 13 → 0 ≤ [ki, me, mo, id, te, de, fe, pr, ch, un, ta, ow, bp].getD k 0 ∧ [ki, me, mo, id, te, de, fe, pr, ch, un, ta, ow, bp].getD k 0 < 4294967296) :
    Calls Try.prog 12 #[evV ki me mo id te de fe pr ch un ta ow bp] w (EncP true [ki, me, mo, id, te, de, fe, pr, ch, un, ta, ow, bp] w) := by
  have M := Lib.hid (fun W => EventMay_any ki me mo id te de fe pr ch un ta ow bp W)
  rw [hb] at M
  have HL := Lib.hid hl
  obtain ⟨i0, hi, hz0, hz1, hz2⟩ := info_parts infoU32
  clear hb hl
  go_enter Try.func12, Try.ntmps12
  go_wp2_with fail
  refine (M.out _).mono ?_
  rintro e w1 ⟨rfl, k1⟩
  have hV := (Own.new (w := w) rfl [I ki, I me, I mo, I id, I te, I de, I fe, I pr, I ch, I un, I ta, I ow, I bp] 43).below k1
  have kk := below_box k1
  have hvl := hV.lt
  have hvn : ¬ w.heap.size = w1.heap.size := by omega
  have hvn2 : ¬ w1.heap.size = w.heap.size := by omega
  have vO := hV
  have v0 := vO.cell 0 (by simp)
  have vf0 := vO.frozen 0
  have v1 := vO.cell 1 (by simp)
  have vf1 := vO.frozen 1
  have v2 := vO.cell 2 (by simp)
  have vf2 := vO.frozen 2
  have v3 := vO.cell 3 (by simp)
  have vf3 := vO.frozen 3
  have v4 := vO.cell 4 (by simp)
  have vf4 := vO.frozen 4
  have v5 := vO.cell 5 (by simp)
  have vf5 := vO.frozen 5
  have v6 := vO.cell 6 (by simp)
  have vf6 := vO.frozen 6
  have v7 := vO.cell 7 (by simp)
  have vf7 := vO.frozen 7
  have v8 := vO.cell 8 (by simp)
  have vf8 := vO.frozen 8
  have v9 := vO.cell 9 (by simp)
  have vf9 := vO.frozen 9
  have v10 := vO.cell 10 (by simp)
  have vf10 := vO.frozen 10
  have v11 := vO.cell 11 (by simp)
  have vf11 := vO.frozen 11
  have v12 := vO.cell 12 (by simp)
  have vf12 := vO.frozen 12
  simp only [Nat.zero_add, List.getD_cons_zero, List.getD_cons_succ] at v0 v1 v2 v3 v4 v5 v6 v7 v8 v9 v10 v11 v12
  clear vO
  clear M k1 hV
  go_wp2
  clear v0 v1 v2 v3 v4 v5 v6 v7 v8 v9 v10 v11 v12 vf0 vf1 vf2 vf3 vf4 vf5 vf6 vf7 vf8 vf9 vf10 vf11 vf12
  have HO := Lib.hid (Own.new (w := w1.alloc (.cells #[I id, I te, I de, I fe, I pr, I ch, I un] 39)) (g := w1.heap.size + 1) (by simp) [I ki, I me, I mo, I id, I te, I de, I fe, I pr, I ch, I un, I ta, I ow, I bp] 3)
  have HK : Hid (Below w.heap.size w ((w1.alloc (.cells #[I id, I te, I de, I fe, I pr, I ch, I un] 39)).alloc (.cells #[I ki, I me, I mo, I id, I te, I de, I fe, I pr, I ch, I un, I ta, I ow, I bp] 3))) := (kk.alloc kk.size _).alloc (by simp; omega) _
  have HLen : Hid ([ki, me, mo, id, te, de, fe, pr, ch, un, ta, ow, bp].length = 13) := rfl
  generalize (w1.alloc (.cells #[I id, I te, I de, I fe, I pr, I ch, I un] 39)).alloc (.cells #[I ki, I me, I mo, I id, I te, I de, I fe, I pr, I ch, I un, I ta, I ow, I bp] 3) = w2 at *
  have HV' : Hid (∀ W, Below w2.heap.size w2 W → ∀ k, k < 13 → W.cell? ⟨w1.heap.size + 1, k, none⟩ = some (I ([ki, me, mo, id, te, de, fe, pr, ch, un, ta, ow, bp].getD k 0))) := Lib.hid fun W hW k hk => by
    have h := (HO.out.below hW).cell k (by simpa using hk)
    rw [Nat.zero_add] at h
    rw [h]
    match k, hk with
    | 0, _ => rfl
    | 1, _ => rfl
    | 2, _ => rfl
    | 3, _ => rfl
    | 4, _ => rfl
    | 5, _ => rfl
    | 6, _ => rfl
    | 7, _ => rfl
    | 8, _ => rfl
    | 9, _ => rfl
    | 10, _ => rfl
    | 11, _ => rfl
    | 12, _ => rfl
  generalize [ki, me, mo, id, te, de, fe, pr, ch, un, ta, ow, bp] = l at *
  clear HO kk
  go_loopw [6, 7] (fun v i wr => ∃ k : Nat, k ≤ 13 ∧ i = I k ∧ Hid (EncRel w2 (l.take k) v wr)) (fun _ i _ => 13 - (intOf i).toNat)
  case atStart => exact ⟨0, by decide, rfl, World.ownsRow_nil _ _ _ _, Below.refl _ _⟩
  case round =>
    obtain ⟨k, hk, rfl, hD⟩ := hrel
    obtain ⟨hown, hbw⟩ := hD.out
    by_cases hlt : k < 13
    · have hcell := HV'.out wr hbw k hlt
      obtain ⟨x0, x1⟩ := HL.out k hlt
      have hsn := Lib.hid (show l.take (k + 1) = l.take k ++ [l.getD k 0] by
        rw [List.take_succ_eq_append_getElem (by rw [HLen.out]; exact hlt)]
        rw [List.getD_eq_getElem?_getD, List.getElem?_eq_getElem (by rw [HLen.out]; exact hlt)]
        rfl)
      have hlen : (l.take k).length = k := by rw [List.length_take, HLen.out]; omega
      generalize l.getD k 0 = x at *
      have hwx : IntKind.u32.wrap x = x := by show x % 4294967296 = x; omega
      have hsz := hbw.size
      have hsk : (k : Int) < 13 := by omega
      go_wp2_with (first | (at_builtin; refine wpList_append_own _ rfl _ _ 44 rfl w2.heap.size 75 i0 (.int .u32 0) 1 4 Try.underlying44 hi hz0 hz1 hz2 rfl (by decide) _ _ _ rfl (hown.alloc _) ⟨wr.heap.size, 0, none⟩ 1 1 [U32 x] rfl rfl (news_lit _ [U32 x] _) (oneCells_lit rfl) (by unfold maxLen; omega) (by omega) (by simp; omega) ?_; intro v' w1 hown' hgrow _))
      have hbel := grown_below (hbw.alloc hsz _) (hown.alloc _) (Nat.le_refl _) hgrow
      rw [hlen] at hown'
      have hD' : Hid (EncRel w2 (l.take (k + 1)) v' w1) := by
        refine ⟨?_, hbel⟩
        rw [hsn.out, List.map_append, List.length_append, hlen]
        exact hown'
      clear hown hown' hgrow hbel hbw hD
      go_wp2
      exact ⟨⟨k + 1, by omega, by go_num, hD'⟩, by simp [intOf]; try omega⟩
    · obtain rfl : k = 13 := by omega
      have htk : l.take 13 = l := List.take_of_length_le (by rw [HLen.out]; omega)
      have hS := Sl.of_owns hown (by rw [htk, HLen.out]; omega)
      rw [htk] at hS
      have kw := HK.out.trans (hbw.mono HK.out.size)
      clear hown hbw hD
      go_wp2
      go_ret2
      exact ⟨_, rfl, hS, kw⟩
theorem Encoded_any (w : World) : Calls Try.prog 12 #[evV ki me mo id te de fe pr ch un ta ow bp] w (EncP (evMay ki me mo id te de fe pr ch un ta ow bp) [ki, me, mo, id, te, de, fe, pr, ch, un, ta, ow, bp] w) := by
  cases hb : evMay ki me mo id te de fe pr ch un ta ow bp
  · exact Encoded_no ki me mo id te de fe pr ch un ta ow bp w hb
  · exact Encoded_yes ki me mo id te de fe pr ch un ta ow bp w hb (evMay_words ki me mo id te de fe pr ch un ta ow bp hb)
end Go.Proofs.Ytmciccnmpoijdaa
