/- pocket.Make and its reference -/
import Derived.Test.YtenoigmkhlnfoaaMeterBegin
import Derived.Test.YtenoigmkhlnfoaaMeterWords
import Derived.Test.YtenoigmkhlnfoaaSlotFresh
import Derived.Laws.CopyOwn
import Derived.Test.YtenoigmkhlnfoaaFar
namespace Go.Proofs.Ytenoigmkhlnfoaa
set_option linter.unusedSimpArgs false
set_option linter.unusedVariables false
open Go.RowKit
set_option maxRecDepth 20000

def makeL (me : Int) : List Int := if inB me 0 49 then [1, 0, me, 0, 0, 0, 0, 0, 0, 0, 0, 0] else []
/-- .. and its cells nowhere below what was there -/
def GrewSlF (sz n : Nat) (cs : List Value) (k : Int) (w : World) (e : Ending) (w' : World) : Prop := ∃ v, e = .returned (T2 v (I k)) ∧ Sl w' v sz n cs ∧ Below w.heap.size w w' ∧ FarB w.heap.size v
def makeE (me : Int) : Int := if inB me 0 49 then 0 else 2
theorem Fresh5_any (w : World) : Calls Try.prog 69 #[I 5] w fun e w' => ∃ v, e = .returned (T2 v (I 0)) ∧ w'.ownsRow w.heap.size 103 1 v 12 (U32 1 :: List.replicate 11 (U32 0)) ∧ Below w.heap.size w w' := by
  obtain ⟨i0, hi, hz0, hz1, hz2⟩ := info_parts infoU32
  go_enter Try.func69, Try.ntmps69
  go_wp2_with (refine wpList_make_full _ rfl (.tmp 13) (.tmp 13) 37 rfl w.heap.size 103 i0 (.int .u32 0) 1 Try.underlying37 hi hz0 hz1 .i64 .i64 _ _ 12 rfl rfl rfl rfl (by rw [hz2]; omega) (by unfold maxLen; omega) (Nat.le_refl _) ?_; intro w' hown hgrow; have hbel := Below.grown (B := w.heap.size) (Below.refl _ w) hgrow (Nat.le_refl _) (fun k hk => by cases hk); have hown1 := made_int hown; have hown2 := Lib.hid hown1; have hc0 : w'.cell? ⟨w.heap.size, 0, none⟩ = some (U32 0) := (hown1.cellAt 0 (by omega)).trans (by simp); have hf0 := hown1.frozenAt 0; clear hown hown1 hgrow)
  go_ret2
  have hst := (hown2.out.stored 0 (U32 1)).1
  refine ⟨_, rfl, ?_, hbel.setCell (Nat.le_refl _) _⟩
  simpa [List.replicate_succ] using hst
set_option maxHeartbeats 2000000 in
theorem PocketMade_f (me : Int) (w : World) : Calls Try.prog 45 #[I me] w (GrewSlF 1 (makeL me).length ((makeL me).map U32) (makeE me) w) := by
  cases hi : inB me 0 49
  · have e1 : makeL me = [] := by simp [makeL, hi]
    have e2 : makeE me = 2 := by simp [makeE, hi]
    rw [e1, e2]
    clear e1 e2
    go_enter Try.func45, Try.ntmps45
    go_wp2_with (go_at_call 43; refine (In_any _ _ _ _).mono ?_; rintro e w' ⟨rfl, rfl⟩)
    go_ret2
    exact ⟨_, rfl, Sl.nil _ _, Below.refl _ _, FarB.nil _ _ _⟩
  · have e1 : makeL me = [1, 0, me, 0, 0, 0, 0, 0, 0, 0, 0, 0] := by simp [makeL, hi]
    have e2 : makeE me = 0 := by simp [makeE, hi]
    obtain ⟨a, b⟩ := inB_true.1 hi
    rw [e1, e2]
    clear e1 e2
    have hw : IntKind.u32.wrap me = me := by rw [IntKind.wrap_u32]; omega
    go_enter Try.func45, Try.ntmps45
    go_wp2_with (go_at_call 43; refine (In_any _ _ _ _).mono ?_; rintro e w' ⟨rfl, rfl⟩)
    go_ret2
    exact ⟨_, rfl, Sl.of_owns (owns_lit w [U32 1, U32 0, U32 me, U32 0, U32 0, U32 0, U32 0, U32 0, U32 0, U32 0, U32 0, U32 0] 103 1 12 rfl (by unfold maxLen; omega)) (by omega), (Below.refl _ _).alloc (Nat.le_refl _) _, FarB.lit (Nat.le_refl _)⟩
theorem words_me {me : Int} (h : inB me 0 49 = true) : wordsL ⟨me, 0, 0, 0, 0, 0, 0⟩ = [0, me, 0, 0, 0] ∧ wordsE ⟨me, 0, 0, 0, 0, 0, 0⟩ = 0 := by
  have hok : (MM.mk me 0 0 0 0 0 0).ok = true := (beg_may me).trans h
  refine ⟨?_, by rw [wordsE, if_pos hok]⟩
  rw [wordsL, if_pos hok]
  have e1 : flagsM me 0 0 0 = me := by unfold flagsM; omega
  show [0, flagsM me 0 0 0, 0, ((0 : Nat) : Int) % 4294967296, ((0 : Nat) : Int) / 4294967296] = _
  rw [e1]; rfl
set_option maxHeartbeats 2000000 in
theorem Make_f (me : Int) (w : World) : Calls Try.prog 41 #[I me] w (GrewSlF 1 (makeL me).length ((makeL me).map U32) (makeE me) w) := by
  have B := Lib.hid (fun W => Begin_any me W)
  cases hi : inB me 0 49
  · have e1 : makeL me = [] := by simp [makeL, hi]
    have e2 : makeE me = 2 := by simp [makeE, hi]
    rw [show begE me = 2 by simp [begE, hi], show begA me = 0 by simp [begA, hi]] at B
    rw [e1, e2]
    clear e1 e2 hi
    go_enter Try.func41, Try.ntmps41
    go_wp2_with fail
    refine (B.out _).mono ?_
    rintro e w1 ⟨rfl, k1⟩
    go_wp2
    go_ret2
    exact ⟨_, rfl, Sl.nil _ _, below_auto, FarB.nil _ _ _⟩
  · have e1 : makeL me = [1, 0, me, 0, 0, 0, 0, 0, 0, 0, 0, 0] := by simp [makeL, hi]
    have e2 : makeE me = 0 := by simp [makeE, hi]
    obtain ⟨q1, q2⟩ := words_me hi
    have M := Lib.hid (fun W => WordsM_any ⟨me, 0, 0, 0, 0, 0, 0⟩ W (show (0 : Nat) < 18446744073709551616 by decide))
    rw [q1, q2] at M
    rw [show begE me = 0 by simp [begE, hi], show begA me = me by simp [begA, hi]] at B
    rw [e1, e2]
    clear e1 e2 hi q1 q2
    go_enter Try.func41, Try.ntmps41
    go_wp2_with fail
    refine (B.out _).mono ?_
    rintro e w1 ⟨rfl, k1⟩
    have kb := boxed_below w1 (.cells #[I me, I 0, I 0, I 0, .int .u64 0, I 0, I 0] 132)
    have k2 := k1.trans (kb.mono k1.size)
    clear k1 kb
    go_wp2_with fail
    refine (M.out _).mono ?_
    rintro e w3 ⟨v3, rfl, s3, k3⟩
    have k4 := k2.trans (k3.mono k2.size)
    clear k2 k3
    go_wp2_with fail
    refine (Fresh5_any _).mono ?_
    rintro e w5 ⟨v5, rfl, h5, k5⟩
    have s5 := s3.below k5
    have k6 := k4.trans (k5.mono k4.size)
    have hs4 := k4.size
    clear s3 k4 k5
    obtain ⟨-, hown⟩ := h5
    obtain ⟨g, cap, cur, rfl, hb, hg, hc, hm, hsz, ht⟩ := hown.resolve_left (by simp)
    obtain ⟨a3, cap3, rfl, -, -, -, hr3⟩ := id s5
    obtain ⟨b3, o3, rfl, hb3, hc3⟩ := hr3.resolve_left (by simp)
    have hN := Lib.hid s5.news
    have hcap1 : ¬ 1 = cap := by omega
    have hg' : w5.heap[g]? = some (.cells cur.toList.toArray 103 (0, 0)) := by rw [Array.toArray_toList]; exact hg
    obtain ⟨rest, hrest⟩ : ∃ rest, cur.toList = [U32 1, U32 0, U32 0, U32 0, U32 0, U32 0, U32 0, U32 0, U32 0, U32 0, U32 0, U32 0] ++ rest := ⟨cur.toList.drop 12, by rw [← List.take_append_drop 12 cur.toList, show cur.toList.take 12 = _ from ht]; simp⟩
    have hlen : 6 ≤ cur.toList.length := by rw [Array.length_toList]; omega
    have HG := Lib.hid hg'
    have HRT := Lib.hid hrest
    have hu32 : (Try.prog.info? 103).map (·.size) = some 1 := by kernel_rfl
    clear hg hg' hrest ht hown s5 hc3 hr3
    have CP := fun (ops : Array Oper) (rest : List Oper) (o : Oper) (a : Act) (Q : Exit → Act → World → Prop) hgd d s ho hd hs h => wpList_copy_splice (P := Try.prog) (w := w5) (ops := ops) (rest := rest) (o := o) (a := a) (Q := Q) hgd d s 37 37 ho 103 Try.underlying37 hu32 (some ⟨g, 1, none⟩) (some ⟨b3, o3, none⟩) 11 (cap - 1) 5 cap3 hd hs g 1 cur.toList 103 HG.out [U32 0, U32 me, U32 0, U32 0, U32 0] rfl (fun _ => ⟨rfl, _, rfl, fun j v h => hN.out j v h⟩) hlen (by simp [Value.oneCell']) w.heap.size w k6 (by omega) h
    have CPH := Lib.hid CP
    clear CP
    go_wp2_with (refine CPH.out _ _ _ _ _ rfl _ _ rfl rfl rfl ?_; intro w6 hg6 k7)
    go_ret2
    have hg7 := hg6.out
    have hlt := (Array.getElem?_eq_some_iff.1 hg7).1
    refine ⟨_, rfl, ⟨some ⟨g, 0, none⟩, cap, rfl, ⟨by omega, by omega⟩, rfl, (fun h => by cases h), .inr ⟨g, 0, rfl, hlt, fun j hj => ?_⟩⟩, k7, FarB.lit (by omega)⟩
    rw [Nat.zero_add, cell_of_cells hg7, HRT.out]
    have hj' : j < 12 := hj
    have e : splice ([U32 1, U32 0, U32 0, U32 0, U32 0, U32 0, U32 0, U32 0, U32 0, U32 0, U32 0, U32 0] ++ rest) 1 [U32 0, U32 me, U32 0, U32 0, U32 0] = [U32 1, U32 0, U32 me, U32 0, U32 0, U32 0, U32 0, U32 0, U32 0, U32 0, U32 0, U32 0] ++ rest := rfl
    rw [e, List.getElem?_toArray, List.getElem?_append_left (by exact hj')]
    show _ = some (([U32 1, U32 0, U32 me, U32 0, U32 0, U32 0, U32 0, U32 0, U32 0, U32 0, U32 0, U32 0] : List Value).getD j undef)
    rw [List.getD_eq_getElem?_getD, List.getElem?_eq_getElem (by exact hj')]
    rfl
end Go.Proofs.Ytenoigmkhlnfoaa
