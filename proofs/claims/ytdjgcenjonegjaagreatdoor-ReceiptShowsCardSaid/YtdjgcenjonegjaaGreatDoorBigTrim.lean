/- great numbers: trim, twin, words, plain -/
import Derived.Test.YtdjgcenjonegjaaGreatDoorPk09
import Derived.Test.YtdjgcenjonegjaaGreatDoorOwn
import Derived.Test.YtdjgcenjonegjaaGreatDoorApi
set_option maxRecDepth 20000
set_option maxHeartbeats 8000000
set_option linter.unusedSimpArgs false
set_option linter.unusedVariables false
namespace Go.Proofs.YtdjgcenjonegjaaGreatDoor
open Go.RowKit
theorem infoWd : (Tryz.prog.info? 84).map (fun i => (i.zero, i.size, i.bytes)) = some (some (.int .u32 0), 1, 4) := by kernel_rfl
theorem wcells_at {l : List Nat} {k : Nat} (h : k < l.length) : (wcells l).getD k undef = U32 ((l.getD k 0 : Nat) : Int) := by
  unfold wcells; rw [List.getD_eq_getElem?_getD, List.getElem?_map, List.getD_eq_getElem?_getD, List.getElem?_eq_getElem h]; rfl
theorem Sl.cut {w : World} {a : Option Addr} {n cap q : Nat} {l : List Nat} (h : Sl w (.slice a n cap) 1 n (wcells l)) (hq : q ≤ n) (hl : l.length = n) : Sl w (.slice a q cap) 1 q (wcells (l.take q)) := by
  obtain ⟨a', cap', hv, ⟨h1, h2⟩, h3, h4, h5⟩ := h; simp only [Value.slice.injEq] at hv; obtain ⟨rfl, _, rfl⟩ := hv; have hlen : (l.take q).length = q := by rw [List.length_take]; omega
  refine ⟨a, cap, rfl, ⟨by omega, by omega⟩, by rw [wcells_len, hlen]; omega, (fun ha => ⟨by have := (h4 ha).1; omega, (h4 ha).2⟩), ?_⟩; rcases h5 with h5 | ⟨b, off, hb, hlt, hc⟩
  · exact .inl (by omega)
  · refine .inr ⟨b, off, hb, hlt, fun j hj => ?_⟩
    rw [wcells_len, hlen] at hj; rw [hc j (by rw [wcells_len]; omega), wcells_at (by omega), wcells_at (by omega)]; rw [List.getD_eq_getElem?_getD (l := l.take q), List.getElem?_take, if_pos hj, ← List.getD_eq_getElem?_getD]

/-- trim: noughts at the end cut off -/
theorem trim_any (v : Value) (l : List Nat) (w : World) (h : Sl w v 1 l.length (wcells l)) (hw : allW l) :
    Calls Tryz.prog 135 #[v] w (fun e w' => ∃ v', e = .returned v' ∧ Abs w v' (val l) ∧ w = w') := by
  have hS := h; obtain ⟨a, cap, rfl, hn, hl, h0, hr⟩ := h; clear hl h0; go_enter Tryz.func135, Tryz.ntmps135; go_wp2
  go_loop [3] (fun i => ∃ q : Nat, q ≤ l.length ∧ i = I q ∧ Hid (val (l.take q) = val l)) (fun i => (intOf i).toNat)
  case atStart => exact ⟨l.length, Nat.le_refl _, rfl, by unfold Hid; rw [List.take_of_length_le (Nat.le_refl _)]⟩
  case round =>
    obtain ⟨q, hq, rfl, hv⟩ := hrel; cases q with
    | zero =>
      have hA : Hid (Abs w (.slice a 0 cap) (val l)) := ⟨_, by have := hS.cut (Nat.zero_le _) rfl; simpa using this, can_take hw (Nat.zero_le _) hv.out (fun k hk => by omega)⟩; clear hS hr hv; go_wp2; go_ret; exact ⟨_, rfl, hA, rfl⟩
    | succ q =>
      obtain ⟨b, off, rfl, hb, hcell⟩ := hr.resolve_left (by omega); have e0 := hcell q (by rw [wcells_len]; omega); rw [wcells_at (by omega)] at e0; have hi0 : (0 : Int) ≤ (q : Int) := by omega
      have hi1 : (q : Int) < (l.length : Int) := by omega
      have hnx := Lib.hid (show l.getD q 0 = 0 → val (l.take q) = val l from fun h0 => by rw [← val_take (by omega) h0]; exact hv.out)
      have hst := Lib.hid (show l.getD q 0 ≠ 0 → Abs w (.slice (some ⟨b, off, none⟩) (q + 1) cap) (val l) from fun h0 =>
        ⟨_, by have := hS.cut hq rfl; rw [show (l.take (q + 1)).length = q + 1 by rw [List.length_take]; omega]; exact this, can_take hw hq hv.out (fun k hk => by rw [show k = q by omega]; exact h0)⟩)
      clear hr hcell hv hS; generalize l.getD q 0 = x at *
      by_cases hx : x = 0
      · have H := Lib.hid (hnx.out hx)
        have hx2 : (((x : Nat) : Int) == 0) = true := by simp [hx]
        clear hnx hst hx; go_wp2
        go_round
        case rel => first | exact ⟨q, by omega, by go_num, H⟩ | (refine ⟨rfl, ?_⟩; (repeat apply Exists.intro); refine ⟨?_, rfl⟩; exact ⟨q, by omega, by go_num, H⟩) | (refine ⟨trivial, ?_⟩; (repeat apply Exists.intro); refine ⟨?_, rfl⟩; exact ⟨q, by omega, by go_num, H⟩) | ((repeat apply Exists.intro); refine ⟨?_, rfl⟩; exact ⟨q, by omega, by go_num, H⟩)
        case measure => (simp [intOf]; try omega)
      · have H := Lib.hid (hst.out hx)
        have hx2 : (((x : Nat) : Int) == 0) = false := by simp; omega
        have hc1 : q + 1 ≤ cap := by omega
        clear hnx hst hx; go_wp2; go_ret; exact ⟨_, rfl, H.out, rfl⟩

/-- words: a number of 64 bits -/
theorem words_big (x : Nat) (w : World) (hx : x < 18446744073709551616) : Calls Tryz.prog 136 #[.int .u64 x] w (GrewAbs x w) := by
  have T := Lib.hid (fun v W hW => trim_any v [x % 4294967296, x / 4294967296] W hW (by intro d hd; simp at hd; omega)); have hval : val [x % 4294967296, x / 4294967296] = x := by simp only [val]; omega
  rw [hval] at T; have e1 : ((x : Int)) % 4294967296 = ((x % 4294967296 : Nat) : Int) := by omega
  have e2 : ((x : Int)) / 4294967296 = ((x / 4294967296 : Nat) : Int) := by omega
  have HS : Hid (Sl (w.alloc (.cells #[U32 ((x : Int) % 4294967296), U32 ((x : Int) / 4294967296)] 84)) (.slice (some ⟨w.heap.size, 0, none⟩) 2 2) 1 2 (wcells [x % 4294967296, x / 4294967296])) := by
    rw [e1, e2]; exact Sl.of_owns (owns_lit w (wcells [x % 4294967296, x / 4294967296]) 84 1 2 rfl (by unfold maxLen; omega)) (by omega)
  have k := boxed_below w (.cells #[U32 ((x : Int) % 4294967296), U32 ((x : Int) / 4294967296)] 84); clear hval e1 e2; go_enter Tryz.func136, Tryz.ntmps136
  go_wp2_with fail
  refine (T.out _ _ HS.out).mono ?_; rintro e w1 ⟨v, rfl, hA, rfl⟩; go_wp2; go_ret; exact ⟨_, rfl, hA, k⟩

/-- twin: a copy -/
theorem twin_any (v : Value) (n : Nat) (w : World) (h : Abs w v n) (hn : n < 4294967296 ^ 250) : Calls Tryz.prog 140 #[v] w (GrewAbs n w) := by
  obtain ⟨l, h, hC⟩ := h; have hlen := can_len hC hn; obtain ⟨i0, hi, hz0, hz1, hz2⟩ := info_parts infoWd; have h' := h; obtain ⟨a, cap, rfl, hn, hl, h0, h⟩ := h; cases a with
  | none =>
    obtain ⟨hn0, rfl⟩ := h0 rfl; obtain rfl : l = [] := List.length_eq_zero_iff.1 hn0; clear h h' h0 hl; go_enter Tryz.func140, Tryz.ntmps140
    go_wp2_with fail
    go_ret; exact ⟨_, rfl, ⟨[], Sl.nil _ _, hC⟩, Below.refl _ _⟩
  | some ad =>
    have hnews := Lib.hid h'.news; have hone : oneCells (wcells l) := oneCells_map (fun _ => rfl) _; clear h h' h0; have Hl := Lib.hid hl; clear hl; have c3 : 0 + l.length ≤ maxLen := by unfold maxLen; omega
    have c4 := Lib.hid (show (0 + l.length) * 4 ≤ 140737488355328 by omega); go_enter Tryz.func140, Tryz.ntmps140
    go_wp2_with (at_builtin; refine wpList_append_own _ rfl _ _ 102 rfl w.heap.size 84 i0 (.int .u32 0) 1 4 Tryz.underlying102 hi hz0 hz1 hz2 rfl (by decide) _ 0 [] rfl (World.ownsRow_nil _ _ _ _) ad _ _ (wcells l) rfl Hl.out hnews.out hone c3 c4.out (Nat.le_refl _) ?_; intro v' w1 hown' hgrow _)
    have hbel := Below.grown (B := w.heap.size) (Below.refl _ w) hgrow (Nat.le_refl _) (fun k hk => absurd (show (none : Option Nat) = some k from hk) (by simp)); rw [Nat.zero_add, List.nil_append] at hown'; have hS := Sl.of_owns hown' hn.1; clear hown' hgrow; go_wp2; go_ret; exact ⟨_, rfl, ⟨l, hS, hC⟩, hbel⟩
end Go.Proofs.YtdjgcenjonegjaaGreatDoor
