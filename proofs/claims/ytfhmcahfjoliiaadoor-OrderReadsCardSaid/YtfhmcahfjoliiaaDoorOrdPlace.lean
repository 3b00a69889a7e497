/- order.places: where the numbers of an order lie -/
import Derived.Test.YtfhmcahfjoliiaaDoorOrdForm
import Derived.Test.YtfhmcahfjoliiaaDoorFar
import Derived.Maps.AppendAt
namespace Go.Proofs.YtfhmcahfjoliiaaDoor
set_option linter.unusedSimpArgs false
set_option linter.unusedVariables false
open Go Go.RowKit
set_option maxRecDepth 20000

theorem infoPtrI : (Tryd.prog.info? 40).map (fun i => (i.zero, i.size, i.bytes)) = some (some (.pointer none), 1, 8) := by kernel_rfl
theorem idx3 (A B C : Bool) (w : World) : (Instr.index 54 (.agg #[.bool A, .bool B, .bool C]) (I 0)).run Tryd.prog w = .ok (.bool A) w ∧ (Instr.index 54 (.agg #[.bool A, .bool B, .bool C]) (I 1)).run Tryd.prog w = .ok (.bool B) w ∧ (Instr.index 54 (.agg #[.bool A, .bool B, .bool C]) (I 2)).run Tryd.prog w = .ok (.bool C) w := by
  refine ⟨?_, ?_, ?_⟩ <;> rfl
def flg (A B C : Bool) (k : Nat) : Bool := if k = 0 then A else if k = 1 then B else C
/-- the numbers' fields: the meter's, and of the first k of three those that the form has -/
def offs (A B C : Bool) : Nat → List Nat
  | 0 => [1]
  | k + 1 => offs A B C k ++ (if flg A B C k = true then [k + 2] else [])
theorem offs_len (A B C : Bool) : ∀ k, (offs A B C k).length ≤ k + 1
  | 0 => by simp [offs]
  | k + 1 => by
    have := offs_len A B C k
    unfold offs
    split <;> simp <;> omega
def ptrs (g : Nat) (l : List Nat) : List Value := l.map fun o => .pointer (some ⟨g, o, none⟩)
structure PlS (w : World) (g : Nat) (cf : List Value) (l : List Nat) (v : Value) (wr : World) : Prop where
  o : wr.ownsRow w.heap.size 40 1 v l.length (ptrs g l)
  n : ∀ z, v.ownBlock = some z → z ≠ w.heap.size ∧ z ≠ w.heap.size + 2
  f : Own wr w.heap.size cf
  p : Own wr (w.heap.size + 2) [.pointer (some ⟨g, 2, none⟩), .pointer (some ⟨g, 3, none⟩), .pointer (some ⟨g, 4, none⟩)]
  b : Below w.heap.size w wr
theorem PlS.more {w : World} {g : Nat} {cf : List Value} {l : List Nat} {v v' : Value} {wr w1 : World} {o : Nat} {ob : Obj} (h : PlS w g cf l v wr) (hown : w1.ownsRow w.heap.size 40 1 v' (l.length + 1) (ptrs g l ++ [.pointer (some ⟨g, o, none⟩)])) (hg : (wr.alloc ob).grownBy w1 v.ownBlock) (hb : v'.ownBlock = v.ownBlock ∨ v'.ownBlock = some (wr.alloc ob).heap.size) :
    PlS w g cf (l ++ [o]) v' w1 := by
  have hsz := h.p.lt
  refine ⟨?_, ?_, ?_, ?_, ?_⟩
  · unfold ptrs at *
    rw [List.map_append, List.length_append]; exact hown
  · intro z hz
    rcases hb with e | e
    · exact h.n z (e ▸ hz)
    · rw [e] at hz
      have : (wr.alloc ob).heap.size = wr.heap.size + 1 := by simp
      injection hz with hz
      omega
  · exact (h.f.alloc ob).grown hg (fun e => (h.n _ e.symm).1 rfl)
  · exact (h.p.alloc ob).grown hg (fun e => (h.n _ e.symm).2 rfl)
  · exact grown_below (h.b.alloc h.b.size ob) (h.o.alloc ob) (Nat.le_refl _) hg

/- one round with its append: the field $1, the flag's facts at hand -/
set_option maxHeartbeats 4000000 in
theorem places_any (fk : Int) (fw : ByteArray) (A B C : Bool) (g : Nat) (w : World) :
    Calls Tryd.prog 9 #[.agg #[I fk, .string fw, .bool A, .bool B, .bool C], .pointer (some ⟨g, 0, none⟩)] w (fun e w' => ∃ v, e = .returned v ∧ w'.ownsRow w.heap.size 40 1 v (offs A B C 3).length (ptrs g (offs A B C 3)) ∧ Below w.heap.size w w') := by
  obtain ⟨i0, hi, hz0, hz1, hz2⟩ := info_parts infoPtrI
  have OF := ((Own.new (w := w) (g := w.heap.size) (by rfl) [I fk, .string fw, .bool A, .bool B, .bool C] 35).alloc (.cells #[.pointer (some ⟨g, 1, none⟩)] 40)).alloc (.cells #[.pointer (some ⟨g, 2, none⟩), .pointer (some ⟨g, 3, none⟩), .pointer (some ⟨g, 4, none⟩)] 40)
  have OL := (Own.new (w := (w.alloc (.cells #[I fk, .string fw, .bool A, .bool B, .bool C] 35))) (g := w.heap.size + 1) (by simp) [.pointer (some ⟨g, 1, none⟩)] 40).alloc (.cells #[.pointer (some ⟨g, 2, none⟩), .pointer (some ⟨g, 3, none⟩), .pointer (some ⟨g, 4, none⟩)] 40)
  have OP := Own.new (w := ((w.alloc (.cells #[I fk, .string fw, .bool A, .bool B, .bool C] 35)).alloc (.cells #[.pointer (some ⟨g, 1, none⟩)] 40))) (g := w.heap.size + 2) (by simp) [.pointer (some ⟨g, 2, none⟩), .pointer (some ⟨g, 3, none⟩), .pointer (some ⟨g, 4, none⟩)] 40
  have bx0 := boxed_below w (.cells #[I fk, .string fw, .bool A, .bool B, .bool C] 35)
  have bx1 := bx0.alloc bx0.size (.cells #[.pointer (some ⟨g, 1, none⟩)] 40)
  have KB := bx1.alloc bx1.size (.cells #[.pointer (some ⟨g, 2, none⟩), .pointer (some ⟨g, 3, none⟩), .pointer (some ⟨g, 4, none⟩)] 40)
  clear bx0 bx1
  have hL := owns_lit (w.alloc (.cells #[I fk, .string fw, .bool A, .bool B, .bool C] 35)) [.pointer (some ⟨g, 1, none⟩)] 40 1 1 rfl (by decide)
  have S0 := Lib.hid (show PlS w g [I fk, .string fw, .bool A, .bool B, .bool C] (offs A B C 0) (.slice (some ⟨w.heap.size + 1, 0, none⟩) 1 1) (((w.alloc (.cells #[I fk, .string fw, .bool A, .bool B, .bool C] 35)).alloc (.cells #[.pointer (some ⟨g, 1, none⟩)] 40)).alloc (.cells #[.pointer (some ⟨g, 2, none⟩), .pointer (some ⟨g, 3, none⟩), .pointer (some ⟨g, 4, none⟩)] 40)).drew from
    ⟨by
      have := owns_mono (hL.alloc (.cells #[.pointer (some ⟨g, 2, none⟩), .pointer (some ⟨g, 3, none⟩), .pointer (some ⟨g, 4, none⟩)] 40)) (show w.heap.size ≤ (w.alloc (.cells #[I fk, .string fw, .bool A, .bool B, .bool C] 35)).heap.size by simp)
      have e3 : (w.alloc (.cells #[I fk, .string fw, .bool A, .bool B, .bool C] 35)).heap.size = w.heap.size + 1 := by simp
      rw [e3] at this
      exact this,
     by
      intro z hz
      have : w.heap.size + 1 = z := by simpa [Value.ownBlock] using hz
      omega,
     OF, OP, drewN_below KB 1⟩)
  clear OF OL OP KB hL
  go_enter Tryd.func9, Tryd.ntmps9
  go_wp2_with fail
  go_region
  go_wp2_with fail
  go_loopw [5, 23] (fun s5 s23 wr => ∃ k : Nat, k ≤ 3 ∧ s23 = I k ∧ Hid (PlS w g [I fk, .string fw, .bool A, .bool B, .bool C] (offs A B C k) s5 wr)) (fun _ i _ => 3 - (intOf i).toNat)
  case atStart => exact ⟨0, by decide, rfl, S0.out⟩
  case round =>
    clear S0
    obtain ⟨k, hk, rfl, S⟩ := hrel
    have hown := S.out.o
    have hol := offs_len A B C k
    have hsz := S.out.b.size
    have fO := S.out.f
    have ffA := fO.f; have f0 := fO.c0; have f1 := fO.c1; have f2 := fO.c2; have f3 := fO.c3; have f4 := fO.c4
    clear fO
    have pO := S.out.p
    have pfA := pO.f; have p0 := pO.c0; have p1 := pO.c1; have p2 := pO.c2
    clear pO
    by_cases hlt : k < 3
    · have hcase : k = 0 ∨ k = 1 ∨ k = 2 := by omega
      rcases hcase with rfl | rfl | rfl
      · cases A with
        | true =>
          have hx := fun w => (idx3 true B C w).1
          go_wp2_with (
            at_builtin
            refine wpList_append_own_at _ rfl _ _ 37 rfl w.heap.size 40 i0 (.pointer none) 1 8 Tryd.underlying37 hi hz0 hz1 hz2 rfl (by decide) _ _ _ rfl (hown.alloc _) ⟨wr.heap.size, 0, none⟩ 1 1 [.pointer (some ⟨g, 2, none⟩)] rfl rfl (news_lit _ [.pointer (some ⟨g, 2, none⟩)] _) (oneCells_lit rfl) (by unfold maxLen; omega) (by omega) (by simp; omega) ?_
            intro v' w1 hown' hgrow _ hblk)
          exact ⟨⟨1, by decide, by go_num, S.out.more hown' hgrow hblk⟩, by simp [intOf]⟩
        | false =>
          have hx := fun w => (idx3 false B C w).1
          go_wp2_with fail
          exact ⟨⟨1, by decide, by go_num, by unfold Hid; simpa [offs, flg] using S.out⟩, by simp [intOf]⟩
      · cases B with
        | true =>
          have hx := fun w => (idx3 A true C w).2.1
          go_wp2_with (
            at_builtin
            refine wpList_append_own_at _ rfl _ _ 37 rfl w.heap.size 40 i0 (.pointer none) 1 8 Tryd.underlying37 hi hz0 hz1 hz2 rfl (by decide) _ _ _ rfl (hown.alloc _) ⟨wr.heap.size, 0, none⟩ 1 1 [.pointer (some ⟨g, 3, none⟩)] rfl rfl (news_lit _ [.pointer (some ⟨g, 3, none⟩)] _) (oneCells_lit rfl) (by unfold maxLen; omega) (by omega) (by simp; omega) ?_
            intro v' w1 hown' hgrow _ hblk)
          exact ⟨⟨2, by decide, by go_num, S.out.more hown' hgrow hblk⟩, by simp [intOf]⟩
        | false =>
          have hx := fun w => (idx3 A false C w).2.1
          go_wp2_with fail
          exact ⟨⟨2, by decide, by go_num, by unfold Hid; simpa [offs, flg] using S.out⟩, by simp [intOf]⟩
      · cases C with
        | true =>
          have hx := fun w => (idx3 A B true w).2.2
          go_wp2_with (
            at_builtin
            refine wpList_append_own_at _ rfl _ _ 37 rfl w.heap.size 40 i0 (.pointer none) 1 8 Tryd.underlying37 hi hz0 hz1 hz2 rfl (by decide) _ _ _ rfl (hown.alloc _) ⟨wr.heap.size, 0, none⟩ 1 1 [.pointer (some ⟨g, 4, none⟩)] rfl rfl (news_lit _ [.pointer (some ⟨g, 4, none⟩)] _) (oneCells_lit rfl) (by unfold maxLen; omega) (by omega) (by simp; omega) ?_
            intro v' w1 hown' hgrow _ hblk)
          exact ⟨⟨3, by decide, by go_num, S.out.more hown' hgrow hblk⟩, by simp [intOf]⟩
        | false =>
          have hx := fun w => (idx3 A B false w).2.2
          go_wp2_with fail
          exact ⟨⟨3, by decide, by go_num, by unfold Hid; simpa [offs, flg] using S.out⟩, by simp [intOf]⟩
    · obtain rfl : k = 3 := by omega
      go_wp2_with fail
      go_ret
      exact ⟨_, rfl, S.out.o, S.out.b⟩
end Go.Proofs.YtfhmcahfjoliiaaDoor
