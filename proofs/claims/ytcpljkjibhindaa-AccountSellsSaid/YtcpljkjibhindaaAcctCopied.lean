/- ref.AccountCopy -/
import Derived.Test.YtcpljkjibhindaaAcctCopy
namespace Go.Proofs.Ytcpljkjibhindaa
open Go.RowKit
set_option maxRecDepth 20000

/-- an account comes back, its debts in memory of their own -/
def GrewAccO (x : AAcc) (xs : List ADebt) (w : World) (e : Ending) (w' : World) : Prop :=
  ∃ v, e = .returned (.agg #[I x.meter, I x.rev, I x.next, I x.month, I x.bought, I x.free, v]) ∧ w'.ownsRow (w.heap.size + 2) 45 2 v xs.length (xs.flatMap ADebt.cells) ∧ Below w.heap.size w w'
theorem flat_takeD {xs : List ADebt} {k : Nat} (hk : k < xs.length) : (xs.take (k + 1)).flatMap ADebt.cells = (xs.take k).flatMap ADebt.cells ++ (xs.getD k default).cells := by
  rw [List.take_add_one, List.flatMap_append, List.getElem?_eq_getElem hk, List.getD_eq_getElem?_getD, List.getElem?_eq_getElem hk]
  simp
set_option maxHeartbeats 1000000 in
theorem AccountCopy_any (x : AAcc) (v : Value) (xs : List ADebt) (w : World) (h : Sl w v 2 xs.length (xs.flatMap ADebt.cells)) (h8 : xs.length ≤ 8) :
    Calls Try.prog 60 #[.agg #[I x.meter, I x.rev, I x.next, I x.month, I x.bought, I x.free, v]] w (GrewAccO x xs w) := by
  obtain ⟨i0, hi, hz0, hz1, hz2⟩ := info_parts info_debts
  obtain ⟨x1, x2, x3, x4, x5, x6⟩ := x
  simp only [GrewAccO] at *
  have hb1 := boxed_below w (.cells #[I x1, I x2, I x3, I x4, I x5, I x6, v] 39)
  have hb := hb1.alloc hb1.size (.cells #[I 0, I 0, I 0, I 0, I 0, I 0, .slice none 0 0] 39)
  have h1 := h.below hb
  obtain ⟨a, cap, rfl, -⟩ := h
  obtain ⟨a', cap', hv, hn, hl, h0, hr⟩ := h1
  injection hv with e1 e2 e3
  subst e1 e3
  clear hb1 e2 hl h0
  have oc := (Own.new rfl [I x1, I x2, I x3, I x4, I x5, I x6, .slice a xs.length cap] 39 (w := w)).alloc (.cells #[I 0, I 0, I 0, I 0, I 0, I 0, .slice none 0 0] 39)
  have od := Own.new (w := w.alloc (.cells #[I x1, I x2, I x3, I x4, I x5, I x6, .slice a xs.length cap] 39)) (g := w.heap.size + 1) (by simp) [I 0, I 0, I 0, I 0, I 0, I 0, .slice none 0 0] 39
  go_enter Try.func60, Try.ntmps60
  go_wp2
  have hsw : ((w.alloc (.cells #[I x1, I x2, I x3, I x4, I x5, I x6, .slice a xs.length cap] 39)).alloc (.cells #[I 0, I 0, I 0, I 0, I 0, I 0, .slice none 0 0] 39)).heap.size = w.heap.size + 2 := by simp
  generalize hW0 : ((w.alloc (.cells #[I x1, I x2, I x3, I x4, I x5, I x6, .slice a xs.length cap] 39)).alloc (.cells #[I 0, I 0, I 0, I 0, I 0, I 0, .slice none 0 0] 39)) = W0 at *
  clear hW0
  go_loopw [3, 4] (fun v i wr => ∃ k : Nat, k ≤ xs.length ∧ i = I k ∧ Hid (wr.ownsRow (w.heap.size + 2) 45 2 v (xs.take k).length ((xs.take k).flatMap ADebt.cells)) ∧ Below W0.heap.size W0 wr) (fun _ i _ => xs.length - (intOf i).toNat)
  case atStart => exact ⟨0, Nat.zero_le _, rfl, World.ownsRow_nil _ _ _ _, Below.refl _ _⟩
  case round =>
    obtain ⟨k, hk, rfl, hO, hbw⟩ := hrel
    have hown := hO.out
    have hsz := hbw.size
    have cO := oc.below hbw
    have c0 := cO.cell 0 (by simp)
    have cf0 := cO.frozen 0
    have c1 := cO.cell 1 (by simp)
    have cf1 := cO.frozen 1
    have c2 := cO.cell 2 (by simp)
    have cf2 := cO.frozen 2
    have c3 := cO.cell 3 (by simp)
    have cf3 := cO.frozen 3
    have c4 := cO.cell 4 (by simp)
    have cf4 := cO.frozen 4
    have c5 := cO.cell 5 (by simp)
    have cf5 := cO.frozen 5
    have c6 := cO.cell 6 (by simp)
    have cf6 := cO.frozen 6
    simp only [Nat.zero_add, List.getD_cons_zero, List.getD_cons_succ] at c0 c1 c2 c3 c4 c5 c6
    clear cO
    by_cases hlt : k < xs.length
    · obtain ⟨b, off, rfl, hbl, hc⟩ := hr.resolve_left (by omega)
      obtain ⟨e0, e1⟩ := elDebt hbl hc hbw k hlt
      have hs := Lib.hid (flat_takeD hlt)
      have hi0 : (0 : Int) ≤ (k : Int) := by omega
      have hi1 : (k : Int) < (xs.length : Int) := by omega
      have hkl : (xs.take k).length = k := by simp; omega
      have hkl1 : (xs.take (k + 1)).length = k + 1 := by simp; omega
      rw [hkl] at hown
      clear hc hr
      generalize xs.getD k default = y at *
      go_wp2_with (skip; (at_builtin; refine wpList_append_own _ rfl _ _ 37 rfl (w.heap.size + 2) 45 i0 (.agg #[.int .i64 0, .int .i64 0]) 2 16 Try.underlying37 hi hz0 hz1 hz2 rfl (by decide) _ _ _ rfl (hown.alloc _) ⟨wr.heap.size, 0, none⟩ 1 1 [I y.owed, I y.bp] rfl rfl (news_lit _ [I y.owed, I y.bp] _) (oneCells_lit rfl) (by unfold maxLen; omega) (by omega) (by simp; omega) ?_; intro v' w1 hown' hgrow _))
      have hbel := grown_below (hbw.alloc hsz _) (hown.alloc _) (by omega) hgrow
      have hO' : Hid (w1.ownsRow (w.heap.size + 2) 45 2 v' (xs.take (k + 1)).length ((xs.take (k + 1)).flatMap ADebt.cells)) := by
        rw [hkl1, hs.out]; exact hown'
      clear hown hown' hgrow hO
      go_wp2
      exact ⟨⟨k + 1, by omega, by go_num, hO', hbel⟩, by simp [intOf]; omega⟩
    · have hkm : k = xs.length := by omega
      have hge : (xs.length : Int) ≤ (k : Int) := by omega
      rw [hkm, List.take_length] at hown
      have HS := Lib.hid hown
      have hS := Sl.of_owns hown (by omega)
      obtain ⟨a2, cap2, rfl, -⟩ := hS
      have k0 := hb.trans (hbw.mono (by omega))
      have dO := od.below hbw
      have d0 := dO.cell 0 (by simp)
      have df0 := dO.frozen 0
      have d1 := dO.cell 1 (by simp)
      have df1 := dO.frozen 1
      have d2 := dO.cell 2 (by simp)
      have df2 := dO.frozen 2
      have d3 := dO.cell 3 (by simp)
      have df3 := dO.frozen 3
      have d4 := dO.cell 4 (by simp)
      have df4 := dO.frozen 4
      have d5 := dO.cell 5 (by simp)
      have df5 := dO.frozen 5
      have d6 := dO.cell 6 (by simp)
      have df6 := dO.frozen 6
      simp only [Nat.zero_add, List.getD_cons_zero, List.getD_cons_succ] at d0 d1 d2 d3 d4 d5 d6
      clear dO
      clear hkm hO hown hr hbw
      have r1 := set_same
      have r2 := set_off
      have r3 := set_blk
      go_wp2
      exact bodyPost_ret (v := .agg #[I x1, I x2, I x3, I x4, I x5, I x6, .slice a2 xs.length cap2]) (by simp [results, Try.results60, go_sem, *]; try omega) rfl (⟨_, rfl, (by repeat (first | with_reducible exact HS.out | refine owns_set ?_ (by omega) _)), (by repeat first | with_reducible assumption | with_reducible exact Below.refl _ _ | with_reducible refine Below.setCell ?_ (by first | exact Nat.le_refl _ | exact Below.size (by assumption) | (simp; done) | (simp; omega) | omega) _ | with_reducible refine Below.alloc ?_ (by first | exact Nat.le_refl _ | exact Below.size (by assumption) | (simp; done) | (simp; omega) | omega) _ | with_reducible refine drewN_below ?_ _ | with_reducible refine Below.drew ?_)⟩)
end Go.Proofs.Ytcpljkjibhindaa
