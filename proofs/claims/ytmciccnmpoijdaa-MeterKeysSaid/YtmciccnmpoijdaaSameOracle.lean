/- oracles: a copy; two that are the same -/
import Derived.Test.YtmciccnmpoijdaaApi
import Derived.Test.YtmciccnmpoijdaaElems
import Derived.Test.YtmciccnmpoijdaaOwn
import Derived.Test.YtmciccnmpoijdaaChg
import Derived.Test.YtmciccnmpoijdaaEqFields
namespace Go.Proofs.Ytmciccnmpoijdaa
open Go Go.RowKit
set_option maxRecDepth 20000

theorem infoPair : (Try.prog.info? 68).map (fun i => (i.zero, i.size, i.bytes)) = some (some (.agg #[.int .i64 0, .int .i64 0, .int .i64 0, .int .i64 0]), 4, 32) := by kernel_rfl
theorem pairs_one : ∀ ys : List APair, oneCells (ys.flatMap APair.cells) := fun ys => oneCells_flat (fun x u hu => by simp only [APair.cells, List.mem_cons, List.not_mem_nil, or_false] at hu; rcases hu with rfl | rfl | rfl | rfl <;> rfl) ys
def FarQ (B : Nat) (v : Value) : Prop := ∀ z, z < B → Far z v
theorem FarQ.of_owns {w : World} {base e sz n : Nat} {v : Value} {cs : List Value} (h : w.ownsRow base e sz v n cs) : FarQ base v := by
  intro z hz a n' c e
  obtain ⟨_, h⟩ := h
  rcases h with ⟨rfl, _⟩ | ⟨g, cap, cur, rfl, hb, _⟩
  · cases e
  · cases e; show g ≠ z; omega
def GrewOr (ps : List APair) (w : World) (e : Ending) (w' : World) : Prop := ∃ v, e = .returned (.agg #[v]) ∧ Sl w' v 4 ps.length (ps.flatMap APair.cells) ∧ Below w.heap.size w w'
set_option maxHeartbeats 2000000 in
theorem oracles_any (v : Value) (ps : List APair) (w : World) (h : Sl w v 4 ps.length (ps.flatMap APair.cells)) (hby : ps.length * 32 ≤ 140737488355328) :
    Calls Try.prog 7 #[.agg #[v]] w (GrewOr ps w) := by
  obtain ⟨i0, hi, hz0, hz1, hz2⟩ := info_parts infoPair
  have hS := h
  obtain ⟨a, cap, rfl, hn, hl, h0, h⟩ := h
  have kb := boxed_below w (.cells #[.slice a ps.length cap] 29)
  have kB := kb.alloc kb.size (.cells #[.slice none 0 0] 29)
  have oz := Own.new (w := w.alloc (.cells #[.slice a ps.length cap] 29)) (g := w.heap.size + 1) (by simp) [.slice none 0 0] 29
  cases a with
  | none =>
    obtain ⟨hn0, rfl⟩ := h0 rfl
    obtain rfl : ps = [] := List.length_eq_zero_iff.1 hn0
    clear h hS h0 hl kb oz
    go_enter Try.func7, Try.ntmps7
    go_wp2_with fail
    exact bodyPost_ret (v := .agg #[.slice none 0 0]) (by simp [results, Try.results7, go_sem]) rfl (⟨_, rfl, Sl.nil _ _, (by repeat first | exact Below.refl _ _ | assumption | refine drewN_below ?_ _ | refine Below.alloc ?_ (by first | exact Nat.le_refl _ | exact Below.size (by assumption) | (simp; done) | (simp; omega) | omega) _ | refine Below.setCell ?_ (by first | exact Nat.le_refl _ | (simp; done) | (simp; omega) | omega) _)⟩)
  | some ad =>
    have hnews := Lib.hid (hS.below kB).news
    have hone := Lib.hid (pairs_one ps)
    have Hl := Lib.hid hl
    have c3 : 0 + ps.length ≤ maxLen := by unfold maxLen; omega
    have c4 := Lib.hid (show (0 + ps.length) * 32 ≤ 140737488355328 by omega)
    have hsB : w.heap.size ≤ ((w.alloc (.cells #[.slice (some ad) ps.length cap] 29)).alloc (.cells #[.slice none 0 0] 29)).heap.size := kB.size
    clear h h0 hl hby kb
    go_enter Try.func7, Try.ntmps7
    go_wp2_with
      (at_builtin
       refine wpList_append_own _ rfl _ _ 27 rfl (w.heap.size + 2) 68 i0 (.agg #[.int .i64 0, .int .i64 0, .int .i64 0, .int .i64 0]) 4 32 Try.underlying27 hi hz0 hz1 hz2 rfl (by decide) _ 0 [] rfl (World.ownsRow_nil _ _ _ _) ad _ _ (ps.flatMap APair.cells) rfl Hl.out hnews.out hone.out c3 c4.out (by simp) ?_
       intro v' w1 hown' hgrow _
       have hbel := kB.grown hgrow hsB (fun k hk => absurd (show (none : Option Nat) = some k from hk) (by simp))
       have oz1 := oz.grown hgrow (fun e => by cases e)
       rw [Nat.zero_add, List.nil_append] at hown'
       have hF := FarQ.of_owns hown'
       have hS1 := Sl.of_owns hown' hn.1
       clear hown' hgrow
       have zO := oz1
       have z0 := zO.cell 0 (by simp)
       have zf0 := zO.frozen 0
       simp only [Nat.zero_add, List.getD_cons_zero, List.getD_cons_succ] at z0
       clear zO
       obtain ⟨a1, p1, rfl, -⟩ := id hS1
       have r1 := set_same
       clear oz1)
    have hfz : Far (w.heap.size + 1) (.slice a1 ps.length p1) := hF _ (by omega)
    exact bodyPost_ret (v := .agg #[.slice a1 ps.length p1]) (by simp [results, Try.results7, go_sem, *]; try omega) rfl (⟨_, rfl, hS1.set hfz _, (by repeat first | with_reducible assumption | with_reducible exact Below.refl _ _ | with_reducible refine Below.setCell ?_ (by first | exact Nat.le_refl _ | exact Below.size (by assumption) | (simp; done) | (simp; omega) | omega) _ | with_reducible refine Below.alloc ?_ (by first | exact Nat.le_refl _ | exact Below.size (by assumption) | (simp; done) | (simp; omega) | omega) _ | with_reducible refine drewN_below ?_ _ | with_reducible refine Below.drew ?_)⟩)
set_option maxRecDepth 200000 in
theorem neqPair_run (p : APair) (w : World) : (binOp .neq 68 (.agg #[I p.meter, I p.rev, I p.body, I p.tag]) (.agg #[I p.meter, I p.rev, I p.body, I p.tag])).run Try.prog w = .ok (.bool false) w := by
  have hp : Try.prog.stoodInHeld 68 = false := by kernel_rfl
  have ht : Try.prog.underlying 68 = some (.struct (Try.prog.fieldsOf 68)) := by kernel_rfl
  rw [run_neq_struct, run_equalIn_struct w 9999 68 _ _ ht hp]
  simp only [Program.fieldsOf, Try.underlying68]
  rw [eqF_int w (by decide) Try.underlying3 rfl rfl, eqF_int w (by decide) Try.underlying3 rfl rfl, eqF_int w (by decide) Try.underlying3 rfl rfl, eqF_int w (by decide) Try.underlying3 rfl rfl, eqF_nil]
  simp [Result.andThen]
set_option maxHeartbeats 2000000 in
theorem sameOracle_any (v1 v2 : Value) (ps : List APair) (w : World) (h1 : Sl w v1 4 ps.length (ps.flatMap APair.cells)) (h2 : Sl w v2 4 ps.length (ps.flatMap APair.cells)) :
    Calls Try.prog 10 #[.agg #[v1], .agg #[v2]] w (Grew (.bool true) w) := by
  obtain ⟨a1, c1, rfl, hn1, _, _, h1⟩ := h1
  obtain ⟨a2, c2, rfl, hn2, _, _, h2⟩ := h2
  have hm : Try.prog.eqGuardType Try.prog.depth 68 = false := by kernel_rfl
  have hne := neqPair_run
  have kb := boxed_below w (.cells #[.slice a1 ps.length c1] 29)
  have kB := kb.alloc kb.size (.cells #[.slice a2 ps.length c2] 29)
  have o1 := (Own.new (w := w) rfl [.slice a1 ps.length c1] 29).alloc (.cells #[.slice a2 ps.length c2] 29)
  have o2 := Own.new (w := w.alloc (.cells #[.slice a1 ps.length c1] 29)) (g := w.heap.size + 1) (by simp) [.slice a2 ps.length c2] 29
  have xO := o1
  have x0 := xO.cell 0 (by simp)
  have xf0 := xO.frozen 0
  simp only [Nat.zero_add, List.getD_cons_zero, List.getD_cons_succ] at x0
  clear xO
  have yO := o2
  have y0 := yO.cell 0 (by simp)
  have yf0 := yO.frozen 0
  simp only [Nat.zero_add, List.getD_cons_zero, List.getD_cons_succ] at y0
  clear yO
  go_enter Try.func10, Try.ntmps10
  go_wp2
  go_loopw [5] (fun i wr => ∃ k : Nat, k ≤ ps.length ∧ i = I k ∧ Hid (Own wr w.heap.size [.slice a1 ps.length c1]) ∧ Hid (Own wr (w.heap.size + 1) [.slice a2 ps.length c2]) ∧ Below w.heap.size w wr) (fun i _ => ps.length - (intOf i).toNat)
  case atStart => exact ⟨0, Nat.zero_le _, rfl, o1, o2, kB⟩
  case round =>
    obtain ⟨k, hk, rfl, hO1, hO2, hbw⟩ := hrel
    clear x0 xf0 y0 yf0 o1 o2 kb kB
    have xO := hO1.out
    have x0 := xO.cell 0 (by simp)
    have xf0 := xO.frozen 0
    simp only [Nat.zero_add, List.getD_cons_zero, List.getD_cons_succ] at x0
    clear xO
    have yO := hO2.out
    have y0 := yO.cell 0 (by simp)
    have yf0 := yO.frozen 0
    simp only [Nat.zero_add, List.getD_cons_zero, List.getD_cons_succ] at y0
    clear yO
    by_cases hlt : k < ps.length
    · obtain ⟨b1, f1, rfl, hb1, hc1⟩ := h1.resolve_left (by omega)
      obtain ⟨b2, f2, rfl, hb2, hc2⟩ := h2.resolve_left (by omega)
      obtain ⟨e0, e1, e2, e3⟩ := elPair hb1 hc1 hbw k hlt
      obtain ⟨g0, g1, g2, g3⟩ := elPair hb2 hc2 hbw k hlt
      have hi0 : (0 : Int) ≤ (k : Int) := by omega
      have hi1 : (k : Int) < (ps.length : Int) := by omega
      clear h1 h2 hc1 hc2
      generalize ps.getD k default = p at *
      have hq := hne p
      clear hne
      obtain ⟨p1, p2, p3, p4⟩ := p
      simp only at e0 e1 e2 e3 g0 g1 g2 g3 hq
      go_wp2
      go_quiet (fail)
      go_wp2
      exact ⟨⟨k + 1, by omega, by go_num, hO1, hO2, drewN_below hbw _⟩, by simp [intOf]; omega⟩
    · have hge : (ps.length : Int) ≤ (k : Int) := by omega
      go_wp2
      go_ret
      exact Grew.intro rfl hbw
end Go.Proofs.Ytmciccnmpoijdaa
