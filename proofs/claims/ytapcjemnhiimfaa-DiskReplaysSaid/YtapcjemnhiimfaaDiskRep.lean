/- disk.Replay: the closure that keeps a record, and the walk with it -/
import Derived.Test.YtapcjemnhiimfaaDiskRec
import Derived.Deep.RegionLaw
namespace Go.Proofs.Ytapcjemnhiimfaa
open Go.RowKit
set_option maxRecDepth 20000

theorem cell_ltD {W : World} {b o : Nat} {x : Value} (h : W.cell? ⟨b, o, none⟩ = some x) : b < W.heap.size := World.block_lt_of_cell? W _ h
theorem rec_copy {W w1 : World} {g cap : Nat} {blk : Option Nat} {ws : List Int} (hlt : ws.length ≤ 64) (hown : w1.ownsRow W.heap.size 37 1 (.slice (some ⟨g, 0, none⟩) (0 + ws.length) cap) (0 + ws.length) ([] ++ ws.map U32)) (hb : ∀ j, blk = some j → j < W.heap.size) :
    Rec w1 blk (.slice (some ⟨g, 0, none⟩) ws.length cap) ws := by
  rw [Nat.zero_add, List.nil_append] at hown
  have hO := Own.of_owns hown
  rcases owns_cases hown with ⟨h, _⟩ | ⟨g', cap', hv, hg, hc, _⟩
  · cases h
  · injection hv with h1 h2 h3
    injection h1 with h1
    injection h1 with h1 h4 h5
    subst h1 h3
    exact ⟨g, cap, rfl, hc, hlt, hO, fun e => by have := hb _ e; omega⟩
theorem rec_set {W : World} {blk : Option Nat} {u v : Value} {ws : List Int} {B : Nat} (h : Rec W blk u ws) (hB : W.cell? ⟨B, 0, none⟩ = some v) (hv : ∀ n, v ≠ U32 n) (x : Value) : Rec (W.setCell ⟨B, 0, none⟩ x) blk u ws := by
  obtain ⟨g, c, hu, q1, q2, q3, q4⟩ := h
  refine ⟨g, c, hu, q1, q2, ?_, q4⟩
  by_cases e : B = g
  · subst e
    cases ws with
    | nil => exact q3.set 0 x
    | cons a t =>
      have := q3.cell 0 (by simp)
      rw [Nat.zero_add, hB] at this
      injection this with this
      exact absurd this (hv a)
  · exact q3.other e x
theorem recs_slice {W : World} {base : Nat} {v : Value} {rs : List (List Int)} {us : List Value} (h : Recs W base v rs us) : ∀ n, v ≠ U32 n := by
  rcases owns_cases h.2.1 with ⟨h, _⟩ | ⟨g, c, h, _⟩ <;> subst h <;> intro n e <;> cases e
/-- what the closure leaves: its variable holds one record more -/
def KeptRec (B base : Nat) (rs : List (List Int)) (w : World) (e : Ending) (w' : World) : Prop :=
  e = .returned (.tuple #[]) ∧ ∃ v us, w'.cell? ⟨B, 0, none⟩ = some v ∧ w'.frozen? ⟨B, 0, none⟩ = false ∧ Recs w' base v rs us ∧ Below B w w'

set_option maxHeartbeats 4000000 in
theorem Replay1_any (B b off n c : Nat) (ws : List Int) (v : Value) (rs : List (List Int)) (us : List Value) (w : World) (hB : w.cell? ⟨B, 0, none⟩ = some v) (hf : w.frozen? ⟨B, 0, none⟩ = false)
    (hR : Recs w (B + 1) v rs us) (hrec : ∀ j, j < n → w.cell? ⟨b, off + j, none⟩ = some (U32 (ws.getD j 0))) (hl : ws.length = n) (hn0 : 0 < n) (hn : n ≤ 64) (hrs : rs.length ≤ 4096) :
    Calls Try.prog 10 #[.slice (some ⟨b, off, none⟩) n c, .pointer (some ⟨B, 0, none⟩)] w (KeptRec B (B + 1) (rs ++ [ws]) w) := by
  obtain ⟨i0, hi, hz0, hz1, hz2⟩ := info_parts infoRec
  obtain ⟨j0, hj, hy0, hy1, hy2⟩ := info_parts infoU32d
  have hBlt := cell_ltD hB
  subst hl
  have hnews : ∀ (j : Nat) (u : Value), (ws.map U32)[j]? = some u → w.cell? ((⟨b, off, none⟩ : Addr).add j) = some u := by
    intro j u hu
    have hj := (List.getElem?_eq_some_iff.1 hu).1
    rw [List.length_map] at hj
    have := hrec j hj
    rw [List.getElem?_map, List.getElem?_eq_getElem hj] at hu
    rw [List.getD_eq_getElem?_getD, List.getElem?_eq_getElem hj] at this
    unfold Addr.add
    split
    · subst_vars; simpa using this.trans hu
    · simpa using this.trans hu
  have hone : ∀ u ∈ ws.map U32, u.oneCell' = true := oneCells_map (fun _ => rfl) ws
  have Hnews := Lib.hid hnews
  have Hone := Lib.hid hone
  have HR := Lib.hid hR
  have HV := Lib.hid (recs_slice hR)
  have hvb : ∀ j, v.ownBlock = some j → B + 1 ≤ j ∧ j < w.heap.size := fun j hj => hR.2.1.lt j hj
  have Hvb := Lib.hid hvb
  clear hnews hone hR hvb hrec
  go_enter Try.func10, Try.ntmps10
  go_wp2
  go_region_law (first
    | (refine step_append_lies _ (by rfl) _ _ _ (by rfl) w.heap.size 37 j0 (.int .u32 0) 1 4 Try.underlying22 hj hy0 hy1 hy2 rfl (by decide) (.slice none 0 0) 0 [] (by rfl) (World.ownsRow_nil _ _ _ _) ⟨b, off, none⟩ ws.length c (ws.map U32) (by rfl) (by simp) Hnews.out Hone.out hn0 (by unfold maxLen; omega) (by omega) (Nat.le_refl _) w.heap.size rfl ?_; intro g1 cap1 w1 hown1 hgrow1 hat1 hlt1
       have hb1 : Below w.heap.size w w1 := Below.grown (B := w.heap.size) (drewN_below (Below.refl _ w) 1) hgrow1 (Nat.le_refl _) (fun j hj => by cases hj)
       have hu1 : Hid (Rec w1 v.ownBlock (.slice (some ⟨g1, 0, none⟩) ws.length cap1) ws) := rec_copy hn hown1 (fun j hj => (Hvb.out j hj).2)
       have hR1 : Hid (Recs w1 (B + 1) v rs us) := HR.out.below hb1
       have hown2 := hR1.out.2.1
       have hc1 := (hb1.cell (p := ⟨B, 0, none⟩) hBlt).trans hB
       have hf1 := (hb1.frozen (p := ⟨B, 0, none⟩) hBlt).trans hf
       have hsz1 := hb1.size
       have hBl1 : B < w1.heap.size := by omega
       have hc1a : ∀ o, (w1.alloc o).cell? ⟨B, 0, none⟩ = some v := fun o => ((boxed_below w1 o).cell (p := ⟨B, 0, none⟩) hBl1).trans hc1
       have hf1a : ∀ o, (w1.alloc o).frozen? ⟨B, 0, none⟩ = false := fun o => ((boxed_below w1 o).frozen (p := ⟨B, 0, none⟩) hBl1).trans hf1
       clear hown1 hgrow1 hat1)
    | (refine step_append_lies _ (by rfl) _ _ _ (by rfl) (B + 1) 22 i0 (.slice none 0 0) 1 24 Try.underlying24 hi hz0 hz1 hz2 rfl (by decide) v rs.length us (by rfl) (hown2.alloc _) ⟨w1.heap.size, 0, none⟩ 1 1 [.slice (some ⟨g1, 0, none⟩) ws.length cap1] (by rfl) (by rfl) (news_lit _ _ _) (oneCells_lit rfl) (by omega) (by unfold maxLen; omega) (by omega) (by simp; omega) _ rfl ?_; intro g2 cap2 w2 hown3 hgrow2 hat2 hlt2
       have hb2 : Below (B + 1) (w1.alloc (.cells #[.slice (some ⟨g1, 0, none⟩) ws.length cap1] 22)) w2 := Below.grown (B := B + 1) (Below.refl _ _) hgrow2 (by simp; omega) (fun j hj => (Hvb.out j hj).1)
       have hc2 := (hb2.cell (p := ⟨B, 0, none⟩) (by simp)).trans (((boxed_below w1 _).cell (p := ⟨B, 0, none⟩) (by show B < _; omega)).trans hc1)
       have hf2 := (hb2.frozen (p := ⟨B, 0, none⟩) (by simp)).trans (((boxed_below w1 _).frozen (p := ⟨B, 0, none⟩) (by show B < _; omega)).trans hf1)
       have hR2 : Hid (Recs w2 (B + 1) (.slice (some ⟨g2, 0, none⟩) (rs.length + 1) cap2) (rs ++ [ws]) (us ++ [.slice (some ⟨g1, 0, none⟩) ws.length cap1])) := recs_snoc (hR1.out.below (boxed_below w1 _)) (hu1.out.below (boxed_below w1 _)) hown3 rfl hgrow2 hat2
       have hbw : Below B w w2 := ((hb1.mono (Nat.le_of_lt hBlt)).trans ((boxed_below w1 _).mono (by omega))).trans (hb2.mono (by omega))
       clear hown3 hgrow2 hat2 hb2))
  all_goals
    go_wp2
    go_end0
    exact ⟨rfl, _, _, by rw [set_same, hc2]; rfl, (World.frozen?_setCell _ _ _ _).trans hf2, ⟨hR2.out.1, ownsRow_setCell_below hR2.out.2.1 (by show B < B + 1; omega) _, fun k hk => rec_set (hR2.out.2.2 k hk) hc2 HV.out _⟩, hbw.setCell (Nat.le_refl _) _⟩
end Go.Proofs.Ytapcjemnhiimfaa
