/- oracle.Issue: what it answers; the copies -/
import Derived.Test.YtclfbpgfnhjfcaaOracle
import Derived.Test.YtclfbpgfnhjfcaaSameOracle
namespace Go.Proofs.Ytclfbpgfnhjfcaa
open Go Go.RowKit
set_option maxRecDepth 20000

def issE (ps : List APair) (x y z d : Int) : Int := if mayO ps then (if pairMay ⟨x, y, z, d⟩ then (if hasKey ps x y z then 0 else if ps.length = 500 then 16 else 0) else 2) else 5
def issN (ps : List APair) (x y z d : Int) : Int := if issE ps x y z d = 0 then (if hasKey ps x y z then tagOf ps x y z else d) else 0
def issL (ps : List APair) (x y z d : Int) : List APair := if issE ps x y z d = 0 then (if hasKey ps x y z then ps else ps ++ [⟨x, y, z, d⟩]) else []
def GrewIs (L : List APair) (n k : Int) (w : World) (e : Ending) (w' : World) : Prop := ∃ v, e = .returned (T3 (.agg #[v]) (I n) (I k)) ∧ Sl w' v 4 L.length (L.flatMap APair.cells) ∧ Below w.heap.size w w'
theorem iss_err {ps : List APair} {x y z d : Int} (h : issE ps x y z d ≠ 0) : issN ps x y z d = 0 ∧ issL ps x y z d = [] := by simp [issN, issL, h]
set_option maxHeartbeats 2000000 in
theorem clone_own (v : Value) (ps : List APair) (w : World) (h : Sl w v 4 ps.length (ps.flatMap APair.cells)) (h5 : ps.length ≤ 500) :
    Calls Try.prog 42 #[v] w (GrewOw 73 4 ps.length (ps.flatMap APair.cells) w) := by
  obtain ⟨i0, hi, hz0, hz1, hz2⟩ := info_parts infoPair
  have hq := fun W a n c => Lib.run_eql_slice_nil (P := Try.prog) W 22 _ a n c 0 0 Try.underlying22
  have hS := h
  obtain ⟨a, cap, rfl, hn, hl, h0, h⟩ := h
  cases a with
  | none =>
    obtain ⟨hn0, rfl⟩ := h0 rfl
    obtain rfl : ps = [] := List.length_eq_zero_iff.1 hn0
    clear h hS h0 hl
    go_enter Try.func42, Try.ntmps42
    go_wp2_with fail
    go_ret
    exact ⟨_, rfl, World.ownsRow_nil _ _ _ _, Below.refl _ _⟩
  | some ad =>
    have kb := boxed_below w (.cells #[] 73)
    have hnews := Lib.hid (hS.below kb).news
    have hone := Lib.hid (pairs_one ps)
    have Hl := Lib.hid hl
    have hlit := owns_lit w [] 73 4 0 rfl (Nat.zero_le _)
    have c3 : 0 + ps.length ≤ maxLen := by unfold maxLen; omega
    have c4 := Lib.hid (show (0 + ps.length) * 32 ≤ 140737488355328 by omega)
    clear h h0 hl hS
    go_enter Try.func42, Try.ntmps42
    go_wp2_with
      (at_builtin
       refine wpList_append_own _ rfl _ _ 22 rfl w.heap.size 73 i0 (.agg #[.int .i64 0, .int .i64 0, .int .i64 0, .int .i64 0]) 4 32 Try.underlying22 hi hz0 hz1 hz2 rfl (by decide) _ 0 [] rfl hlit ad _ _ (ps.flatMap APair.cells) rfl Hl.out hnews.out hone.out c3 c4.out (by simp) ?_
       intro v' w1 hown' hgrow _
       have hbel := kb.grown hgrow kb.size (fun k hk => (hlit.lt k hk).1)
       rw [Nat.zero_add, List.nil_append] at hown'
       clear hgrow)
    go_ret
    exact ⟨_, rfl, hown', hbel⟩
set_option maxHeartbeats 2000000 in
theorem OracleCopy_own (v : Value) (ps : List APair) (w : World) (h : Sl w v 4 ps.length (ps.flatMap APair.cells)) (h5 : ps.length ≤ 500) :
    Calls Try.prog 43 #[.agg #[v]] w fun e w' => ∃ u, e = .returned (.agg #[u]) ∧ w'.ownsRow (w.heap.size + 2) 73 4 u ps.length (ps.flatMap APair.cells) ∧ Below w.heap.size w w' := by
  obtain ⟨i0, hi, hz0, hz1, hz2⟩ := info_parts infoPair
  obtain ⟨a, cap, rfl, hn, -, -, h⟩ := h
  have kb := boxed_below w (.cells #[.slice a ps.length cap] 24)
  have kB := kb.alloc kb.size (.cells #[.slice none 0 0] 24)
  have ob := (Own.new (w := w) rfl [.slice a ps.length cap] 24).alloc (.cells #[.slice none 0 0] 24)
  have oz := Own.new (w := w.alloc (.cells #[.slice a ps.length cap] 24)) (g := w.heap.size + 1) (by simp) [.slice none 0 0] 24
  have hzB : w.heap.size + 2 ≤ ((w.alloc (.cells #[.slice a ps.length cap] 24)).alloc (.cells #[.slice none 0 0] 24)).heap.size := by simp
  go_enter Try.func43, Try.ntmps43
  go_wp2
  go_loopw [3, 4] (fun v i wr => ∃ k : Nat, k ≤ ps.length ∧ i = I k ∧ Hid (wr.ownsRow (w.heap.size + 2) 73 4 v (ps.take k).length ((ps.take k).flatMap APair.cells)) ∧ Hid (Own wr w.heap.size [.slice a ps.length cap]) ∧ Hid (Own wr (w.heap.size + 1) [.slice none 0 0]) ∧ Below w.heap.size w wr ∧ w.heap.size + 2 ≤ wr.heap.size) (fun _ i _ => ps.length - (intOf i).toNat)
  case atStart => exact ⟨0, Nat.zero_le _, rfl, World.ownsRow_nil _ _ _ _, ob, oz, kB, hzB⟩
  case round =>
    obtain ⟨k, hk, rfl, hR, hO, hZ, hbw, hsz2⟩ := hrel
    clear ob oz kb kB hzB
    have hsz := hbw.size
    have oO := hO.out
    have o0 := oO.cell 0 (by simp)
    have of0 := oO.frozen 0
    simp only [Nat.zero_add, List.getD_cons_zero, List.getD_cons_succ] at o0
    clear oO
    by_cases hlt : k < ps.length
    · obtain ⟨b, off, rfl, hb, hc⟩ := h.resolve_left (by omega)
      obtain ⟨e0, e1, e2, e3⟩ := elPair hb hc hbw k hlt
      have hi0 : (0 : Int) ≤ (k : Int) := by omega
      have hi1 : (k : Int) < (ps.length : Int) := by omega
      have htk := Lib.hid (show ps.take (k + 1) = ps.take k ++ [ps.getD k default] by
        rw [List.take_add_one, List.getElem?_eq_getElem hlt, List.getD_eq_getElem?_getD, List.getElem?_eq_getElem hlt]; rfl)
      have hlk : (ps.take k).length = k := by rw [List.length_take]; omega
      have HLK := Lib.hid hlk
      clear h hc
      generalize ps.getD k default = p at *
      obtain ⟨p1, p2, p3, p4⟩ := p
      simp only at e0 e1 e2 e3
      have c3 : (ps.take k).length + 1 ≤ maxLen := by unfold maxLen; omega
      have c4 : ((ps.take k).length + 1) * 32 ≤ 140737488355328 := by omega
      have HC := Lib.hid (And.intro c3 c4)
      clear c3 c4 hlk
      generalize hnk : (ps.take k).length = nk at *
      go_wp2_with
        (at_builtin
         refine wpList_append_own _ rfl _ _ 22 rfl (w.heap.size + 2) 73 i0 (.agg #[.int .i64 0, .int .i64 0, .int .i64 0, .int .i64 0]) 4 32 Try.underlying22 hi hz0 hz1 hz2 rfl (by decide) _ _ _ rfl (hR.out.alloc _) ⟨wr.heap.size, 0, none⟩ 1 1 [I p1, I p2, I p3, I p4] rfl rfl (news_lit _ _ _) (by simp [Value.oneCell']) HC.out.1 HC.out.2 (by simp; omega) ?_
         intro v' w1 hown' hgrow _
         have hrow := hR.out.alloc (.cells #[I p1, I p2, I p3, I p4] 73)
         have hbel := (hbw.alloc hsz (.cells #[I p1, I p2, I p3, I p4] 73)).grown hgrow (by simp; omega) (fun j hj => by have := (hrow.lt j hj).1; omega)
         have hO1 := (hO.out.alloc (.cells #[I p1, I p2, I p3, I p4] 73)).grown hgrow (fun e => by have := (hrow.lt _ e.symm).1; omega)
         have hZ1 := (hZ.out.alloc (.cells #[I p1, I p2, I p3, I p4] 73)).grown hgrow (fun e => by have := (hrow.lt _ e.symm).1; omega)
         have hs1 : w.heap.size + 2 ≤ w1.heap.size := by have := hgrow.size; simp at this; omega
         have HO1 := Lib.hid hO1
         have HZ1 := Lib.hid hZ1
         have HR1 := Lib.hid (show w1.ownsRow (w.heap.size + 2) 73 4 v' (ps.take (k + 1)).length ((ps.take (k + 1)).flatMap APair.cells) by
           rw [htk.out, List.length_append, hnk, List.flatMap_append]
           exact hown')
         clear hown' hgrow hrow hO1 hZ1 hO hZ hR o0 of0 e0 e1 e2 e3)
      go_round
      case rel => exact ⟨k + 1, by omega, by go_num, HR1, HO1, HZ1, hbel, hs1⟩
      case measure => simp [intOf]; omega
    · have hkl : k = ps.length := by omega
      have hge : (ps.length : Int) ≤ (k : Int) := by omega
      have HRF := Lib.hid (show wr.ownsRow (w.heap.size + 2) 73 4 u3 ps.length (ps.flatMap APair.cells) by
        have := hR.out; rw [hkl, List.take_length] at this; exact this)
      have zO := hZ.out
      have z0 := zO.cell 0 (by simp)
      have zf0 := zO.frozen 0
      simp only [Nat.zero_add, List.getD_cons_zero, List.getD_cons_succ] at z0
      clear zO
      have r1 := set_same
      obtain ⟨sa, sc, rfl⟩ : ∃ sa sc, u3 = .slice sa ps.length sc := by
        rcases owns_cases HRF.out with ⟨h1, h2⟩ | ⟨g, c, h1, _⟩
        · exact ⟨none, 0, by rw [h1, h2]⟩
        · exact ⟨_, _, h1⟩
      clear hR hkl hO hZ h
      have HRS := Lib.hid (fun x => ownsRow_setCell_below HRF.out (a := ⟨w.heap.size + 1, 0, none⟩) (by show w.heap.size + 1 < w.heap.size + 2; omega) x)
      go_wp2
      exact bodyPost_ret (v := .agg #[.slice sa ps.length sc]) (by simp [results, Try.results43, go_sem, *]; try omega) rfl (⟨_, rfl, HRS.out _, hbw.setCell (p := ⟨w.heap.size + 1, 0, none⟩) (Nat.le_succ _) _⟩)

theorem mayO_len {ps : List APair} (h : mayO ps = true) : ps.length ≤ 500 := by
  unfold mayO at h
  rw [Bool.and_eq_true, decide_eq_true_eq] at h
  exact h.1
theorem iss_state {ps : List APair} {x y z d : Int} (h : mayO ps = false) : issE ps x y z d = 5 := by simp [issE, h]
theorem iss_range {ps : List APair} {x y z d : Int} (h : mayO ps = true) (h2 : pairMay ⟨x, y, z, d⟩ = false) : issE ps x y z d = 2 := by simp [issE, h, h2]
theorem iss_known {ps : List APair} {x y z d : Int} (h : mayO ps = true) (h2 : pairMay ⟨x, y, z, d⟩ = true) (h3 : hasKey ps x y z = true) : issE ps x y z d = 0 ∧ issN ps x y z d = tagOf ps x y z ∧ issL ps x y z d = ps := by
  simp [issN, issL, issE, h, h2, h3]
theorem iss_full {ps : List APair} {x y z d : Int} (h : mayO ps = true) (h2 : pairMay ⟨x, y, z, d⟩ = true) (h3 : hasKey ps x y z = false) (h4 : ps.length = 500) : issE ps x y z d = 16 := by
  simp [issE, h, h2, h3, h4]
theorem iss_new {ps : List APair} {x y z d : Int} (h : mayO ps = true) (h2 : pairMay ⟨x, y, z, d⟩ = true) (h3 : hasKey ps x y z = false) (h4 : ¬ ps.length = 500) : issE ps x y z d = 0 ∧ issN ps x y z d = d ∧ issL ps x y z d = ps ++ [⟨x, y, z, d⟩] := by
  simp [issN, issL, issE, h, h2, h3, h4]
theorem GrewIs.bad {ps : List APair} {x y z d E : Int} {w w' : World} (h : issE ps x y z d = E) (hE : E ≠ 0) (k : Below w.heap.size w w') :
    GrewIs (issL ps x y z d) (issN ps x y z d) (issE ps x y z d) w (.returned (T3 (.agg #[.slice none 0 0]) (I 0) (I E))) w' := by
  obtain ⟨h1, h2⟩ := iss_err (h ▸ hE)
  rw [h1, h2, h]
  exact ⟨_, rfl, Sl.of_owns (World.ownsRow_nil w' w.heap.size 73 4) (Nat.zero_le _), k⟩
theorem GrewIs.good {ps L : List APair} {x y z d n : Int} {w w' : World} {v : Value} (h : issE ps x y z d = 0 ∧ issN ps x y z d = n ∧ issL ps x y z d = L) (hs : Sl w' v 4 L.length (L.flatMap APair.cells)) (k : Below w.heap.size w w') :
    GrewIs (issL ps x y z d) (issN ps x y z d) (issE ps x y z d) w (.returned (T3 (.agg #[v]) (I n) (I 0))) w' := by
  obtain ⟨h1, h2, h3⟩ := h
  rw [h1, h2, h3]
  exact ⟨_, rfl, hs, k⟩
end Go.Proofs.Ytclfbpgfnhjfcaa
