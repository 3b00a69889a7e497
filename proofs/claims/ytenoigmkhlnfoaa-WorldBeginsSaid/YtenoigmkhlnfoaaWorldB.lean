/- a new world: what its parts are in memory; its records compared -/
import Derived.Test.YtenoigmkhlnfoaaTerms
import Derived.Test.YtenoigmkhlnfoaaBlank
import Derived.Test.YtenoigmkhlnfoaaPocketMake
import Derived.Test.YtenoigmkhlnfoaaSameWords
import Derived.Deep.AppendLies
namespace Go.Proofs.Ytenoigmkhlnfoaa
set_option linter.unusedSimpArgs false
set_option linter.unusedVariables false
open Go Go.RowKit
set_option maxRecDepth 20000
theorem owns_kept {w w' : World} {b e sz n : Nat} {v : Value} {cs : List Value} (h : w.ownsRow b e sz v n cs) (hb : Below w.heap.size w w') : w'.ownsRow b e sz v n cs := by
  obtain ⟨hl, h⟩ := h
  refine ⟨hl, h.imp _root_.id ?_⟩
  rintro ⟨g, cap, cur, hv, hg, hh, r⟩
  exact ⟨g, cap, cur, hv, hg, (hb.block g (Array.getElem?_eq_some_iff.1 hh).1).trans hh, r⟩
theorem sl_keep {W W' : World} {v : Value} {sz n : Nat} {cs : List Value} (h : Sl W v sz n cs) (hs : W.heap.size ≤ W'.heap.size) (hh : ∀ a m c, v = .slice (some a) m c → 0 < n → W'.heap[a.block]? = W.heap[a.block]?) : Sl W' v sz n cs := by
  obtain ⟨a, cap, rfl, hn, hl, h0, hr⟩ := h
  refine ⟨a, cap, rfl, hn, hl, h0, ?_⟩
  rcases hr with hr | ⟨b, off, rfl, hbl, hc⟩
  · exact .inl hr
  · by_cases hp : 0 < n
    · have hb := hh _ _ _ rfl hp
      exact .inr ⟨b, off, rfl, by omega, fun j hj => (World.cell?_of_block (a := ⟨b, off + j, none⟩) hb).trans (hc j hj)⟩
    · exact .inl (by omega)
/-- words that lie at a base or above, in no block of a given row -/
def PkRec (W : World) (base : Nat) (blk : Option Nat) (u : Value) (ws : List Int) : Prop :=
  Sl W u 1 ws.length (ws.map U32) ∧ ∀ a n c, u = .slice (some a) n c → blk ≠ some a.block ∧ base ≤ a.block ∧ a.block < W.heap.size
def Pks (W : World) (base : Nat) (v : Value) (ps : List (List Int)) (us : List Value) : Prop :=
  us.length = ps.length ∧ W.ownsRow base 37 1 v ps.length us ∧ ∀ k, k < ps.length → PkRec W base v.ownBlock (us.getD k undef) (ps.getD k [])
theorem Pks.nil (W : World) (base : Nat) : Pks W base (.slice none 0 0) [] [] := ⟨rfl, World.ownsRow_nil _ _ _ _, fun k hk => absurd hk (by simp)⟩
theorem PkRec.below {W W' : World} {base : Nat} {blk : Option Nat} {u : Value} {ws : List Int} (h : PkRec W base blk u ws) (hb : Below W.heap.size W W') : PkRec W' base blk u ws :=
  ⟨h.1.below hb, fun a n c e => ⟨(h.2 a n c e).1, (h.2 a n c e).2.1, Nat.lt_of_lt_of_le (h.2 a n c e).2.2 hb.size⟩⟩
theorem Pks.below {W W' : World} {base : Nat} {v : Value} {ps : List (List Int)} {us : List Value} (h : Pks W base v ps us) (hb : Below W.heap.size W W') : Pks W' base v ps us :=
  ⟨h.1, owns_kept h.2.1 hb, fun k hk => (h.2.2 k hk).below hb⟩
/-- a store below the base -/
theorem Pks.low {W : World} {base : Nat} {v : Value} {ps : List (List Int)} {us : List Value} (h : Pks W base v ps us) {z : Nat} (hz : z < base) (j : Nat) (x : Value) : Pks (W.setCell ⟨z, j, none⟩ x) base v ps us := by
  refine ⟨h.1, ownsRow_setCell_below h.2.1 (a := ⟨z, j, none⟩) hz x, fun k hk => ?_⟩
  obtain ⟨q1, q2⟩ := h.2.2 k hk
  refine ⟨q1.set (fun a n c e => ?_) x, fun a n c e => ⟨(q2 a n c e).1, (q2 a n c e).2.1, by simp [World.setCell]; exact (q2 a n c e).2.2⟩⟩
  have := (q2 a n c e).2.1
  omega
/-- one more -/
theorem pks_snoc {W W' : World} {base g cap n : Nat} {v u : Value} {us : List Value} {ps : List (List Int)} {ws : List Int} (h : Pks W base v ps us) (hu : PkRec W base v.ownBlock u ws)
    (hown : W'.ownsRow base 37 1 (.slice (some ⟨g, 0, none⟩) n cap) n (us ++ [u])) (hn : n = ps.length + 1) (hgrow : W.grownBy W' v.ownBlock) (hg : v.ownBlock = some g ∨ g = W.heap.size) :
    Pks W' base (.slice (some ⟨g, 0, none⟩) n cap) (ps ++ [ws]) (us ++ [u]) := by
  obtain ⟨h1, h2, h3⟩ := h
  have key : ∀ (u : Value) (ws : List Int), PkRec W base v.ownBlock u ws → PkRec W' base (some g) u ws := fun u ws hp => by
    obtain ⟨q1, q2⟩ := hp
    refine ⟨sl_keep q1 hgrow.size fun a m c e hp => hgrow.block a.block (q2 a m c e).2.2 (fun e2 => (q2 a m c e).1 e2.symm), fun a m c e => ⟨fun e2 => ?_, (q2 a m c e).2.1, Nat.lt_of_lt_of_le (q2 a m c e).2.2 hgrow.size⟩⟩
    injection e2 with e2
    rcases hg with hg | hg
    · exact (q2 a m c e).1 (by rw [hg, e2])
    · have := (q2 a m c e).2.2; omega
  subst hn
  refine ⟨by simp [h1], by simpa using hown, ?_⟩
  intro k hk
  rw [List.length_append, List.length_singleton] at hk
  show PkRec W' base (some g) _ _
  by_cases hlt : k < ps.length
  · have := key _ _ (h3 k hlt)
    rw [List.getD_eq_getElem?_getD, List.getD_eq_getElem?_getD, List.getElem?_append_left (by omega), List.getElem?_append_left hlt]
    rwa [List.getD_eq_getElem?_getD, List.getD_eq_getElem?_getD] at this
  · have hkl : k = ps.length := by omega
    subst hkl
    have := key _ _ hu
    rw [List.getD_eq_getElem?_getD, List.getD_eq_getElem?_getD, List.getElem?_append_right (by omega), List.getElem?_append_right (by omega), h1]
    simpa using this
/-- records that read alike -/
def SlRecs (W : World) (v : Value) (ps : List (List Int)) (us : List Value) : Prop :=
  us.length = ps.length ∧ Sl W v 1 ps.length us ∧ ∀ k, k < ps.length → Sl W (us.getD k undef) 1 (ps.getD k []).length ((ps.getD k []).map U32)
theorem SlRecs.below {W W' : World} {v : Value} {ps : List (List Int)} {us : List Value} (h : SlRecs W v ps us) (hb : Below W.heap.size W W') : SlRecs W' v ps us :=
  ⟨h.1, h.2.1.below hb, fun k hk => (h.2.2 k hk).below hb⟩
theorem Pks.sl {W : World} {base : Nat} {v : Value} {ps : List (List Int)} {us : List Value} (h : Pks W base v ps us) (hn : ps.length ≤ 4096) : SlRecs W v ps us :=
  ⟨h.1, Sl.of_owns h.2.1 (by omega), fun k hk => (h.2.2 k hk).1⟩
set_option maxHeartbeats 2000000 in
theorem sameRecS_any (v1 v2 : Value) (ps : List (List Int)) (us1 us2 : List Value) (w : World) (h1 : SlRecs w v1 ps us1) (h2 : SlRecs w v2 ps us2) (hn : ps.length ≤ 4096) :
    Calls Try.prog 47 #[v1, v2] w (Grew (.bool true) w) := by
  have L1 := h1.1
  have L2 := h2.1
  obtain ⟨a1, c1, rfl, hn1, hl1, _, s1⟩ := h1.2.1
  obtain ⟨a2, c2, rfl, hn2, hl2, _, s2⟩ := h2.2.1
  have H1 := Lib.hid h1.2.2
  have H2 := Lib.hid h2.2.2
  clear h1 h2
  go_enter Try.func47, Try.ntmps47
  go_wp2
  go_loopw [5] (fun i wr => ∃ k : Nat, k ≤ ps.length ∧ i = I k ∧ Below w.heap.size w wr) (fun i _ => ps.length - (intOf i).toNat)
  case atStart => exact ⟨0, Nat.zero_le _, rfl, Below.refl _ _⟩
  case round =>
    obtain ⟨k, hk, rfl, hbw⟩ := hrel
    by_cases hlt : k < ps.length
    · obtain ⟨b1, o1, rfl, hb1, hc1⟩ := s1.resolve_left (by omega)
      obtain ⟨b2, o2, rfl, hb2, hc2⟩ := s2.resolve_left (by omega)
      have e1 := (hbw.cell (p := ⟨b1, o1 + k, none⟩) hb1).trans (hc1 k (by omega))
      have e2 := (hbw.cell (p := ⟨b2, o2 + k, none⟩) hb2).trans (hc2 k (by omega))
      have r1 := (H1.out k hlt).below hbw
      have r2 := (H2.out k hlt).below hbw
      have S := Lib.hid (fun W hW1 hW2 => sameWords_any (us1.getD k undef) (us2.getD k undef) (ps.getD k []) (ps.getD k []) W hW1 hW2)
      simp only [decide_true] at S
      clear hc1 hc2 s1 s2 H1 H2 L1 L2 hl1 hl2
      have hi0 : (0 : Int) ≤ (k : Int) := by omega
      have hi1 : (k : Int) < (ps.length : Int) := by omega
      generalize us1.getD k undef = u1 at *
      generalize us2.getD k undef = u2 at *
      generalize ps.getD k [] = ws at *
      go_wp2
      go_region_with ((refine (S.out _ ?_ ?_).mono ?_; (first | assumption | (apply Sl.drew; assumption)); (first | assumption | (apply Sl.drew; assumption)); rintro e w1 ⟨rfl, k1⟩))
      all_goals
        go_wp2
        exact ⟨⟨k + 1, by omega, by go_num, by first | exact hbw.trans (k1.mono hbw.size) | exact hbw.trans ((k1.mono hbw.size)) | (refine Below.trans ?_ (k1.mono hbw.size); exact drewN_below hbw 1)⟩, by simp [intOf]; omega⟩
    · have hge : (ps.length : Int) ≤ (k : Int) := by omega
      clear s1 s2 H1 H2
      go_wp2
      go_ret
      exact Grew.intro rfl hbw
/-- what a new world is -/
def wbE (ts : List AStep) (f b d al dn me : Int) : Int := if termsE ts f b d al = 0 then (if blankE dn = 0 then (if inB me 0 50 then 0 else 2) else blankE dn) else termsE ts f b d al
def wbPks (me : Int) : List (List Int) := (List.range me.toNat).map fun k => makeL (k : Nat)
def WbP (ts : List AStep) (f b d al dn me : Int) (w : World) (e : Ending) (w' : World) : Prop :=
  (wbE ts f b d al dn me = 0 → ∃ tv dv pv us, e = .returned (T2 (.agg #[tv, I f, I b, I d, I al, dv, .slice none 0 0, pv]) (I 0)) ∧ Sl w' tv 2 ts.length (ts.flatMap AStep.cells) ∧ Sl w' dv 1 (blankN dn) (List.replicate (blankN dn) (U32 0)) ∧ SlRecs w' pv (wbPks me) us ∧ Below w.heap.size w w') ∧
  (wbE ts f b d al dn me ≠ 0 → e = .returned (T2 (.agg #[.slice none 0 0, I 0, I 0, I 0, I 0, .slice none 0 0, .slice none 0 0, .slice none 0 0]) (I (wbE ts f b d al dn me))) ∧ Below w.heap.size w w')
theorem WbP.bad {ts : List AStep} {f b d al dn me k : Int} {w w' : World} (h : wbE ts f b d al dn me = k) (hk : k ≠ 0) (hb : Below w.heap.size w w') : WbP ts f b d al dn me w (.returned (T2 (.agg #[.slice none 0 0, I 0, I 0, I 0, I 0, .slice none 0 0, .slice none 0 0, .slice none 0 0]) (I k))) w' := by
  subst h
  exact ⟨fun h => absurd h hk, fun _ => ⟨rfl, hb⟩⟩
theorem WbP.good {ts : List AStep} {f b d al dn me : Int} {w w' : World} {tv dv pv : Value} {us : List Value} (h : wbE ts f b d al dn me = 0) (h1 : Sl w' tv 2 ts.length (ts.flatMap AStep.cells)) (h2 : Sl w' dv 1 (blankN dn) (List.replicate (blankN dn) (U32 0))) (h3 : SlRecs w' pv (wbPks me) us) (hb : Below w.heap.size w w') :
    WbP ts f b d al dn me w (.returned (T2 (.agg #[tv, I f, I b, I d, I al, dv, .slice none 0 0, pv]) (I 0))) w' := ⟨fun _ => ⟨tv, dv, pv, us, rfl, h1, h2, h3, hb⟩, fun hk => absurd h hk⟩
theorem wb_terms {ts : List AStep} {f b d al dn me : Int} (h : termsE ts f b d al ≠ 0) : wbE ts f b d al dn me = termsE ts f b d al := by unfold wbE; rw [if_neg h]
theorem wb_blank {ts : List AStep} {f b d al dn me : Int} (h : termsE ts f b d al = 0) (h2 : blankE dn ≠ 0) : wbE ts f b d al dn me = blankE dn := by unfold wbE; rw [if_pos h, if_neg h2]
theorem wb_range {ts : List AStep} {f b d al dn me : Int} (h : termsE ts f b d al = 0) (h2 : blankE dn = 0) (h3 : inB me 0 50 = false) : wbE ts f b d al dn me = 2 := by unfold wbE; rw [if_pos h, if_pos h2, h3]; rfl
theorem wb_good {ts : List AStep} {f b d al dn me : Int} (h : termsE ts f b d al = 0) (h2 : blankE dn = 0) (h3 : inB me 0 50 = true) : wbE ts f b d al dn me = 0 := by unfold wbE; rw [if_pos h, if_pos h2, h3]; rfl
end Go.Proofs.Ytenoigmkhlnfoaa
